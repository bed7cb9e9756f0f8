/-
  Joined texts: what a statement's proof reaches.
-/
import Derived.Test.YtfceaphohlbnbaaGreatPStarts5
set_option maxHeartbeats 8000000
section
namespace Go.Proofs.YtfceaphohlbnbaaGreat

open Go Leg Codec Api Dsk Wal

set_option linter.unusedSimpArgs false
set_option linter.unusedVariables false

set_option maxRecDepth 100000

set_option maxHeartbeats 8000000

theorem grow_does (r ob lg d : Nat) (x : RepT) (y : RowT) (op : Int) (recs : List (List UInt8)) (l : List SaidT) (hlog : x.log = .pointer (some ⟨lg, 0, none⟩)) (hroom : sizeS recs + piecesN (encR (rowRec y)).length ≤ 2048) (hl : l.length ≤ 900000) (hid : machB x.id = true) :
    Does Tryz.prog 42 #[(.pointer (some ⟨r, 0, none⟩)), (.iface 34 (.pointer (some ⟨ob, 0, none⟩))), (.agg (ints y.flat).toArray), (.int .i64 (op))] (fun _ => True) [blkA r (RepT.cells x) 104, lgP lg d (((recs).length : Nat) : Int) ((sizeS (recs) : Nat) : Int), dkL d (recs), outP ob (l)] (Ret (fun r' H => r' = .int .i64 0 ∧ H = [blkA r (RepT.cells (growF x y op)) 104, lgL lg d (recs ++ [encR (rowRec y)]), dkL d (recs ++ [encR (rowRec y)]), outP ob (l ++ tellL (growF x y op))])) := by
 refine Does.body (vs := [(.pointer (some ⟨r, 0, none⟩)), (.iface 34 (.pointer (some ⟨ob, 0, none⟩))), (.agg (ints y.flat).toArray), (.int .i64 (op))]) (n := 34) Tryz.func42 rfl rfl rfl (fun w0 F hF => ?_)
 refine sr fun _ J1 => ?_
 refine TL.box (Want.plain rfl) rfl rfl rfl rfl (fun b6 => ?_)
 change TL _ _ _ _ _ _ _ _ _ [blkA b6 (ints y.flat) 48, blkA r (RepT.cells x) 104, lgP lg d (((recs).length : Nat) : Int) ((sizeS (recs) : Nat) : Int), dkL d (recs), outP ob (l)]
 refine sg' ?_
 refine nx J1 ?_
 refine TC.seq fun _ J2 => ?_
 refine sr fun _ J3 => ?_
 refine mv ?_
 refine tp (PV.loadN (vs := ints y.flat) rfl Tryz.underlying48 rfl sz48 rfl (Rd.own 0 rfl rfl) (RowT.len y) (whole (RowT.len y))) ?_
 refine tp (PV.buildSegs (cs := ints (RecT.mk 0 0 y 0 BallotT.zero ChangeT.zero ViewT.zero).flat) (segs := [[Value.int .i64 0], [Value.int .i64 0], ints RowT.zero.flat, [Value.int .i64 0], ints BallotT.zero.flat, ints ChangeT.zero.flat, ints ViewT.zero.flat]) (res := [[Value.int .i64 0], [Value.int .i64 0], ints y.flat, [Value.int .i64 0], ints BallotT.zero.flat, ints ChangeT.zero.flat, ints ViewT.zero.flat]) (parts := [(0, [Value.int .i64 0]), (2, ints y.flat)]) rfl rfl Tryz.underlying108 (by kernel_rfl) (by kernel_rfl) rfl (putSegs_step rfl ((rfl : [Value.int .i64 0].length = 1).trans (rfl : [Value.int .i64 0].length = 1).symm) (putSegs_step rfl ((RowT.len y).trans (RowT.len RowT.zero).symm) putSegs_nil)) (RecT.eq (RecT.mk 0 0 y 0 BallotT.zero ChangeT.zero ViewT.zero)).symm) ?_
 refine TL.callR (A := [blkA r (RepT.cells x) 104, lgP lg d (((recs).length : Nat) : Int) ((sizeS (recs) : Nat) : Int), dkL d (recs)]) (Want.plain rfl) rfl rfl rfl nm78 rfl (put_does r lg d x (RecT.mk 0 0 y 0 BallotT.zero ChangeT.zero ViewT.zero) (recs) hlog hroom (Nat.le_trans (rowRec_len y) (by decide))) (fun _ s => sep_selR [1, 1, 1] rfl s) (fun _ _ _ => trivial) (fun vR HR hR => ?_)
 obtain ⟨rfl, rfl⟩ := hR
 change TL _ _ _ _ _ _ _ _ _ [blkA r (RepT.cells x) 104, lgP lg d (((recs ++ [encR (RecT.mk 0 0 y 0 BallotT.zero ChangeT.zero ViewT.zero)]).length : Nat) : Int) ((sizeS (recs ++ [encR (RecT.mk 0 0 y 0 BallotT.zero ChangeT.zero ViewT.zero)]) : Nat) : Int), dkL d (recs ++ [encR (RecT.mk 0 0 y 0 BallotT.zero ChangeT.zero ViewT.zero)]), blkA b6 (ints y.flat) 48, outP ob (l)]
 refine sg' ?_
 refine nx J3 ?_
 refine sr fun _ J4 => ?_
 refine mv ?_
 refine tp (PV.neq rfl rfl rfl) ?_
 refine nx J4 ?_
 refine TC.no rfl ?_
 refine TC.skip ?_
 refine TE.next J2 ?_
 refine sr fun _ J5 => ?_
 refine mv ?_
 refine mv ?_
 refine mv ?_
 refine mv ?_
 refine tp (PV.loadN (vs := ints y.flat) rfl Tryz.underlying48 rfl sz48 rfl (Rd.own 3 rfl rfl) (RowT.len y) (whole (RowT.len y))) ?_
 refine mv ?_
 refine tp (PV.nilCheck rfl rfl) ?_
 refine tp (PV.fieldAddr (r := 9) rfl Tryz.underlying104 rfl sz48 rfl rfl) ?_
 refine TL.store (vs := ints y.flat) (i := 0) (H' := [blkA r (RepT.cells (RepT.mk x.id x.log x.view y x.mirror x.acc x.round x.vote x.book x.busy x.kept x.waits x.ops x.replies x.told x.last)) 104, lgP lg d (((recs ++ [encR (RecT.mk 0 0 y 0 BallotT.zero ChangeT.zero ViewT.zero)]).length : Nat) : Int) ((sizeS (recs ++ [encR (RecT.mk 0 0 y 0 BallotT.zero ChangeT.zero ViewT.zero)]) : Nat) : Int), dkL d (recs ++ [encR (RecT.mk 0 0 y 0 BallotT.zero ChangeT.zero ViewT.zero)]), blkA b6 (ints y.flat) 48, outP ob (l)]) (Want.plain rfl) rfl rfl rfl rfl rfl (by rw [(RowT.len y)]; exact sz48) (ints_one _) rfl rfl (by have h0 := (RepT.len x); have h1 := (RowT.len y); omega) (RepT.wr_own_ x 0 rfl (by have h1 := (RowT.len y); omega) (wwhole ((RowT.len x.own).trans (RowT.len y).symm))) rfl ?_
 refine tp (PV.nilCheck rfl rfl) ?_
 refine tp (PV.fieldAddr (r := 1938) rfl Tryz.underlying104 rfl sz4 rfl rfl) ?_
 refine TL.store1 (i := 0) (H' := [blkA r (RepT.cells (RepT.mk x.id x.log x.view y x.mirror x.acc x.round x.vote x.book true x.kept x.waits x.ops x.replies x.told x.last)) 104, lgP lg d (((recs ++ [encR (RecT.mk 0 0 y 0 BallotT.zero ChangeT.zero ViewT.zero)]).length : Nat) : Int) ((sizeS (recs ++ [encR (RecT.mk 0 0 y 0 BallotT.zero ChangeT.zero ViewT.zero)]) : Nat) : Int), dkL d (recs ++ [encR (RecT.mk 0 0 y 0 BallotT.zero ChangeT.zero ViewT.zero)]), blkA b6 (ints y.flat) 48, outP ob (l)]) (Want.plain rfl) rfl rfl rfl rfl rfl sz4 rfl rfl (by have h0 := (RepT.len (RepT.mk x.id x.log x.view y x.mirror x.acc x.round x.vote x.book x.busy x.kept x.waits x.ops x.replies x.told x.last)); omega) (RepT.set_busy (RepT.mk x.id x.log x.view y x.mirror x.acc x.round x.vote x.book x.busy x.kept x.waits x.ops x.replies x.told x.last) rfl _) rfl ?_
 refine tp (PV.nilCheck rfl rfl) ?_
 refine tp (PV.fieldAddr (r := 1939) rfl Tryz.underlying104 rfl sz3 rfl rfl) ?_
 refine TL.store1 (i := 0) (H' := [blkA r (RepT.cells (RepT.mk x.id x.log x.view y x.mirror x.acc x.round x.vote x.book true 0 x.waits x.ops x.replies x.told x.last)) 104, lgP lg d (((recs ++ [encR (RecT.mk 0 0 y 0 BallotT.zero ChangeT.zero ViewT.zero)]).length : Nat) : Int) ((sizeS (recs ++ [encR (RecT.mk 0 0 y 0 BallotT.zero ChangeT.zero ViewT.zero)]) : Nat) : Int), dkL d (recs ++ [encR (RecT.mk 0 0 y 0 BallotT.zero ChangeT.zero ViewT.zero)]), blkA b6 (ints y.flat) 48, outP ob (l)]) (Want.plain rfl) rfl rfl rfl rfl rfl sz3 rfl rfl (by have h0 := (RepT.len (RepT.mk x.id x.log x.view y x.mirror x.acc x.round x.vote x.book true x.kept x.waits x.ops x.replies x.told x.last)); omega) (RepT.set_kept (RepT.mk x.id x.log x.view y x.mirror x.acc x.round x.vote x.book true x.kept x.waits x.ops x.replies x.told x.last) rfl _) rfl ?_
 refine tp (PV.nilCheck rfl rfl) ?_
 refine tp (PV.fieldAddr (r := 1940) rfl Tryz.underlying104 rfl sz3 rfl rfl) ?_
 refine TL.store1 (i := 0) (H' := [blkA r (RepT.cells (RepT.mk x.id x.log x.view y x.mirror x.acc x.round x.vote x.book true 0 op x.ops x.replies x.told x.last)) 104, lgP lg d (((recs ++ [encR (RecT.mk 0 0 y 0 BallotT.zero ChangeT.zero ViewT.zero)]).length : Nat) : Int) ((sizeS (recs ++ [encR (RecT.mk 0 0 y 0 BallotT.zero ChangeT.zero ViewT.zero)]) : Nat) : Int), dkL d (recs ++ [encR (RecT.mk 0 0 y 0 BallotT.zero ChangeT.zero ViewT.zero)]), blkA b6 (ints y.flat) 48, outP ob (l)]) (Want.plain rfl) rfl rfl rfl rfl rfl sz3 rfl rfl (by have h0 := (RepT.len (RepT.mk x.id x.log x.view y x.mirror x.acc x.round x.vote x.book true 0 x.waits x.ops x.replies x.told x.last)); omega) (RepT.set_waits (RepT.mk x.id x.log x.view y x.mirror x.acc x.round x.vote x.book true 0 x.waits x.ops x.replies x.told x.last) rfl _) rfl ?_
 refine nx J5 ?_
 refine sr fun _ J6 => ?_
 refine mv ?_
 refine mv ?_
 refine TL.callR (A := [blkA r (RepT.cells (RepT.mk x.id x.log x.view y x.mirror x.acc x.round x.vote x.book true 0 op x.ops x.replies x.told x.last)) 104, outP ob (l)]) (Want.plain rfl) rfl rfl rfl nm58 rfl (tellRow_does r ob (RepT.mk x.id x.log x.view y x.mirror x.acc x.round x.vote x.book true 0 op x.ops x.replies x.told x.last) (l) hl hid) (fun _ s => sep_selR [0, 3] rfl s) (fun _ _ _ => trivial) (fun vR HR hR => ?_)
 obtain rfl := hR
 change TL _ _ _ _ _ _ _ _ _ [blkA r (RepT.cells (RepT.mk x.id x.log x.view y x.mirror x.acc x.round x.vote x.book true 0 op x.ops x.replies x.told x.last)) 104, outP ob (l ++ tellL (RepT.mk x.id x.log x.view y x.mirror x.acc x.round x.vote x.book true 0 op x.ops x.replies x.told x.last)), lgP lg d (((recs ++ [encR (RecT.mk 0 0 y 0 BallotT.zero ChangeT.zero ViewT.zero)]).length : Nat) : Int) ((sizeS (recs ++ [encR (RecT.mk 0 0 y 0 BallotT.zero ChangeT.zero ViewT.zero)]) : Nat) : Int), dkL d (recs ++ [encR (RecT.mk 0 0 y 0 BallotT.zero ChangeT.zero ViewT.zero)]), blkA b6 (ints y.flat) 48]
 refine nx J6 ?_
 refine sr fun _ J7 => ?_
 refine sg' ?_
 refine nx J7 ?_
 refine TC.ret ?_
 refine TE.weak (Sub.refl _) (fun _ s => sep_keep [0, 1, 1, 0] rfl s) ?_
 refine TE.ret1 rfl rfl ?_
 exact ⟨rfl, rfl⟩
theorem plan_does (r : Nat) (x : RepT) (o : OpT) :
    Does Tryz.prog 40 #[(.pointer (some ⟨r, 0, none⟩)), (.agg (ints o.flat).toArray)] (fun _ => True) [blkA r (RepT.cells x) 104] (Ret (fun r' H => r' = .tuple #[.agg (ints (planF x o).1.flat).toArray, .int .i64 (planF x o).2.1, .int .i64 (planF x o).2.2] ∧ H = [blkA r (RepT.cells x) 104])) := by
 refine Does.body (vs := [(.pointer (some ⟨r, 0, none⟩)), (.agg (ints o.flat).toArray)]) (n := 121) Tryz.func40 rfl rfl rfl (fun w0 F hF => ?_)
 refine sr fun _ J1 => ?_
 refine TL.box (Want.plain rfl) rfl rfl rfl rfl (fun b3 => ?_)
 change TL _ _ _ _ _ _ _ _ _ [blkA b3 (ints o.flat) 38, blkA r (RepT.cells x) 104]
 refine TL.alloc (Want.plain rfl) rfl rfl rfl z48 (fun b4 => ?_)
 change TL _ _ _ _ _ _ _ _ _ [blkA b4 (ints RowT.zero.flat) 48, blkA b3 (ints o.flat) 38, blkA r (RepT.cells x) 104]
 refine sg' ?_
 refine sg' ?_
 refine nx J1 ?_
 clear J1
 refine TC.seq fun _ J2 => ?_
 refine TC.seq fun _ J3 => ?_
 refine TC.draw (fun w => Frm F w ∧ w.heap[r]? = some (.cells (RepT.cells x).toArray 104 (0, 0)) ∧ True) mixed rfl (fun _ s => ⟨Frm.of s, s.block 2 (lb rfl) rfl, trivial⟩) ?_
 refine ta 0 rfl (PV.move rfl rfl) ?_
 refine ta 1 rfl (PV.nilCheck rfl rfl) ?_
 refine ta 2 rfl (PV.fieldAddr (r := 2) rfl Tryz.underlying104 rfl sz52 rfl rfl) ?_
 refine ta 3 rfl (PV.loadN (vs := ints x.view.flat) rfl Tryz.underlying52 rfl sz52 rfl (fun _ h => h.2.1) (ViewT.len x.view) (RepT.sub_view x 0 rfl (by decide) (whole (ViewT.len x.view)))) ?_
 refine ta 4 rfl (PV.move rfl rfl) ?_
 refine ta 5 rfl (PV.nilCheck rfl rfl) ?_
 refine ta 6 rfl (PV.fieldAddr (r := 0) rfl Tryz.underlying104 rfl sz3 rfl rfl) ?_
 refine ta 7 rfl (PV.load1 (v := (.int .i64 (x.id))) rfl Tryz.underlying3 rfl rfl (fun _ h => h.2.1) (RepT.at_id x rfl)) ?_
 refine TD.all [8] (by kernel_rfl) rfl ?_
 refine AllT.cons rfl ?_ ?_
 refine TL.callR (A := []) (Want.plain rfl) rfl rfl rfl nm38 rfl (member_does x.view x.id) (fun _ s => s) (fun _ _ _ => trivial) (fun vR HR hR => ?_)
 obtain ⟨rfl, rfl⟩ := hR
 change TL _ _ _ _ _ _ _ _ _ [blkA b4 (ints RowT.zero.flat) 48, blkA b3 (ints o.flat) 38, blkA r (RepT.cells x) 104]
 refine TL.decB (fun h17 => ?_) (fun h17 => ?_)
 refine TL.nil ?_
 refine TE.draw (fun _ s => ⟨Frm.of s, s.block 2 (lb rfl) rfl, trivial⟩) ?_
 refine ta 9 rfl (PV.not (r := false) rfl rfl rfl) ?_
 refine TD.done (by kernel_rfl) ?_
 refine TE.next J3 ?_
 clear J3
 refine TC.no rfl ?_
 refine TC.skip ?_
 refine TE.next J2 ?_
 clear J2
 refine TC.seq fun _ J4 => ?_
 refine sr fun _ J5 => ?_
 refine tp (PV.fieldAddr (r := 3) rfl Tryz.underlying38 rfl sz3 rfl rfl) ?_
 refine tp (PV.load1 (v := (.int .i64 (o.key))) rfl Tryz.underlying3 rfl rfl (Rd.own 1 rfl rfl) (OpT.at_key o rfl)) ?_
 refine tp (PV.lss rfl rfl rfl) ?_
 refine TL.dec (fun h22 => ?_) (fun h22 => ?_)
 have hkb : keyB o.key = false := decide_eq_false (by omega)
 refine mv ?_
 refine TL.unmet (b := true) rfl rfl rfl rfl (lb rfl) ?_
 refine TL.unmet (b := true) rfl rfl rfl rfl (lb rfl) ?_
 refine TL.unmet (b := true) rfl rfl rfl rfl (lb rfl) ?_
 refine tp (PV.pick rfl rfl rfl) ?_
 refine nx J5 ?_
 clear J5
 refine TC.yes rfl ?_
 refine sr fun _ J6 => ?_
 refine tp (PV.build (cells := (ints RowT.zero.flat).toArray) rfl rfl (by as_aux_lemma => kernel_rfl)) ?_
 refine TL.store (vs := ints RowT.zero.flat) (i := 0) (H' := [blkA b4 (ints RowT.zero.flat) 48, blkA b3 (ints o.flat) 38, blkA r (RepT.cells x) 104]) (Want.plain rfl) rfl rfl rfl rfl rfl (by rw [(RowT.len RowT.zero)]; exact sz48) (ints_one _) rfl rfl (by have h0 := (RowT.len RowT.zero); have h1 := (RowT.len RowT.zero); omega) (wwhole ((RowT.len RowT.zero).trans (RowT.len RowT.zero).symm)) rfl ?_
 refine sg' ?_
 refine sg' ?_
 refine nx J6 ?_
 clear J6
 refine TC.ret ?_
 refine TE.passRet ?_
 clear J4
 refine TE.retCTT (H' := [blkA r (RepT.cells x) 104]) rfl rfl rfl rfl Tryz.underlying48 rfl sz48 (Rd.own 0 rfl rfl) (RowT.len RowT.zero) (fun _ s => sep_keep [2] rfl s) ?_
 exact ⟨by simp [planF, growOf, *], rfl⟩
 refine mv ?_
 refine tq (PV.fieldAddr (r := 3) rfl Tryz.underlying38 rfl sz3 rfl rfl) ?_
 refine tq (PV.load1 (v := (.int .i64 (o.key))) rfl Tryz.underlying3 rfl rfl (Rd.own 1 rfl rfl) (OpT.at_key o rfl)) ?_
 refine tq (PV.geq rfl rfl rfl) ?_
 refine TL.dec (fun h26 => ?_) (fun h26 => ?_)
 have hkb : keyB o.key = false := decide_eq_false (by omega)
 refine tp (PV.pick rfl rfl rfl) ?_
 refine nx J5 ?_
 clear J5
 refine TC.yes rfl ?_
 refine sr fun _ J7 => ?_
 refine tp (PV.build (cells := (ints RowT.zero.flat).toArray) rfl rfl (by as_aux_lemma => kernel_rfl)) ?_
 refine TL.store (vs := ints RowT.zero.flat) (i := 0) (H' := [blkA b4 (ints RowT.zero.flat) 48, blkA b3 (ints o.flat) 38, blkA r (RepT.cells x) 104]) (Want.plain rfl) rfl rfl rfl rfl rfl (by rw [(RowT.len RowT.zero)]; exact sz48) (ints_one _) rfl rfl (by have h0 := (RowT.len RowT.zero); have h1 := (RowT.len RowT.zero); omega) (wwhole ((RowT.len RowT.zero).trans (RowT.len RowT.zero).symm)) rfl ?_
 refine sg' ?_
 refine sg' ?_
 refine nx J7 ?_
 clear J7
 refine TC.ret ?_
 refine TE.passRet ?_
 clear J4
 refine TE.retCTT (H' := [blkA r (RepT.cells x) 104]) rfl rfl rfl rfl Tryz.underlying48 rfl sz48 (Rd.own 0 rfl rfl) (RowT.len RowT.zero) (fun _ s => sep_keep [2] rfl s) ?_
 exact ⟨by simp [planF, growOf, *], rfl⟩
 have hkb : keyB o.key = true := decide_eq_true (by omega)
 refine tp (PV.pick rfl rfl rfl) ?_
 refine nx J5 ?_
 clear J5
 refine TC.no rfl ?_
 refine TC.skip ?_
 refine TE.next J4 ?_
 clear J4
 refine TC.seq fun _ J8 => ?_
 refine sr fun _ J9 => ?_
 refine tp (PV.fieldAddr (r := 0) rfl Tryz.underlying38 rfl sz3 rfl rfl) ?_
 refine tp (PV.load1 (v := (.int .i64 (o.kind))) rfl Tryz.underlying3 rfl rfl (Rd.own 1 rfl rfl) (OpT.at_kind o rfl)) ?_
 refine tp (PV.eql rfl rfl rfl) ?_
 refine TL.dec (fun h31 => ?_) (fun h31 => ?_)
 refine nx J9 ?_
 clear J9
 refine TC.yes rfl ?_
 refine TC.seq fun _ J10 => ?_
 refine TC.draw (fun w => Frm F w ∧ w.heap[b3]? = some (.cells (ints o.flat).toArray 38 (0, 0)) ∧ True) mixed rfl (fun _ s => ⟨Frm.of s, s.block 1 (lb rfl) rfl, trivial⟩) ?_
 refine ta 0 rfl (PV.build (cells := (ints RowT.zero.flat).toArray) rfl rfl (by as_aux_lemma => kernel_rfl)) ?_
 refine ta 1 rfl (PV.move rfl rfl) ?_
 refine ta 2 rfl (PV.nilCheck rfl rfl) ?_
 refine ta 3 rfl (PV.fieldAddr (r := 1068) rfl Tryz.underlying104 rfl sz71 rfl rfl) ?_
 refine ta 4 rfl (PV.fieldAddr (r := 3) rfl Tryz.underlying38 rfl sz3 rfl rfl) ?_
 refine ta 5 rfl (PV.load1 (v := (.int .i64 (o.key))) rfl Tryz.underlying3 rfl rfl (fun _ h => h.2.1) (OpT.at_key o rfl)) ?_
 refine TD.all [6] (by kernel_rfl) rfl ?_
 refine AllT.cons rfl ?_ ?_
 refine TL.callR (A := [blkA r (RepT.cells x) 104]) (Want.plain rfl) rfl rfl rfl nm22 rfl (bookValue_does r 1068 104 (fun u => RepT.cells { x with book := u }) (RepT.arnd_book x) x.book o.key) (fun _ s => sep_selR [2] rfl s) (fun _ _ _ => trivial) (fun vR HR hR => ?_)
 obtain ⟨rfl, rfl⟩ := hR
 change TL _ _ _ _ _ _ _ _ _ [blkA r (RepT.cells x) 104, blkA b4 (ints RowT.zero.flat) 48, blkA b3 (ints o.flat) 38]
 refine TL.nil ?_
 refine TE.draw (fun _ s => ⟨Frm.of s, s.block 2 (lb rfl) rfl, trivial⟩) ?_
 refine TD.all [7] (by kernel_rfl) rfl ?_
 refine AllT.cons rfl ?_ ?_
 refine TL.store (vs := ints RowT.zero.flat) (i := 1) (H' := [blkA r (RepT.cells x) 104, blkA b4 (ints RowT.zero.flat) 48, blkA b3 (ints o.flat) 38]) (Want.plain rfl) rfl rfl rfl rfl rfl (by rw [(RowT.len RowT.zero)]; exact sz48) (ints_one _) rfl rfl (by have h0 := (RowT.len RowT.zero); have h1 := (RowT.len RowT.zero); omega) (wwhole ((RowT.len RowT.zero).trans (RowT.len RowT.zero).symm)) rfl ?_
 refine TL.nil ?_
 refine TE.draw (fun _ s => ⟨Frm.of s, s.block 2 (lb rfl) rfl, trivial⟩) ?_
 refine ta 8 rfl (PV.assign rfl rfl) ?_
 refine ta 9 rfl (PV.assign rfl rfl) ?_
 refine TD.done (by kernel_rfl) ?_
 refine TE.next J10 ?_
 clear J10
 refine TC.ret ?_
 refine TE.passRet ?_
 clear J8
 refine TE.retCTT (H' := [blkA r (RepT.cells x) 104]) rfl rfl rfl rfl Tryz.underlying48 rfl sz48 (Rd.own 1 rfl rfl) (RowT.len RowT.zero) (fun _ s => sep_keep [0] rfl s) ?_
 exact ⟨by simp [planF, growOf, *], rfl⟩
 exact AllT.nil
 exact AllT.nil
 refine nx J9 ?_
 clear J9
 refine TC.no rfl ?_
 refine TC.skip ?_
 refine TE.next J8 ?_
 clear J8
 refine TC.seq fun _ J11 => ?_
 refine sr fun _ J12 => ?_
 refine mv ?_
 refine tp (PV.nilCheck rfl rfl) ?_
 refine tp (PV.fieldAddr (r := 1938) rfl Tryz.underlying104 rfl sz4 rfl rfl) ?_
 refine tp (PV.load1 (v := (.bool (x.busy))) rfl Tryz.underlying4 rfl rfl (Rd.own 2 rfl rfl) (RepT.at_busy x rfl)) ?_
 refine TL.decB (fun h42 => ?_) (fun h42 => ?_)
 refine nx J12 ?_
 clear J12
 refine TC.yes rfl ?_
 refine sr fun _ J13 => ?_
 refine tp (PV.build (cells := (ints RowT.zero.flat).toArray) rfl rfl (by as_aux_lemma => kernel_rfl)) ?_
 refine TL.store (vs := ints RowT.zero.flat) (i := 0) (H' := [blkA b4 (ints RowT.zero.flat) 48, blkA b3 (ints o.flat) 38, blkA r (RepT.cells x) 104]) (Want.plain rfl) rfl rfl rfl rfl rfl (by rw [(RowT.len RowT.zero)]; exact sz48) (ints_one _) rfl rfl (by have h0 := (RowT.len RowT.zero); have h1 := (RowT.len RowT.zero); omega) (wwhole ((RowT.len RowT.zero).trans (RowT.len RowT.zero).symm)) rfl ?_
 refine sg' ?_
 refine sg' ?_
 refine nx J13 ?_
 clear J13
 refine TC.ret ?_
 refine TE.passRet ?_
 clear J11
 refine TE.retCTT (H' := [blkA r (RepT.cells x) 104]) rfl rfl rfl rfl Tryz.underlying48 rfl sz48 (Rd.own 0 rfl rfl) (RowT.len RowT.zero) (fun _ s => sep_keep [2] rfl s) ?_
 exact ⟨by simp [planF, growOf, *], rfl⟩
 refine nx J12 ?_
 clear J12
 refine TC.no rfl ?_
 refine TC.skip ?_
 refine TE.next J11 ?_
 clear J11
 refine sr fun _ J14 => ?_
 refine TL.alloc (Want.plain rfl) rfl rfl rfl z48 (fun b7 => ?_)
 change TL _ _ _ _ _ _ _ _ _ [blkA b7 (ints RowT.zero.flat) 48, blkA b4 (ints RowT.zero.flat) 48, blkA b3 (ints o.flat) 38, blkA r (RepT.cells x) 104]
 refine nx J14 ?_
 clear J14
 refine sr fun _ J15 => ?_
 refine sg' ?_
 refine nx J15 ?_
 clear J15
 refine TC.seq fun _ J16 => ?_
 refine sr fun _ J17 => ?_
 refine tp (PV.fieldAddr (r := 0) rfl Tryz.underlying38 rfl sz3 rfl rfl) ?_
 refine tp (PV.load1 (v := (.int .i64 (o.kind))) rfl Tryz.underlying3 rfl rfl (Rd.own 2 rfl rfl) (OpT.at_kind o rfl)) ?_
 refine nx J17 ?_
 clear J17
 refine TC.block ?_
 refine sr fun _ J18 => ?_
 refine tp (PV.eql rfl rfl rfl) ?_
 refine TL.dec (fun h47 => ?_) (fun h47 => ?_)
 refine sg' ?_
 refine nx J18 ?_
 clear J18
 refine TC.yes rfl ?_
 refine TC.draw (fun w => Frm F w ∧ w.heap[r]? = some (.cells (RepT.cells x).toArray 104 (0, 0)) ∧ w.heap[b3]? = some (.cells (ints o.flat).toArray 38 (0, 0)) ∧ True) mixed rfl (fun _ s => ⟨Frm.of s, s.block 3 (lb rfl) rfl, s.block 2 (lb rfl) rfl, trivial⟩) ?_
 refine ta 0 rfl (PV.move rfl rfl) ?_
 refine ta 1 rfl (PV.nilCheck rfl rfl) ?_
 refine ta 2 rfl (PV.fieldAddr (r := 9) rfl Tryz.underlying104 rfl sz48 rfl rfl) ?_
 refine ta 3 rfl (PV.loadN (vs := ints x.own.flat) rfl Tryz.underlying48 rfl sz48 rfl (fun _ h => h.2.1) (RowT.len x.own) (RepT.sub_own x 0 rfl (by decide) (whole (RowT.len x.own)))) ?_
 refine ta 4 rfl (PV.fieldAddr (r := 3) rfl Tryz.underlying38 rfl sz3 rfl rfl) ?_
 refine ta 5 rfl (PV.load1 (v := (.int .i64 (o.key))) rfl Tryz.underlying3 rfl rfl (fun _ h => h.2.2.1) (OpT.at_key o rfl)) ?_
 refine ta 6 rfl (PV.fieldAddr (r := 4) rfl Tryz.underlying38 rfl sz3 rfl rfl) ?_
 refine ta 7 rfl (PV.load1 (v := (.int .i64 (o.n))) rfl Tryz.underlying3 rfl rfl (fun _ h => h.2.2.1) (OpT.at_n o rfl)) ?_
 refine TD.all [8] (by kernel_rfl) rfl ?_
 refine AllT.cons rfl ?_ ?_
 refine TL.callR (A := []) (Want.plain rfl) rfl rfl rfl nm75 rfl (rowInc_does x.own o.key o.n) (fun _ s => s) (fun _ _ _ => trivial) (fun vR HR hR => ?_)
 obtain ⟨rfl, rfl⟩ := hR
 change TL _ _ _ _ _ _ _ _ _ [blkA b7 (ints RowT.zero.flat) 48, blkA b4 (ints RowT.zero.flat) 48, blkA b3 (ints o.flat) 38, blkA r (RepT.cells x) 104]
 refine TL.nil ?_
 refine TE.draw (fun _ s => ⟨Frm.of s, s.block 3 (lb rfl) rfl, s.block 2 (lb rfl) rfl, trivial⟩) ?_
 refine ta 9 rfl (PV.move rfl rfl) ?_
 refine ta 10 rfl (PV.extract (vs := [(.agg (ints ((rowInc x.own o.key o.n).1).flat).toArray), (.int .i64 ((rowInc x.own o.key o.n).2))]) rfl rfl rfl) ?_
 refine ta 11 rfl (PV.extract (vs := [(.agg (ints ((rowInc x.own o.key o.n).1).flat).toArray), (.int .i64 ((rowInc x.own o.key o.n).2))]) rfl rfl rfl) ?_
 refine TD.all [12] (by kernel_rfl) rfl ?_
 refine AllT.cons rfl ?_ ?_
 refine TL.store (vs := ints ((rowInc x.own o.key o.n).1).flat) (i := 0) (H' := [blkA b7 (ints ((rowInc x.own o.key o.n).1).flat) 48, blkA b4 (ints RowT.zero.flat) 48, blkA b3 (ints o.flat) 38, blkA r (RepT.cells x) 104]) (Want.plain rfl) rfl rfl rfl rfl rfl (by rw [(RowT.len ((rowInc x.own o.key o.n).1))]; exact sz48) (ints_one _) rfl rfl (by have h0 := (RowT.len RowT.zero); have h1 := (RowT.len ((rowInc x.own o.key o.n).1)); omega) (wwhole ((RowT.len RowT.zero).trans (RowT.len ((rowInc x.own o.key o.n).1)).symm)) rfl ?_
 refine TL.nil ?_
 refine TE.draw (fun _ s => ⟨Frm.of s, s.block 3 (lb rfl) rfl, s.block 2 (lb rfl) rfl, trivial⟩) ?_
 refine ta 13 rfl (PV.assign rfl rfl) ?_
 refine TD.done (by kernel_rfl) ?_
 refine TE.blockEnd ?_
 refine TE.next J16 ?_
 clear J16
 refine TC.seq fun _ J19 => ?_
 refine sr fun _ J20 => ?_
 refine mv ?_
 refine tp (PV.neq rfl rfl rfl) ?_
 refine TL.dec (fun h98 => ?_) (fun h98 => ?_)
 refine nx J20 ?_
 clear J20
 refine TC.yes rfl ?_
 refine sr fun _ J21 => ?_
 refine tp (PV.build (cells := (ints RowT.zero.flat).toArray) rfl rfl (by as_aux_lemma => kernel_rfl)) ?_
 refine mv ?_
 refine TL.store (vs := ints RowT.zero.flat) (i := 1) (H' := [blkA b7 (ints ((rowInc x.own o.key o.n).1).flat) 48, blkA b4 (ints RowT.zero.flat) 48, blkA b3 (ints o.flat) 38, blkA r (RepT.cells x) 104]) (Want.plain rfl) rfl rfl rfl rfl rfl (by rw [(RowT.len RowT.zero)]; exact sz48) (ints_one _) rfl rfl (by have h0 := (RowT.len RowT.zero); have h1 := (RowT.len RowT.zero); omega) (wwhole ((RowT.len RowT.zero).trans (RowT.len RowT.zero).symm)) rfl ?_
 refine sg' ?_
 refine sg' ?_
 refine nx J21 ?_
 clear J21
 refine TC.ret ?_
 refine TE.passRet ?_
 clear J19
 refine TE.retCTT (H' := [blkA r (RepT.cells x) 104]) rfl rfl rfl rfl Tryz.underlying48 rfl sz48 (Rd.own 1 rfl rfl) (RowT.len RowT.zero) (fun _ s => sep_keep [3] rfl s) ?_
 exact ⟨by simp [planF, growOf, *], rfl⟩
 refine nx J20 ?_
 clear J20
 refine TC.no rfl ?_
 refine TC.skip ?_
 refine TE.next J19 ?_
 clear J19
 refine TC.seq fun _ J22 => ?_
 refine TC.seq fun _ J23 => ?_
 refine TC.draw (fun w => Frm F w ∧ w.heap[b3]? = some (.cells (ints o.flat).toArray 38 (0, 0)) ∧ w.heap[r]? = some (.cells (RepT.cells x).toArray 104 (0, 0)) ∧ True) mixed rfl (fun _ s => ⟨Frm.of s, s.block 2 (lb rfl) rfl, s.block 3 (lb rfl) rfl, trivial⟩) ?_
 refine ta 0 rfl (PV.fieldAddr (r := 0) rfl Tryz.underlying38 rfl sz3 rfl rfl) ?_
 refine ta 1 rfl (PV.load1 (v := (.int .i64 (o.kind))) rfl Tryz.underlying3 rfl rfl (fun _ h => h.2.1) (OpT.at_kind o rfl)) ?_
 refine ta 2 rfl (PV.neq rfl rfl rfl) ?_
 refine TD.dec (fun h103 => ?_) (fun h103 => ?_)
 · exact absurd h47 h103
 refine ta 3 rfl (PV.move rfl rfl) ?_
 refine TD.takeNot (i := 4) (b := false) rfl (by kernel_rfl) (by kernel_rfl) (by kernel_rfl) (fun _ _ _ _ h => h) rfl rfl rfl rfl rfl ?_
 refine TD.takeNot (i := 5) (b := false) rfl (by kernel_rfl) (by kernel_rfl) (by kernel_rfl) (fun _ _ _ _ h => h) rfl rfl rfl rfl rfl ?_
 refine TD.takeNot (i := 6) (b := false) rfl (by kernel_rfl) (by kernel_rfl) (by kernel_rfl) (fun _ _ _ _ h => h) rfl rfl rfl rfl rfl ?_
 refine TD.takeNot (i := 7) (b := false) rfl (by kernel_rfl) (by kernel_rfl) (by kernel_rfl) (fun _ _ _ _ h => h) rfl rfl rfl rfl rfl ?_
 refine TD.takeNot (i := 8) (b := false) rfl (by kernel_rfl) (by kernel_rfl) (by kernel_rfl) (fun _ _ _ _ h => h) rfl rfl rfl rfl rfl ?_
 refine TD.takeNot (i := 9) (b := false) rfl (by kernel_rfl) (by kernel_rfl) (by kernel_rfl) (fun _ _ _ _ h => h) rfl rfl rfl rfl rfl ?_
 refine TD.takeNot (i := 10) (b := false) rfl (by kernel_rfl) (by kernel_rfl) (by kernel_rfl) (fun _ _ _ _ h => h) rfl rfl rfl rfl rfl ?_
 refine TD.takeNot (i := 11) (b := false) rfl (by kernel_rfl) (by kernel_rfl) (by kernel_rfl) (fun _ _ _ _ h => h) rfl rfl rfl rfl rfl ?_
 refine TD.takeNot (i := 12) (b := false) rfl (by kernel_rfl) (by kernel_rfl) (by kernel_rfl) (fun _ _ _ _ h => h) rfl rfl rfl rfl rfl ?_
 refine TD.takeNot (i := 13) (b := false) rfl (by kernel_rfl) (by kernel_rfl) (by kernel_rfl) (fun _ _ _ _ h => h) rfl rfl rfl rfl rfl ?_
 refine TD.takeNot (i := 14) (b := false) rfl (by kernel_rfl) (by kernel_rfl) (by kernel_rfl) (fun _ _ _ _ h => h) rfl rfl rfl rfl rfl ?_
 refine TD.takeNot (i := 15) (b := false) rfl (by kernel_rfl) (by kernel_rfl) (by kernel_rfl) (fun _ _ _ _ h => h) rfl rfl rfl rfl rfl ?_
 refine TD.takeNot (i := 16) (b := false) rfl (by kernel_rfl) (by kernel_rfl) (by kernel_rfl) (fun _ _ _ _ h => h) rfl rfl rfl rfl rfl ?_
 refine ta 17 rfl (PV.pick rfl rfl rfl) ?_
 refine TD.done (by kernel_rfl) ?_
 refine TE.next J23 ?_
 clear J23
 refine TC.no rfl ?_
 refine TC.skip ?_
 refine TE.next J22 ?_
 clear J22
 refine sr fun _ J24 => ?_
 refine tp (PV.loadN (vs := ints ((rowInc x.own o.key o.n).1).flat) rfl Tryz.underlying48 rfl sz48 rfl (Rd.own 0 rfl rfl) (RowT.len ((rowInc x.own o.key o.n).1)) (whole (RowT.len ((rowInc x.own o.key o.n).1)))) ?_
 refine TL.store (vs := ints ((rowInc x.own o.key o.n).1).flat) (i := 1) (H' := [blkA b7 (ints ((rowInc x.own o.key o.n).1).flat) 48, blkA b4 (ints ((rowInc x.own o.key o.n).1).flat) 48, blkA b3 (ints o.flat) 38, blkA r (RepT.cells x) 104]) (Want.plain rfl) rfl rfl rfl rfl rfl (by rw [(RowT.len ((rowInc x.own o.key o.n).1))]; exact sz48) (ints_one _) rfl rfl (by have h0 := (RowT.len RowT.zero); have h1 := (RowT.len ((rowInc x.own o.key o.n).1)); omega) (wwhole ((RowT.len RowT.zero).trans (RowT.len ((rowInc x.own o.key o.n).1)).symm)) rfl ?_
 refine sg' ?_
 refine sg' ?_
 refine nx J24 ?_
 clear J24
 refine TC.ret ?_
 refine TE.retCTT (H' := [blkA r (RepT.cells x) 104]) rfl rfl rfl rfl Tryz.underlying48 rfl sz48 (Rd.own 1 rfl rfl) (RowT.len ((rowInc x.own o.key o.n).1)) (fun _ s => sep_keep [3] rfl s) ?_
 exact ⟨by simp [planF, growOf, *], rfl⟩
 exact AllT.nil
 exact AllT.nil
 refine sg' ?_
 refine nx J18 ?_
 clear J18
 refine TC.no rfl ?_
 refine sr fun _ J25 => ?_
 refine tp (PV.eql rfl rfl rfl) ?_
 refine TL.dec (fun h61 => ?_) (fun h61 => ?_)
 refine sg' ?_
 refine nx J25 ?_
 clear J25
 refine TC.yes rfl ?_
 refine TC.draw (fun w => Frm F w ∧ w.heap[r]? = some (.cells (RepT.cells x).toArray 104 (0, 0)) ∧ w.heap[b3]? = some (.cells (ints o.flat).toArray 38 (0, 0)) ∧ True) mixed rfl (fun _ s => ⟨Frm.of s, s.block 3 (lb rfl) rfl, s.block 2 (lb rfl) rfl, trivial⟩) ?_
 refine ta 0 rfl (PV.move rfl rfl) ?_
 refine ta 1 rfl (PV.nilCheck rfl rfl) ?_
 refine ta 2 rfl (PV.fieldAddr (r := 9) rfl Tryz.underlying104 rfl sz48 rfl rfl) ?_
 refine ta 3 rfl (PV.loadN (vs := ints x.own.flat) rfl Tryz.underlying48 rfl sz48 rfl (fun _ h => h.2.1) (RowT.len x.own) (RepT.sub_own x 0 rfl (by decide) (whole (RowT.len x.own)))) ?_
 refine ta 4 rfl (PV.fieldAddr (r := 3) rfl Tryz.underlying38 rfl sz3 rfl rfl) ?_
 refine ta 5 rfl (PV.load1 (v := (.int .i64 (o.key))) rfl Tryz.underlying3 rfl rfl (fun _ h => h.2.2.1) (OpT.at_key o rfl)) ?_
 refine ta 6 rfl (PV.fieldAddr (r := 4) rfl Tryz.underlying38 rfl sz3 rfl rfl) ?_
 refine ta 7 rfl (PV.load1 (v := (.int .i64 (o.n))) rfl Tryz.underlying3 rfl rfl (fun _ h => h.2.2.1) (OpT.at_n o rfl)) ?_
 refine TD.all [8] (by kernel_rfl) rfl ?_
 refine AllT.cons rfl ?_ ?_
 refine TL.callR (A := []) (Want.plain rfl) rfl rfl rfl nm76 rfl (rowDec_does x.own o.key o.n) (fun _ s => s) (fun _ _ _ => trivial) (fun vR HR hR => ?_)
 obtain ⟨rfl, rfl⟩ := hR
 change TL _ _ _ _ _ _ _ _ _ [blkA b7 (ints RowT.zero.flat) 48, blkA b4 (ints RowT.zero.flat) 48, blkA b3 (ints o.flat) 38, blkA r (RepT.cells x) 104]
 refine TL.nil ?_
 refine TE.draw (fun _ s => ⟨Frm.of s, s.block 3 (lb rfl) rfl, s.block 2 (lb rfl) rfl, trivial⟩) ?_
 refine ta 9 rfl (PV.move rfl rfl) ?_
 refine ta 10 rfl (PV.extract (vs := [(.agg (ints ((rowDec x.own o.key o.n).1).flat).toArray), (.int .i64 ((rowDec x.own o.key o.n).2))]) rfl rfl rfl) ?_
 refine ta 11 rfl (PV.extract (vs := [(.agg (ints ((rowDec x.own o.key o.n).1).flat).toArray), (.int .i64 ((rowDec x.own o.key o.n).2))]) rfl rfl rfl) ?_
 refine TD.all [12] (by kernel_rfl) rfl ?_
 refine AllT.cons rfl ?_ ?_
 refine TL.store (vs := ints ((rowDec x.own o.key o.n).1).flat) (i := 0) (H' := [blkA b7 (ints ((rowDec x.own o.key o.n).1).flat) 48, blkA b4 (ints RowT.zero.flat) 48, blkA b3 (ints o.flat) 38, blkA r (RepT.cells x) 104]) (Want.plain rfl) rfl rfl rfl rfl rfl (by rw [(RowT.len ((rowDec x.own o.key o.n).1))]; exact sz48) (ints_one _) rfl rfl (by have h0 := (RowT.len RowT.zero); have h1 := (RowT.len ((rowDec x.own o.key o.n).1)); omega) (wwhole ((RowT.len RowT.zero).trans (RowT.len ((rowDec x.own o.key o.n).1)).symm)) rfl ?_
 refine TL.nil ?_
 refine TE.draw (fun _ s => ⟨Frm.of s, s.block 3 (lb rfl) rfl, s.block 2 (lb rfl) rfl, trivial⟩) ?_
 refine ta 13 rfl (PV.assign rfl rfl) ?_
 refine TD.done (by kernel_rfl) ?_
 refine TE.blockEnd ?_
 refine TE.next J16 ?_
 clear J16
 refine TC.seq fun _ J26 => ?_
 refine sr fun _ J27 => ?_
 refine mv ?_
 refine tp (PV.neq rfl rfl rfl) ?_
 refine TL.dec (fun h98 => ?_) (fun h98 => ?_)
 refine nx J27 ?_
 clear J27
 refine TC.yes rfl ?_
 refine sr fun _ J28 => ?_
 refine tp (PV.build (cells := (ints RowT.zero.flat).toArray) rfl rfl (by as_aux_lemma => kernel_rfl)) ?_
 refine mv ?_
 refine TL.store (vs := ints RowT.zero.flat) (i := 1) (H' := [blkA b7 (ints ((rowDec x.own o.key o.n).1).flat) 48, blkA b4 (ints RowT.zero.flat) 48, blkA b3 (ints o.flat) 38, blkA r (RepT.cells x) 104]) (Want.plain rfl) rfl rfl rfl rfl rfl (by rw [(RowT.len RowT.zero)]; exact sz48) (ints_one _) rfl rfl (by have h0 := (RowT.len RowT.zero); have h1 := (RowT.len RowT.zero); omega) (wwhole ((RowT.len RowT.zero).trans (RowT.len RowT.zero).symm)) rfl ?_
 refine sg' ?_
 refine sg' ?_
 refine nx J28 ?_
 clear J28
 refine TC.ret ?_
 refine TE.passRet ?_
 clear J26
 refine TE.retCTT (H' := [blkA r (RepT.cells x) 104]) rfl rfl rfl rfl Tryz.underlying48 rfl sz48 (Rd.own 1 rfl rfl) (RowT.len RowT.zero) (fun _ s => sep_keep [3] rfl s) ?_
 exact ⟨by simp [planF, growOf, *], rfl⟩
 refine nx J27 ?_
 clear J27
 refine TC.no rfl ?_
 refine TC.skip ?_
 refine TE.next J26 ?_
 clear J26
 refine TC.seq fun _ J29 => ?_
 refine TC.seq fun _ J30 => ?_
 refine TC.draw (fun w => Frm F w ∧ w.heap[b3]? = some (.cells (ints o.flat).toArray 38 (0, 0)) ∧ w.heap[r]? = some (.cells (RepT.cells x).toArray 104 (0, 0)) ∧ True) mixed rfl (fun _ s => ⟨Frm.of s, s.block 2 (lb rfl) rfl, s.block 3 (lb rfl) rfl, trivial⟩) ?_
 refine ta 0 rfl (PV.fieldAddr (r := 0) rfl Tryz.underlying38 rfl sz3 rfl rfl) ?_
 refine ta 1 rfl (PV.load1 (v := (.int .i64 (o.kind))) rfl Tryz.underlying3 rfl rfl (fun _ h => h.2.1) (OpT.at_kind o rfl)) ?_
 refine ta 2 rfl (PV.neq rfl rfl rfl) ?_
 refine TD.dec (fun h103 => ?_) (fun h103 => ?_)
 refine ta 3 rfl (PV.move rfl rfl) ?_
 refine tb 4 rfl (PV.move rfl rfl) ?_
 refine tb 5 rfl (PV.nilCheck rfl rfl) ?_
 refine tb 6 rfl (PV.fieldAddr (r := 1068) rfl Tryz.underlying104 rfl sz71 rfl rfl) ?_
 refine tb 7 rfl (PV.move rfl rfl) ?_
 refine tb 8 rfl (PV.nilCheck rfl rfl) ?_
 refine tb 9 rfl (PV.fieldAddr (r := 0) rfl Tryz.underlying104 rfl sz3 rfl rfl) ?_
 refine tb 10 rfl (PV.load1 (v := (.int .i64 (x.id))) rfl Tryz.underlying3 rfl rfl (fun _ h => h.2.2.1) (RepT.at_id x rfl)) ?_
 refine tb 11 rfl (PV.fieldAddr (r := 3) rfl Tryz.underlying38 rfl sz3 rfl rfl) ?_
 refine tb 12 rfl (PV.load1 (v := (.int .i64 (o.key))) rfl Tryz.underlying3 rfl rfl (fun _ h => h.2.1) (OpT.at_key o rfl)) ?_
 refine tb 14 rfl (PV.fieldAddr (r := 4) rfl Tryz.underlying38 rfl sz3 rfl rfl) ?_
 refine tb 15 rfl (PV.load1 (v := (.int .i64 (o.n))) rfl Tryz.underlying3 rfl rfl (fun _ h => h.2.1) (OpT.at_n o rfl)) ?_
 refine TD.all [13] (by kernel_rfl) rfl ?_
 refine AllT.cons rfl ?_ ?_
 refine TL.callR (A := [blkA r (RepT.cells x) 104]) (Want.met rfl rfl rfl) rfl rfl rfl nm21 rfl (bookRights_does r 1068 104 (fun u => RepT.cells { x with book := u }) (RepT.arnd_book x) x.book x.id o.key) (fun _ s => sep_selR [3] rfl s) (fun _ _ _ => trivial) (fun vR HR hR => ?_)
 obtain ⟨rfl, rfl⟩ := hR
 change TL _ _ _ _ _ _ _ _ _ [blkA r (RepT.cells x) 104, blkA b7 (ints ((rowDec x.own o.key o.n).1).flat) 48, blkA b4 (ints RowT.zero.flat) 48, blkA b3 (ints o.flat) 38]
 refine TL.nil ?_
 refine TE.draw (fun _ s => ⟨Frm.of s, s.block 3 (lb rfl) rfl, s.block 0 (lb rfl) rfl, trivial⟩) ?_
 refine tb 16 rfl (PV.lss rfl rfl rfl) ?_
 refine TD.dec (fun h117 => ?_) (fun h117 => ?_)
 refine ta 17 rfl (PV.pick rfl rfl rfl) ?_
 refine TD.done (by kernel_rfl) ?_
 refine TE.next J30 ?_
 clear J30
 refine TC.yes rfl ?_
 refine sr fun _ J31 => ?_
 refine tp (PV.build (cells := (ints RowT.zero.flat).toArray) rfl rfl (by as_aux_lemma => kernel_rfl)) ?_
 refine TL.store (vs := ints RowT.zero.flat) (i := 2) (H' := [blkA r (RepT.cells x) 104, blkA b7 (ints ((rowDec x.own o.key o.n).1).flat) 48, blkA b4 (ints RowT.zero.flat) 48, blkA b3 (ints o.flat) 38]) (Want.plain rfl) rfl rfl rfl rfl rfl (by rw [(RowT.len RowT.zero)]; exact sz48) (ints_one _) rfl rfl (by have h0 := (RowT.len RowT.zero); have h1 := (RowT.len RowT.zero); omega) (wwhole ((RowT.len RowT.zero).trans (RowT.len RowT.zero).symm)) rfl ?_
 refine sg' ?_
 refine sg' ?_
 refine nx J31 ?_
 clear J31
 refine TC.ret ?_
 refine TE.passRet ?_
 clear J29
 refine TE.retCTT (H' := [blkA r (RepT.cells x) 104]) rfl rfl rfl rfl Tryz.underlying48 rfl sz48 (Rd.own 2 rfl rfl) (RowT.len RowT.zero) (fun _ s => sep_keep [0] rfl s) ?_
 exact ⟨by simp [planF, growOf, *], rfl⟩
 refine ta 17 rfl (PV.pick rfl rfl rfl) ?_
 refine TD.done (by kernel_rfl) ?_
 refine TE.next J30 ?_
 clear J30
 refine TC.no rfl ?_
 refine TC.skip ?_
 refine TE.next J29 ?_
 clear J29
 refine sr fun _ J32 => ?_
 refine tp (PV.loadN (vs := ints ((rowDec x.own o.key o.n).1).flat) rfl Tryz.underlying48 rfl sz48 rfl (Rd.own 1 rfl rfl) (RowT.len ((rowDec x.own o.key o.n).1)) (whole (RowT.len ((rowDec x.own o.key o.n).1)))) ?_
 refine TL.store (vs := ints ((rowDec x.own o.key o.n).1).flat) (i := 2) (H' := [blkA r (RepT.cells x) 104, blkA b7 (ints ((rowDec x.own o.key o.n).1).flat) 48, blkA b4 (ints ((rowDec x.own o.key o.n).1).flat) 48, blkA b3 (ints o.flat) 38]) (Want.plain rfl) rfl rfl rfl rfl rfl (by rw [(RowT.len ((rowDec x.own o.key o.n).1))]; exact sz48) (ints_one _) rfl rfl (by have h0 := (RowT.len RowT.zero); have h1 := (RowT.len ((rowDec x.own o.key o.n).1)); omega) (wwhole ((RowT.len RowT.zero).trans (RowT.len ((rowDec x.own o.key o.n).1)).symm)) rfl ?_
 refine sg' ?_
 refine sg' ?_
 refine nx J32 ?_
 clear J32
 refine TC.ret ?_
 refine TE.retCTT (H' := [blkA r (RepT.cells x) 104]) rfl rfl rfl rfl Tryz.underlying48 rfl sz48 (Rd.own 2 rfl rfl) (RowT.len ((rowDec x.own o.key o.n).1)) (fun _ s => sep_keep [0] rfl s) ?_
 exact ⟨by simp [planF, growOf, *], rfl⟩
 exact AllT.nil
 · exact absurd h47 h103
 exact AllT.nil
 exact AllT.nil
 refine sg' ?_
 refine nx J25 ?_
 clear J25
 refine TC.no rfl ?_
 refine sr fun _ J33 => ?_
 refine tp (PV.eql rfl rfl rfl) ?_
 refine TL.dec (fun h75 => ?_) (fun h75 => ?_)
 refine sg' ?_
 refine nx J33 ?_
 clear J33
 refine TC.yes rfl ?_
 refine TC.seq fun _ J34 => ?_
 refine TC.draw (fun w => Frm F w ∧ w.heap[b3]? = some (.cells (ints o.flat).toArray 38 (0, 0)) ∧ w.heap[r]? = some (.cells (RepT.cells x).toArray 104 (0, 0)) ∧ True) mixed rfl (fun _ s => ⟨Frm.of s, s.block 2 (lb rfl) rfl, s.block 3 (lb rfl) rfl, trivial⟩) ?_
 refine ta 0 rfl (PV.fieldAddr (r := 2) rfl Tryz.underlying38 rfl sz3 rfl rfl) ?_
 refine ta 1 rfl (PV.load1 (v := (.int .i64 (o.to'))) rfl Tryz.underlying3 rfl rfl (fun _ h => h.2.1) (OpT.at_to' o rfl)) ?_
 refine ta 2 rfl (PV.move rfl rfl) ?_
 refine ta 3 rfl (PV.nilCheck rfl rfl) ?_
 refine ta 4 rfl (PV.fieldAddr (r := 0) rfl Tryz.underlying104 rfl sz3 rfl rfl) ?_
 refine ta 5 rfl (PV.load1 (v := (.int .i64 (x.id))) rfl Tryz.underlying3 rfl rfl (fun _ h => h.2.2.1) (RepT.at_id x rfl)) ?_
 refine ta 6 rfl (PV.neq rfl rfl rfl) ?_
 refine TD.dec (fun h82 => ?_) (fun h82 => ?_)
 refine TD.done (by kernel_rfl) ?_
 refine TE.next J34 ?_
 clear J34
 refine TC.yes rfl ?_
 refine TC.draw (fun w => Frm F w ∧ w.heap[r]? = some (.cells (RepT.cells x).toArray 104 (0, 0)) ∧ w.heap[b3]? = some (.cells (ints o.flat).toArray 38 (0, 0)) ∧ True) mixed rfl (fun _ s => ⟨Frm.of s, s.block 3 (lb rfl) rfl, s.block 2 (lb rfl) rfl, trivial⟩) ?_
 refine ta 0 rfl (PV.move rfl rfl) ?_
 refine ta 1 rfl (PV.nilCheck rfl rfl) ?_
 refine ta 2 rfl (PV.fieldAddr (r := 9) rfl Tryz.underlying104 rfl sz48 rfl rfl) ?_
 refine ta 3 rfl (PV.loadN (vs := ints x.own.flat) rfl Tryz.underlying48 rfl sz48 rfl (fun _ h => h.2.1) (RowT.len x.own) (RepT.sub_own x 0 rfl (by decide) (whole (RowT.len x.own)))) ?_
 refine ta 4 rfl (PV.fieldAddr (r := 3) rfl Tryz.underlying38 rfl sz3 rfl rfl) ?_
 refine ta 5 rfl (PV.load1 (v := (.int .i64 (o.key))) rfl Tryz.underlying3 rfl rfl (fun _ h => h.2.2.1) (OpT.at_key o rfl)) ?_
 refine ta 6 rfl (PV.fieldAddr (r := 4) rfl Tryz.underlying38 rfl sz3 rfl rfl) ?_
 refine ta 7 rfl (PV.load1 (v := (.int .i64 (o.n))) rfl Tryz.underlying3 rfl rfl (fun _ h => h.2.2.1) (OpT.at_n o rfl)) ?_
 refine ta 8 rfl (PV.fieldAddr (r := 2) rfl Tryz.underlying38 rfl sz3 rfl rfl) ?_
 refine ta 9 rfl (PV.load1 (v := (.int .i64 (o.to'))) rfl Tryz.underlying3 rfl rfl (fun _ h => h.2.2.1) (OpT.at_to' o rfl)) ?_
 refine TD.all [10] (by kernel_rfl) rfl ?_
 refine AllT.cons rfl ?_ ?_
 refine TL.callR (A := []) (Want.plain rfl) rfl rfl rfl nm77 rfl (rowGive_does x.own o.key o.n o.to') (fun _ s => s) (fun _ _ _ => trivial) (fun vR HR hR => ?_)
 obtain ⟨rfl, rfl⟩ := hR
 change TL _ _ _ _ _ _ _ _ _ [blkA b7 (ints RowT.zero.flat) 48, blkA b4 (ints RowT.zero.flat) 48, blkA b3 (ints o.flat) 38, blkA r (RepT.cells x) 104]
 refine TL.nil ?_
 refine TE.draw (fun _ s => ⟨Frm.of s, s.block 3 (lb rfl) rfl, s.block 2 (lb rfl) rfl, trivial⟩) ?_
 refine ta 11 rfl (PV.move rfl rfl) ?_
 refine ta 12 rfl (PV.extract (vs := [(.agg (ints ((rowGive x.own o.key o.n o.to').1).flat).toArray), (.int .i64 ((rowGive x.own o.key o.n o.to').2))]) rfl rfl rfl) ?_
 refine ta 13 rfl (PV.extract (vs := [(.agg (ints ((rowGive x.own o.key o.n o.to').1).flat).toArray), (.int .i64 ((rowGive x.own o.key o.n o.to').2))]) rfl rfl rfl) ?_
 refine TD.all [14] (by kernel_rfl) rfl ?_
 refine AllT.cons rfl ?_ ?_
 refine TL.store (vs := ints ((rowGive x.own o.key o.n o.to').1).flat) (i := 0) (H' := [blkA b7 (ints ((rowGive x.own o.key o.n o.to').1).flat) 48, blkA b4 (ints RowT.zero.flat) 48, blkA b3 (ints o.flat) 38, blkA r (RepT.cells x) 104]) (Want.plain rfl) rfl rfl rfl rfl rfl (by rw [(RowT.len ((rowGive x.own o.key o.n o.to').1))]; exact sz48) (ints_one _) rfl rfl (by have h0 := (RowT.len RowT.zero); have h1 := (RowT.len ((rowGive x.own o.key o.n o.to').1)); omega) (wwhole ((RowT.len RowT.zero).trans (RowT.len ((rowGive x.own o.key o.n o.to').1)).symm)) rfl ?_
 refine TL.nil ?_
 refine TE.draw (fun _ s => ⟨Frm.of s, s.block 3 (lb rfl) rfl, s.block 2 (lb rfl) rfl, trivial⟩) ?_
 refine ta 15 rfl (PV.assign rfl rfl) ?_
 refine TD.done (by kernel_rfl) ?_
 refine TE.blockEnd ?_
 refine TE.next J16 ?_
 clear J16
 refine TC.seq fun _ J35 => ?_
 refine sr fun _ J36 => ?_
 refine mv ?_
 refine tp (PV.neq rfl rfl rfl) ?_
 refine TL.dec (fun h98 => ?_) (fun h98 => ?_)
 refine nx J36 ?_
 clear J36
 refine TC.yes rfl ?_
 refine sr fun _ J37 => ?_
 refine tp (PV.build (cells := (ints RowT.zero.flat).toArray) rfl rfl (by as_aux_lemma => kernel_rfl)) ?_
 refine mv ?_
 refine TL.store (vs := ints RowT.zero.flat) (i := 1) (H' := [blkA b7 (ints ((rowGive x.own o.key o.n o.to').1).flat) 48, blkA b4 (ints RowT.zero.flat) 48, blkA b3 (ints o.flat) 38, blkA r (RepT.cells x) 104]) (Want.plain rfl) rfl rfl rfl rfl rfl (by rw [(RowT.len RowT.zero)]; exact sz48) (ints_one _) rfl rfl (by have h0 := (RowT.len RowT.zero); have h1 := (RowT.len RowT.zero); omega) (wwhole ((RowT.len RowT.zero).trans (RowT.len RowT.zero).symm)) rfl ?_
 refine sg' ?_
 refine sg' ?_
 refine nx J37 ?_
 clear J37
 refine TC.ret ?_
 refine TE.passRet ?_
 clear J35
 refine TE.retCTT (H' := [blkA r (RepT.cells x) 104]) rfl rfl rfl rfl Tryz.underlying48 rfl sz48 (Rd.own 1 rfl rfl) (RowT.len RowT.zero) (fun _ s => sep_keep [3] rfl s) ?_
 exact ⟨by simp [planF, growOf, *], rfl⟩
 refine nx J36 ?_
 clear J36
 refine TC.no rfl ?_
 refine TC.skip ?_
 refine TE.next J35 ?_
 clear J35
 refine TC.seq fun _ J38 => ?_
 refine TC.seq fun _ J39 => ?_
 refine TC.draw (fun w => Frm F w ∧ w.heap[b3]? = some (.cells (ints o.flat).toArray 38 (0, 0)) ∧ w.heap[r]? = some (.cells (RepT.cells x).toArray 104 (0, 0)) ∧ True) mixed rfl (fun _ s => ⟨Frm.of s, s.block 2 (lb rfl) rfl, s.block 3 (lb rfl) rfl, trivial⟩) ?_
 refine ta 0 rfl (PV.fieldAddr (r := 0) rfl Tryz.underlying38 rfl sz3 rfl rfl) ?_
 refine ta 1 rfl (PV.load1 (v := (.int .i64 (o.kind))) rfl Tryz.underlying3 rfl rfl (fun _ h => h.2.1) (OpT.at_kind o rfl)) ?_
 refine ta 2 rfl (PV.neq rfl rfl rfl) ?_
 refine TD.dec (fun h103 => ?_) (fun h103 => ?_)
 refine ta 3 rfl (PV.move rfl rfl) ?_
 refine tb 4 rfl (PV.move rfl rfl) ?_
 refine tb 5 rfl (PV.nilCheck rfl rfl) ?_
 refine tb 6 rfl (PV.fieldAddr (r := 1068) rfl Tryz.underlying104 rfl sz71 rfl rfl) ?_
 refine tb 7 rfl (PV.move rfl rfl) ?_
 refine tb 8 rfl (PV.nilCheck rfl rfl) ?_
 refine tb 9 rfl (PV.fieldAddr (r := 0) rfl Tryz.underlying104 rfl sz3 rfl rfl) ?_
 refine tb 10 rfl (PV.load1 (v := (.int .i64 (x.id))) rfl Tryz.underlying3 rfl rfl (fun _ h => h.2.2.1) (RepT.at_id x rfl)) ?_
 refine tb 11 rfl (PV.fieldAddr (r := 3) rfl Tryz.underlying38 rfl sz3 rfl rfl) ?_
 refine tb 12 rfl (PV.load1 (v := (.int .i64 (o.key))) rfl Tryz.underlying3 rfl rfl (fun _ h => h.2.1) (OpT.at_key o rfl)) ?_
 refine tb 14 rfl (PV.fieldAddr (r := 4) rfl Tryz.underlying38 rfl sz3 rfl rfl) ?_
 refine tb 15 rfl (PV.load1 (v := (.int .i64 (o.n))) rfl Tryz.underlying3 rfl rfl (fun _ h => h.2.1) (OpT.at_n o rfl)) ?_
 refine TD.all [13] (by kernel_rfl) rfl ?_
 refine AllT.cons rfl ?_ ?_
 refine TL.callR (A := [blkA r (RepT.cells x) 104]) (Want.met rfl rfl rfl) rfl rfl rfl nm21 rfl (bookRights_does r 1068 104 (fun u => RepT.cells { x with book := u }) (RepT.arnd_book x) x.book x.id o.key) (fun _ s => sep_selR [3] rfl s) (fun _ _ _ => trivial) (fun vR HR hR => ?_)
 obtain ⟨rfl, rfl⟩ := hR
 change TL _ _ _ _ _ _ _ _ _ [blkA r (RepT.cells x) 104, blkA b7 (ints ((rowGive x.own o.key o.n o.to').1).flat) 48, blkA b4 (ints RowT.zero.flat) 48, blkA b3 (ints o.flat) 38]
 refine TL.nil ?_
 refine TE.draw (fun _ s => ⟨Frm.of s, s.block 3 (lb rfl) rfl, s.block 0 (lb rfl) rfl, trivial⟩) ?_
 refine tb 16 rfl (PV.lss rfl rfl rfl) ?_
 refine TD.dec (fun h117 => ?_) (fun h117 => ?_)
 refine ta 17 rfl (PV.pick rfl rfl rfl) ?_
 refine TD.done (by kernel_rfl) ?_
 refine TE.next J39 ?_
 clear J39
 refine TC.yes rfl ?_
 refine sr fun _ J40 => ?_
 refine tp (PV.build (cells := (ints RowT.zero.flat).toArray) rfl rfl (by as_aux_lemma => kernel_rfl)) ?_
 refine TL.store (vs := ints RowT.zero.flat) (i := 2) (H' := [blkA r (RepT.cells x) 104, blkA b7 (ints ((rowGive x.own o.key o.n o.to').1).flat) 48, blkA b4 (ints RowT.zero.flat) 48, blkA b3 (ints o.flat) 38]) (Want.plain rfl) rfl rfl rfl rfl rfl (by rw [(RowT.len RowT.zero)]; exact sz48) (ints_one _) rfl rfl (by have h0 := (RowT.len RowT.zero); have h1 := (RowT.len RowT.zero); omega) (wwhole ((RowT.len RowT.zero).trans (RowT.len RowT.zero).symm)) rfl ?_
 refine sg' ?_
 refine sg' ?_
 refine nx J40 ?_
 clear J40
 refine TC.ret ?_
 refine TE.passRet ?_
 clear J38
 refine TE.retCTT (H' := [blkA r (RepT.cells x) 104]) rfl rfl rfl rfl Tryz.underlying48 rfl sz48 (Rd.own 2 rfl rfl) (RowT.len RowT.zero) (fun _ s => sep_keep [0] rfl s) ?_
 exact ⟨by simp [planF, growOf, *], rfl⟩
 refine ta 17 rfl (PV.pick rfl rfl rfl) ?_
 refine TD.done (by kernel_rfl) ?_
 refine TE.next J39 ?_
 clear J39
 refine TC.no rfl ?_
 refine TC.skip ?_
 refine TE.next J38 ?_
 clear J38
 refine sr fun _ J41 => ?_
 refine tp (PV.loadN (vs := ints ((rowGive x.own o.key o.n o.to').1).flat) rfl Tryz.underlying48 rfl sz48 rfl (Rd.own 1 rfl rfl) (RowT.len ((rowGive x.own o.key o.n o.to').1)) (whole (RowT.len ((rowGive x.own o.key o.n o.to').1)))) ?_
 refine TL.store (vs := ints ((rowGive x.own o.key o.n o.to').1).flat) (i := 2) (H' := [blkA r (RepT.cells x) 104, blkA b7 (ints ((rowGive x.own o.key o.n o.to').1).flat) 48, blkA b4 (ints ((rowGive x.own o.key o.n o.to').1).flat) 48, blkA b3 (ints o.flat) 38]) (Want.plain rfl) rfl rfl rfl rfl rfl (by rw [(RowT.len ((rowGive x.own o.key o.n o.to').1))]; exact sz48) (ints_one _) rfl rfl (by have h0 := (RowT.len RowT.zero); have h1 := (RowT.len ((rowGive x.own o.key o.n o.to').1)); omega) (wwhole ((RowT.len RowT.zero).trans (RowT.len ((rowGive x.own o.key o.n o.to').1)).symm)) rfl ?_
 refine sg' ?_
 refine sg' ?_
 refine nx J41 ?_
 clear J41
 refine TC.ret ?_
 refine TE.retCTT (H' := [blkA r (RepT.cells x) 104]) rfl rfl rfl rfl Tryz.underlying48 rfl sz48 (Rd.own 2 rfl rfl) (RowT.len ((rowGive x.own o.key o.n o.to').1)) (fun _ s => sep_keep [0] rfl s) ?_
 exact ⟨by simp [planF, growOf, *], rfl⟩
 exact AllT.nil
 · exact absurd h47 h103
 exact AllT.nil
 exact AllT.nil
 refine TD.done (by kernel_rfl) ?_
 refine TE.next J34 ?_
 clear J34
 refine TC.no rfl ?_
 refine TC.skip ?_
 refine TE.blockEnd ?_
 refine TE.next J16 ?_
 clear J16
 refine TC.seq fun _ J42 => ?_
 refine sr fun _ J43 => ?_
 refine mv ?_
 refine tp (PV.neq rfl rfl rfl) ?_
 refine nx J43 ?_
 clear J43
 refine TC.yes rfl ?_
 refine sr fun _ J44 => ?_
 refine tp (PV.build (cells := (ints RowT.zero.flat).toArray) rfl rfl (by as_aux_lemma => kernel_rfl)) ?_
 refine mv ?_
 refine TL.store (vs := ints RowT.zero.flat) (i := 1) (H' := [blkA b7 (ints RowT.zero.flat) 48, blkA b4 (ints RowT.zero.flat) 48, blkA b3 (ints o.flat) 38, blkA r (RepT.cells x) 104]) (Want.plain rfl) rfl rfl rfl rfl rfl (by rw [(RowT.len RowT.zero)]; exact sz48) (ints_one _) rfl rfl (by have h0 := (RowT.len RowT.zero); have h1 := (RowT.len RowT.zero); omega) (wwhole ((RowT.len RowT.zero).trans (RowT.len RowT.zero).symm)) rfl ?_
 refine sg' ?_
 refine sg' ?_
 refine nx J44 ?_
 clear J44
 refine TC.ret ?_
 refine TE.passRet ?_
 clear J42
 refine TE.retCTT (H' := [blkA r (RepT.cells x) 104]) rfl rfl rfl rfl Tryz.underlying48 rfl sz48 (Rd.own 1 rfl rfl) (RowT.len RowT.zero) (fun _ s => sep_keep [3] rfl s) ?_
 exact ⟨by simp [planF, growOf, *], rfl⟩
 refine sg' ?_
 refine nx J33 ?_
 clear J33
 refine TC.no rfl ?_
 refine TC.skip ?_
 refine TE.blockEnd ?_
 refine TE.next J16 ?_
 clear J16
 refine TC.seq fun _ J45 => ?_
 refine sr fun _ J46 => ?_
 refine mv ?_
 refine tp (PV.neq rfl rfl rfl) ?_
 refine nx J46 ?_
 clear J46
 refine TC.yes rfl ?_
 refine sr fun _ J47 => ?_
 refine tp (PV.build (cells := (ints RowT.zero.flat).toArray) rfl rfl (by as_aux_lemma => kernel_rfl)) ?_
 refine mv ?_
 refine TL.store (vs := ints RowT.zero.flat) (i := 1) (H' := [blkA b7 (ints RowT.zero.flat) 48, blkA b4 (ints RowT.zero.flat) 48, blkA b3 (ints o.flat) 38, blkA r (RepT.cells x) 104]) (Want.plain rfl) rfl rfl rfl rfl rfl (by rw [(RowT.len RowT.zero)]; exact sz48) (ints_one _) rfl rfl (by have h0 := (RowT.len RowT.zero); have h1 := (RowT.len RowT.zero); omega) (wwhole ((RowT.len RowT.zero).trans (RowT.len RowT.zero).symm)) rfl ?_
 refine sg' ?_
 refine sg' ?_
 refine nx J47 ?_
 clear J47
 refine TC.ret ?_
 refine TE.passRet ?_
 clear J45
 refine TE.retCTT (H' := [blkA r (RepT.cells x) 104]) rfl rfl rfl rfl Tryz.underlying48 rfl sz48 (Rd.own 1 rfl rfl) (RowT.len RowT.zero) (fun _ s => sep_keep [3] rfl s) ?_
 exact ⟨by simp [planF, growOf, *], rfl⟩
 refine TL.nil ?_
 refine TE.draw (fun _ s => ⟨Frm.of s, s.block 2 (lb rfl) rfl, trivial⟩) ?_
 refine ta 9 rfl (PV.not (r := true) rfl rfl rfl) ?_
 refine TD.done (by kernel_rfl) ?_
 refine TE.next J3 ?_
 clear J3
 refine TC.yes rfl ?_
 refine sr fun _ J48 => ?_
 refine tp (PV.build (cells := (ints RowT.zero.flat).toArray) rfl rfl (by as_aux_lemma => kernel_rfl)) ?_
 refine TL.store (vs := ints RowT.zero.flat) (i := 0) (H' := [blkA b4 (ints RowT.zero.flat) 48, blkA b3 (ints o.flat) 38, blkA r (RepT.cells x) 104]) (Want.plain rfl) rfl rfl rfl rfl rfl (by rw [(RowT.len RowT.zero)]; exact sz48) (ints_one _) rfl rfl (by have h0 := (RowT.len RowT.zero); have h1 := (RowT.len RowT.zero); omega) (wwhole ((RowT.len RowT.zero).trans (RowT.len RowT.zero).symm)) rfl ?_
 refine sg' ?_
 refine sg' ?_
 refine nx J48 ?_
 clear J48
 refine TC.ret ?_
 refine TE.passRet ?_
 clear J2
 refine TE.retCTT (H' := [blkA r (RepT.cells x) 104]) rfl rfl rfl rfl Tryz.underlying48 rfl sz48 (Rd.own 0 rfl rfl) (RowT.len RowT.zero) (fun _ s => sep_keep [2] rfl s) ?_
 exact ⟨by simp [planF, growOf, *], rfl⟩
 exact AllT.nil
theorem client_does (r ob lg d : Nat) (x : RepT) (o : OpT) (recs : List (List UInt8)) (rs : List ReplyT) (l : List SaidT) (hlog : x.log = .pointer (some ⟨lg, 0, none⟩)) (hroom : (cN x o).2.2 = 0 → ¬ o.kind = 3 → sizeS recs + piecesN (encR (rowRec (cN x o).1)).length ≤ 2048) (hl : l.length ≤ 900000) (hrs : rs.length ≤ 1000000) (hid : machB x.id = true) (hkind : memb x.view x.id = true → o.kind ≠ 4) :
    Does Tryz.prog 12 #[(.pointer (some ⟨r, 0, none⟩)), (.iface 34 (.pointer (some ⟨ob, 0, none⟩))), (.agg (ints o.flat).toArray)] (fun _ => True) [blkA r (RepT.cells x) 104, lgP lg d (((recs).length : Nat) : Int) ((sizeS (recs) : Nat) : Int), dkL d (recs), own x.replies ((rs).length) (ints (List.flatMap ReplyT.flat (rs))) 92 3, outP ob (l)] (Ret (fun r' H => r' = .int .i64 (cN x o).2.2 ∧ ∃ v', v'.oneCell' = true ∧ H = [blkA r (RepT.cells { clientX x o with replies := v' }) 104, lgL lg d (clientC x o recs), dkL d (clientC x o recs), own v' (clientR x o rs).length (ints (List.flatMap ReplyT.flat (clientR x o rs))) 92 3, outP ob (l ++ clientO x o)])) := by
 refine Does.body (vs := [(.pointer (some ⟨r, 0, none⟩)), (.iface 34 (.pointer (some ⟨ob, 0, none⟩))), (.agg (ints o.flat).toArray)]) (n := 74) Tryz.func12 rfl rfl rfl (fun w0 F hF => ?_)
 refine sr fun _ J1 => ?_
 refine TL.ownLen 3 rfl rfl (fun _ hone => ?_)
 refine TL.box (Want.plain rfl) rfl rfl rfl rfl (fun b5 => ?_)
 change TL _ _ _ _ _ _ _ _ _ [blkA b5 (ints o.flat) 38, blkA r (RepT.cells x) 104, lgP lg d (((recs).length : Nat) : Int) ((sizeS (recs) : Nat) : Int), dkL d (recs), own x.replies ((rs).length) (ints (List.flatMap ReplyT.flat (rs))) 92 3, outP ob (l)]
 refine sg' ?_
 refine nx J1 ?_
 refine sr fun _ J2 => ?_
 refine mv ?_
 refine tp (PV.nilCheck rfl rfl) ?_
 refine tp (PV.fieldAddr (r := 1941) rfl Tryz.underlying104 rfl sz3 rfl rfl) ?_
 refine tp (PV.load1 (v := (.int .i64 (x.ops))) rfl Tryz.underlying3 rfl rfl (Rd.own 1 rfl rfl) (RepT.at_ops x rfl)) ?_
 refine tp (PV.add (r := (w64 (x.ops + 1))) rfl rfl rfl rfl) ?_
 refine tp (PV.nilCheck rfl rfl) ?_
 refine tp (PV.fieldAddr (r := 1941) rfl Tryz.underlying104 rfl sz3 rfl rfl) ?_
 refine TL.store1 (i := 1) (H' := [blkA b5 (ints o.flat) 38, blkA r (RepT.cells (RepT.mk x.id x.log x.view x.own x.mirror x.acc x.round x.vote x.book x.busy x.kept x.waits (w64 (x.ops + 1)) x.replies x.told x.last)) 104, lgP lg d (((recs).length : Nat) : Int) ((sizeS (recs) : Nat) : Int), dkL d (recs), own x.replies ((rs).length) (ints (List.flatMap ReplyT.flat (rs))) 92 3, outP ob (l)]) (Want.plain rfl) rfl rfl rfl rfl rfl sz3 rfl rfl (by have h0 := (RepT.len x); omega) (RepT.set_ops x rfl _) rfl ?_
 refine nx J2 ?_
 refine sr fun _ J3 => ?_
 refine mv ?_
 refine tp (PV.nilCheck rfl rfl) ?_
 refine tp (PV.fieldAddr (r := 1941) rfl Tryz.underlying104 rfl sz3 rfl rfl) ?_
 refine tp (PV.load1 (v := (.int .i64 ((w64 (x.ops + 1))))) rfl Tryz.underlying3 rfl rfl (Rd.own 1 rfl rfl) (RepT.at_ops (RepT.mk x.id x.log x.view x.own x.mirror x.acc x.round x.vote x.book x.busy x.kept x.waits (w64 (x.ops + 1)) x.replies x.told x.last) rfl)) ?_
 refine sg' ?_
 refine nx J3 ?_
 refine TC.seq fun _ J4 => ?_
 refine TC.seq fun _ J5 => ?_
 refine TC.draw (fun w => Frm F w ∧ w.heap[r]? = some (.cells (RepT.cells (RepT.mk x.id x.log x.view x.own x.mirror x.acc x.round x.vote x.book x.busy x.kept x.waits (w64 (x.ops + 1)) x.replies x.told x.last)).toArray 104 (0, 0)) ∧ w.heap[b5]? = some (.cells (ints o.flat).toArray 38 (0, 0)) ∧ True) mixed rfl (fun _ s => ⟨Frm.of s, s.block 1 (lb rfl) rfl, s.block 0 (lb rfl) rfl, trivial⟩) ?_
 refine ta 0 rfl (PV.move rfl rfl) ?_
 refine ta 1 rfl (PV.nilCheck rfl rfl) ?_
 refine ta 2 rfl (PV.fieldAddr (r := 2) rfl Tryz.underlying104 rfl sz52 rfl rfl) ?_
 refine ta 3 rfl (PV.loadN (vs := ints x.view.flat) rfl Tryz.underlying52 rfl sz52 rfl (fun _ h => h.2.1) (ViewT.len x.view) (RepT.sub_view (RepT.mk x.id x.log x.view x.own x.mirror x.acc x.round x.vote x.book x.busy x.kept x.waits (w64 (x.ops + 1)) x.replies x.told x.last) 0 rfl (by decide) (whole (ViewT.len x.view)))) ?_
 refine ta 4 rfl (PV.move rfl rfl) ?_
 refine ta 5 rfl (PV.nilCheck rfl rfl) ?_
 refine ta 6 rfl (PV.fieldAddr (r := 0) rfl Tryz.underlying104 rfl sz3 rfl rfl) ?_
 refine ta 7 rfl (PV.load1 (v := (.int .i64 (x.id))) rfl Tryz.underlying3 rfl rfl (fun _ h => h.2.1) (RepT.at_id (RepT.mk x.id x.log x.view x.own x.mirror x.acc x.round x.vote x.book x.busy x.kept x.waits (w64 (x.ops + 1)) x.replies x.told x.last) rfl)) ?_
 refine TD.all [8] (by kernel_rfl) rfl ?_
 refine AllT.cons rfl ?_ ?_
 refine TL.callR (A := []) (Want.plain rfl) rfl rfl rfl nm38 rfl (member_does x.view x.id) (fun _ s => s) (fun _ _ _ => trivial) (fun vR HR hR => ?_)
 obtain ⟨rfl, rfl⟩ := hR
 change TL _ _ _ _ _ _ _ _ _ [blkA b5 (ints o.flat) 38, blkA r (RepT.cells (RepT.mk x.id x.log x.view x.own x.mirror x.acc x.round x.vote x.book x.busy x.kept x.waits (w64 (x.ops + 1)) x.replies x.told x.last)) 104, lgP lg d (((recs).length : Nat) : Int) ((sizeS (recs) : Nat) : Int), dkL d (recs), own x.replies ((rs).length) (ints (List.flatMap ReplyT.flat (rs))) 92 3, outP ob (l)]
 refine TL.decB (fun h30 => ?_) (fun h30 => ?_)
 refine TL.nil ?_
 refine TE.draw (fun _ s => ⟨Frm.of s, s.block 1 (lb rfl) rfl, s.block 0 (lb rfl) rfl, trivial⟩) ?_
 refine ta 9 rfl (PV.move rfl rfl) ?_
 refine tb 10 rfl (PV.fieldAddr (r := 0) rfl Tryz.underlying38 rfl sz3 rfl rfl) ?_
 refine tb 11 rfl (PV.load1 (v := (.int .i64 (o.kind))) rfl Tryz.underlying3 rfl rfl (fun _ h => h.2.2.1) (OpT.at_kind o rfl)) ?_
 refine tb 12 rfl (PV.eql rfl rfl rfl) ?_
 refine TD.dec (fun h34 => ?_) (fun h34 => ?_)
 · exact absurd h34 (hkind h30)
 refine ta 13 rfl (PV.pick rfl rfl rfl) ?_
 refine TD.done (by kernel_rfl) ?_
 refine TE.next J5 ?_
 refine TC.no rfl ?_
 refine TC.skip ?_
 refine TE.next J4 ?_
 refine sr fun _ J6 => ?_
 refine mv ?_
 refine tp (PV.loadN (vs := ints o.flat) rfl Tryz.underlying38 rfl sz38 rfl (Rd.own 0 rfl rfl) (OpT.len o) (whole (OpT.len o))) ?_
 refine TL.callR (A := [blkA r (RepT.cells (RepT.mk x.id x.log x.view x.own x.mirror x.acc x.round x.vote x.book x.busy x.kept x.waits (w64 (x.ops + 1)) x.replies x.told x.last)) 104]) (Want.plain rfl) rfl rfl rfl nm40 rfl (plan_does r (RepT.mk x.id x.log x.view x.own x.mirror x.acc x.round x.vote x.book x.busy x.kept x.waits (w64 (x.ops + 1)) x.replies x.told x.last) o) (fun _ s => sep_selR [1] rfl s) (fun _ _ _ => trivial) (fun vR HR hR => ?_)
 obtain ⟨rfl, rfl⟩ := hR
 change TL _ _ _ _ _ _ _ _ _ [blkA r (RepT.cells (RepT.mk x.id x.log x.view x.own x.mirror x.acc x.round x.vote x.book x.busy x.kept x.waits (w64 (x.ops + 1)) x.replies x.told x.last)) 104, blkA b5 (ints o.flat) 38, lgP lg d (((recs).length : Nat) : Int) ((sizeS (recs) : Nat) : Int), dkL d (recs), own x.replies ((rs).length) (ints (List.flatMap ReplyT.flat (rs))) 92 3, outP ob (l)]
 refine mv ?_
 refine tp (PV.extract (vs := [(.agg (ints ((planF (opsF x) o).1).flat).toArray), (.int .i64 ((planF (opsF x) o).2.1)), (.int .i64 ((planF (opsF x) o).2.2))]) rfl rfl rfl) ?_
 refine tp (PV.extract (vs := [(.agg (ints ((planF (opsF x) o).1).flat).toArray), (.int .i64 ((planF (opsF x) o).2.1)), (.int .i64 ((planF (opsF x) o).2.2))]) rfl rfl rfl) ?_
 refine tp (PV.extract (vs := [(.agg (ints ((planF (opsF x) o).1).flat).toArray), (.int .i64 ((planF (opsF x) o).2.1)), (.int .i64 ((planF (opsF x) o).2.2))]) rfl rfl rfl) ?_
 refine TL.alloc (Want.plain rfl) rfl rfl rfl z48 (fun b8 => ?_)
 change TL _ _ _ _ _ _ _ _ _ [blkA b8 (ints RowT.zero.flat) 48, blkA r (RepT.cells (RepT.mk x.id x.log x.view x.own x.mirror x.acc x.round x.vote x.book x.busy x.kept x.waits (w64 (x.ops + 1)) x.replies x.told x.last)) 104, blkA b5 (ints o.flat) 38, lgP lg d (((recs).length : Nat) : Int) ((sizeS (recs) : Nat) : Int), dkL d (recs), own x.replies ((rs).length) (ints (List.flatMap ReplyT.flat (rs))) 92 3, outP ob (l)]
 refine TL.store (vs := ints ((planF (opsF x) o).1).flat) (i := 0) (H' := [blkA b8 (ints ((planF (opsF x) o).1).flat) 48, blkA r (RepT.cells (RepT.mk x.id x.log x.view x.own x.mirror x.acc x.round x.vote x.book x.busy x.kept x.waits (w64 (x.ops + 1)) x.replies x.told x.last)) 104, blkA b5 (ints o.flat) 38, lgP lg d (((recs).length : Nat) : Int) ((sizeS (recs) : Nat) : Int), dkL d (recs), own x.replies ((rs).length) (ints (List.flatMap ReplyT.flat (rs))) 92 3, outP ob (l)]) (Want.plain rfl) rfl rfl rfl rfl rfl (by rw [(RowT.len ((planF (opsF x) o).1))]; exact sz48) (ints_one _) rfl rfl (by have h0 := (RowT.len RowT.zero); have h1 := (RowT.len ((planF (opsF x) o).1)); omega) (wwhole ((RowT.len RowT.zero).trans (RowT.len ((planF (opsF x) o).1)).symm)) rfl ?_
 refine sg' ?_
 refine sg' ?_
 refine nx J6 ?_
 refine TC.seq fun _ J7 => ?_
 refine sr fun _ J8 => ?_
 refine mv ?_
 refine tp (PV.neq rfl rfl rfl) ?_
 refine TL.dec (fun h50 => ?_) (fun h50 => ?_)
 refine mv ?_
 refine TL.unmet (b := true) rfl rfl rfl rfl (lb rfl) ?_
 refine TL.unmet (b := true) rfl rfl rfl rfl (lb rfl) ?_
 refine TL.unmet (b := true) rfl rfl rfl rfl (lb rfl) ?_
 refine tp (PV.pick rfl rfl rfl) ?_
 refine nx J8 ?_
 refine TC.yes rfl ?_
 refine sr fun _ J9 => ?_
 refine mv ?_
 refine mv ?_
 refine mv ?_
 refine mv ?_
 refine TL.callR (A := [blkA r (RepT.cells (RepT.mk x.id x.log x.view x.own x.mirror x.acc x.round x.vote x.book x.busy x.kept x.waits (w64 (x.ops + 1)) x.replies x.told x.last)) 104, own x.replies ((rs).length) (ints (List.flatMap ReplyT.flat (rs))) 92 3]) (Want.plain rfl) rfl rfl rfl nm41 rfl (reply_does r (RepT.mk x.id x.log x.view x.own x.mirror x.acc x.round x.vote x.book x.busy x.kept x.waits (w64 (x.ops + 1)) x.replies x.told x.last) (w64 (x.ops + 1)) ((planF (opsF x) o).2.2) ((planF (opsF x) o).2.1) (rs) hrs) (fun _ s => sep_selR [1, 4] rfl s) (fun _ _ _ => trivial) (fun vR HR hR => ?_)
 obtain ⟨vr1, hovr1, rfl⟩ := hR
 change TL _ _ _ _ _ _ _ _ _ [blkA r (RepT.cells (RepT.mk x.id x.log x.view x.own x.mirror x.acc x.round x.vote x.book x.busy x.kept x.waits (w64 (x.ops + 1)) vr1 x.told x.last)) 104, own vr1 ((rs ++ [ReplyT.mk (w64 (x.ops + 1)) ((planF (opsF x) o).2.2) ((planF (opsF x) o).2.1)]).length) (ints (List.flatMap ReplyT.flat (rs ++ [ReplyT.mk (w64 (x.ops + 1)) ((planF (opsF x) o).2.2) ((planF (opsF x) o).2.1)]))) 92 3, blkA b8 (ints ((planF (opsF x) o).1).flat) 48, blkA b5 (ints o.flat) 38, lgP lg d (((recs).length : Nat) : Int) ((sizeS (recs) : Nat) : Int), dkL d (recs), outP ob (l)]
 refine nx J9 ?_
 refine sr fun _ J10 => ?_
 refine mv ?_
 refine sg' ?_
 refine nx J10 ?_
 refine TC.ret ?_
 refine TE.passRet ?_
 refine TE.weak (Sub.refl _) (fun _ s => sep_keep [0, 3, 3, 0, 2] rfl s) ?_
 refine TE.ret1 rfl rfl ?_
 have e : doneB x o = true := decide_eq_true (.inl h50)
 simp only [clientX, clientC, clientR, clientO, e, Bool.false_eq_true, ↓reduceIte, List.append_nil]
 exact ⟨rfl, _, hovr1, rfl⟩
 refine mv ?_
 refine tq (PV.fieldAddr (r := 0) rfl Tryz.underlying38 rfl sz3 rfl rfl) ?_
 refine tq (PV.load1 (v := (.int .i64 (o.kind))) rfl Tryz.underlying3 rfl rfl (Rd.own 2 rfl rfl) (OpT.at_kind o rfl)) ?_
 refine tq (PV.eql rfl rfl rfl) ?_
 refine TL.dec (fun h54 => ?_) (fun h54 => ?_)
 refine tp (PV.pick rfl rfl rfl) ?_
 refine nx J8 ?_
 refine TC.yes rfl ?_
 refine sr fun _ J11 => ?_
 refine mv ?_
 refine mv ?_
 refine mv ?_
 refine mv ?_
 refine TL.callR (A := [blkA r (RepT.cells (RepT.mk x.id x.log x.view x.own x.mirror x.acc x.round x.vote x.book x.busy x.kept x.waits (w64 (x.ops + 1)) x.replies x.told x.last)) 104, own x.replies ((rs).length) (ints (List.flatMap ReplyT.flat (rs))) 92 3]) (Want.plain rfl) rfl rfl rfl nm41 rfl (reply_does r (RepT.mk x.id x.log x.view x.own x.mirror x.acc x.round x.vote x.book x.busy x.kept x.waits (w64 (x.ops + 1)) x.replies x.told x.last) (w64 (x.ops + 1)) ((planF (opsF x) o).2.2) ((planF (opsF x) o).2.1) (rs) hrs) (fun _ s => sep_selR [1, 4] rfl s) (fun _ _ _ => trivial) (fun vR HR hR => ?_)
 obtain ⟨vr1, hovr1, rfl⟩ := hR
 change TL _ _ _ _ _ _ _ _ _ [blkA r (RepT.cells (RepT.mk x.id x.log x.view x.own x.mirror x.acc x.round x.vote x.book x.busy x.kept x.waits (w64 (x.ops + 1)) vr1 x.told x.last)) 104, own vr1 ((rs ++ [ReplyT.mk (w64 (x.ops + 1)) ((planF (opsF x) o).2.2) ((planF (opsF x) o).2.1)]).length) (ints (List.flatMap ReplyT.flat (rs ++ [ReplyT.mk (w64 (x.ops + 1)) ((planF (opsF x) o).2.2) ((planF (opsF x) o).2.1)]))) 92 3, blkA b8 (ints ((planF (opsF x) o).1).flat) 48, blkA b5 (ints o.flat) 38, lgP lg d (((recs).length : Nat) : Int) ((sizeS (recs) : Nat) : Int), dkL d (recs), outP ob (l)]
 refine nx J11 ?_
 refine sr fun _ J12 => ?_
 refine mv ?_
 refine sg' ?_
 refine nx J12 ?_
 refine TC.ret ?_
 refine TE.passRet ?_
 refine TE.weak (Sub.refl _) (fun _ s => sep_keep [0, 3, 3, 0, 2] rfl s) ?_
 refine TE.ret1 rfl rfl ?_
 have e : doneB x o = true := decide_eq_true (.inr h54)
 simp only [clientX, clientC, clientR, clientO, e, Bool.false_eq_true, ↓reduceIte, List.append_nil]
 exact ⟨rfl, _, hovr1, rfl⟩
 refine tp (PV.pick rfl rfl rfl) ?_
 refine nx J8 ?_
 refine TC.no rfl ?_
 refine TC.skip ?_
 refine TE.next J7 ?_
 refine TC.seq fun _ J13 => ?_
 refine sr fun _ J14 => ?_
 refine mv ?_
 refine mv ?_
 refine tp (PV.loadN (vs := ints ((planF (opsF x) o).1).flat) rfl Tryz.underlying48 rfl sz48 rfl (Rd.own 0 rfl rfl) (RowT.len ((planF (opsF x) o).1)) (whole (RowT.len ((planF (opsF x) o).1)))) ?_
 refine mv ?_
 refine TL.callR (A := [blkA r (RepT.cells (RepT.mk x.id x.log x.view x.own x.mirror x.acc x.round x.vote x.book x.busy x.kept x.waits (w64 (x.ops + 1)) x.replies x.told x.last)) 104, lgP lg d (((recs).length : Nat) : Int) ((sizeS (recs) : Nat) : Int), dkL d (recs), outP ob (l)]) (Want.plain rfl) rfl rfl rfl nm42 rfl (grow_does r ob lg d (RepT.mk x.id x.log x.view x.own x.mirror x.acc x.round x.vote x.book x.busy x.kept x.waits (w64 (x.ops + 1)) x.replies x.told x.last) ((planF (opsF x) o).1) (w64 (x.ops + 1)) (recs) (l) hlog (hroom (show (planF (opsF x) o).2.2 = 0 by omega) h54) hl hid) (fun _ s => sep_selR [1, 2, 2, 3] rfl s) (fun _ _ _ => trivial) (fun vR HR hR => ?_)
 obtain ⟨rfl, rfl⟩ := hR
 change TL _ _ _ _ _ _ _ _ _ [blkA r (RepT.cells (growF (opsF x) ((planF (opsF x) o).1) (opsF x).ops)) 104, lgP lg d (((recs ++ [encR (rowRec ((planF (opsF x) o).1))]).length : Nat) : Int) ((sizeS (recs ++ [encR (rowRec ((planF (opsF x) o).1))]) : Nat) : Int), dkL d (recs ++ [encR (rowRec ((planF (opsF x) o).1))]), outP ob (l ++ tellL (growF (opsF x) ((planF (opsF x) o).1) (opsF x).ops)), blkA b8 (ints ((planF (opsF x) o).1).flat) 48, blkA b5 (ints o.flat) 38, own x.replies ((rs).length) (ints (List.flatMap ReplyT.flat (rs))) 92 3]
 refine sg' ?_
 refine nx J14 ?_
 refine sr fun _ J15 => ?_
 refine mv ?_
 refine tp (PV.neq rfl rfl rfl) ?_
 refine nx J15 ?_
 refine TC.no rfl ?_
 refine TC.skip ?_
 refine TE.next J13 ?_
 refine sr fun _ J16 => ?_
 refine mv ?_
 refine sg' ?_
 refine nx J16 ?_
 refine TC.ret ?_
 refine TE.weak (Sub.refl _) (fun _ s => sep_keep [0, 0, 0, 3, 0] rfl s) ?_
 refine TE.ret1 rfl rfl ?_
 have e0 : (cN x o).2.2 = 0 := by show (planF (opsF x) o).2.2 = 0; omega
 have e : doneB x o = false := decide_eq_false (fun h => by rcases h with h | h; exact h e0; exact h54 h)
 simp only [clientX, clientC, clientR, clientO, e, Bool.false_eq_true, ↓reduceIte, List.append_nil]
 exact ⟨by rw [e0], _, hone, rfl⟩
 refine TL.nil ?_
 refine TE.draw (fun _ s => ⟨Frm.of s, s.block 1 (lb rfl) rfl, s.block 0 (lb rfl) rfl, trivial⟩) ?_
 refine ta 9 rfl (PV.move rfl rfl) ?_
 refine TD.takeNot (i := 10) (b := false) rfl (by kernel_rfl) (by kernel_rfl) (by kernel_rfl) (fun _ _ _ _ h => h) rfl rfl rfl rfl rfl ?_
 refine TD.takeNot (i := 11) (b := false) rfl (by kernel_rfl) (by kernel_rfl) (by kernel_rfl) (fun _ _ _ _ h => h) rfl rfl rfl rfl rfl ?_
 refine TD.takeNot (i := 12) (b := false) rfl (by kernel_rfl) (by kernel_rfl) (by kernel_rfl) (fun _ _ _ _ h => h) rfl rfl rfl rfl rfl ?_
 refine ta 13 rfl (PV.pick rfl rfl rfl) ?_
 refine TD.done (by kernel_rfl) ?_
 refine TE.next J5 ?_
 refine TC.no rfl ?_
 refine TC.skip ?_
 refine TE.next J4 ?_
 refine sr fun _ J17 => ?_
 refine mv ?_
 refine tp (PV.loadN (vs := ints o.flat) rfl Tryz.underlying38 rfl sz38 rfl (Rd.own 0 rfl rfl) (OpT.len o) (whole (OpT.len o))) ?_
 refine TL.callR (A := [blkA r (RepT.cells (RepT.mk x.id x.log x.view x.own x.mirror x.acc x.round x.vote x.book x.busy x.kept x.waits (w64 (x.ops + 1)) x.replies x.told x.last)) 104]) (Want.plain rfl) rfl rfl rfl nm40 rfl (plan_does r (RepT.mk x.id x.log x.view x.own x.mirror x.acc x.round x.vote x.book x.busy x.kept x.waits (w64 (x.ops + 1)) x.replies x.told x.last) o) (fun _ s => sep_selR [1] rfl s) (fun _ _ _ => trivial) (fun vR HR hR => ?_)
 obtain ⟨rfl, rfl⟩ := hR
 change TL _ _ _ _ _ _ _ _ _ [blkA r (RepT.cells (RepT.mk x.id x.log x.view x.own x.mirror x.acc x.round x.vote x.book x.busy x.kept x.waits (w64 (x.ops + 1)) x.replies x.told x.last)) 104, blkA b5 (ints o.flat) 38, lgP lg d (((recs).length : Nat) : Int) ((sizeS (recs) : Nat) : Int), dkL d (recs), own x.replies ((rs).length) (ints (List.flatMap ReplyT.flat (rs))) 92 3, outP ob (l)]
 refine mv ?_
 refine tp (PV.extract (vs := [(.agg (ints ((planF (opsF x) o).1).flat).toArray), (.int .i64 ((planF (opsF x) o).2.1)), (.int .i64 ((planF (opsF x) o).2.2))]) rfl rfl rfl) ?_
 refine tp (PV.extract (vs := [(.agg (ints ((planF (opsF x) o).1).flat).toArray), (.int .i64 ((planF (opsF x) o).2.1)), (.int .i64 ((planF (opsF x) o).2.2))]) rfl rfl rfl) ?_
 refine tp (PV.extract (vs := [(.agg (ints ((planF (opsF x) o).1).flat).toArray), (.int .i64 ((planF (opsF x) o).2.1)), (.int .i64 ((planF (opsF x) o).2.2))]) rfl rfl rfl) ?_
 refine TL.alloc (Want.plain rfl) rfl rfl rfl z48 (fun b8 => ?_)
 change TL _ _ _ _ _ _ _ _ _ [blkA b8 (ints RowT.zero.flat) 48, blkA r (RepT.cells (RepT.mk x.id x.log x.view x.own x.mirror x.acc x.round x.vote x.book x.busy x.kept x.waits (w64 (x.ops + 1)) x.replies x.told x.last)) 104, blkA b5 (ints o.flat) 38, lgP lg d (((recs).length : Nat) : Int) ((sizeS (recs) : Nat) : Int), dkL d (recs), own x.replies ((rs).length) (ints (List.flatMap ReplyT.flat (rs))) 92 3, outP ob (l)]
 refine TL.store (vs := ints ((planF (opsF x) o).1).flat) (i := 0) (H' := [blkA b8 (ints ((planF (opsF x) o).1).flat) 48, blkA r (RepT.cells (RepT.mk x.id x.log x.view x.own x.mirror x.acc x.round x.vote x.book x.busy x.kept x.waits (w64 (x.ops + 1)) x.replies x.told x.last)) 104, blkA b5 (ints o.flat) 38, lgP lg d (((recs).length : Nat) : Int) ((sizeS (recs) : Nat) : Int), dkL d (recs), own x.replies ((rs).length) (ints (List.flatMap ReplyT.flat (rs))) 92 3, outP ob (l)]) (Want.plain rfl) rfl rfl rfl rfl rfl (by rw [(RowT.len ((planF (opsF x) o).1))]; exact sz48) (ints_one _) rfl rfl (by have h0 := (RowT.len RowT.zero); have h1 := (RowT.len ((planF (opsF x) o).1)); omega) (wwhole ((RowT.len RowT.zero).trans (RowT.len ((planF (opsF x) o).1)).symm)) rfl ?_
 refine sg' ?_
 refine sg' ?_
 refine nx J17 ?_
 refine TC.seq fun _ J18 => ?_
 refine sr fun _ J19 => ?_
 refine mv ?_
 refine tp (PV.neq rfl rfl rfl) ?_
 refine TL.dec (fun h50 => ?_) (fun h50 => ?_)
 refine mv ?_
 refine TL.unmet (b := true) rfl rfl rfl rfl (lb rfl) ?_
 refine TL.unmet (b := true) rfl rfl rfl rfl (lb rfl) ?_
 refine TL.unmet (b := true) rfl rfl rfl rfl (lb rfl) ?_
 refine tp (PV.pick rfl rfl rfl) ?_
 refine nx J19 ?_
 refine TC.yes rfl ?_
 refine sr fun _ J20 => ?_
 refine mv ?_
 refine mv ?_
 refine mv ?_
 refine mv ?_
 refine TL.callR (A := [blkA r (RepT.cells (RepT.mk x.id x.log x.view x.own x.mirror x.acc x.round x.vote x.book x.busy x.kept x.waits (w64 (x.ops + 1)) x.replies x.told x.last)) 104, own x.replies ((rs).length) (ints (List.flatMap ReplyT.flat (rs))) 92 3]) (Want.plain rfl) rfl rfl rfl nm41 rfl (reply_does r (RepT.mk x.id x.log x.view x.own x.mirror x.acc x.round x.vote x.book x.busy x.kept x.waits (w64 (x.ops + 1)) x.replies x.told x.last) (w64 (x.ops + 1)) ((planF (opsF x) o).2.2) ((planF (opsF x) o).2.1) (rs) hrs) (fun _ s => sep_selR [1, 4] rfl s) (fun _ _ _ => trivial) (fun vR HR hR => ?_)
 obtain ⟨vr1, hovr1, rfl⟩ := hR
 change TL _ _ _ _ _ _ _ _ _ [blkA r (RepT.cells (RepT.mk x.id x.log x.view x.own x.mirror x.acc x.round x.vote x.book x.busy x.kept x.waits (w64 (x.ops + 1)) vr1 x.told x.last)) 104, own vr1 ((rs ++ [ReplyT.mk (w64 (x.ops + 1)) ((planF (opsF x) o).2.2) ((planF (opsF x) o).2.1)]).length) (ints (List.flatMap ReplyT.flat (rs ++ [ReplyT.mk (w64 (x.ops + 1)) ((planF (opsF x) o).2.2) ((planF (opsF x) o).2.1)]))) 92 3, blkA b8 (ints ((planF (opsF x) o).1).flat) 48, blkA b5 (ints o.flat) 38, lgP lg d (((recs).length : Nat) : Int) ((sizeS (recs) : Nat) : Int), dkL d (recs), outP ob (l)]
 refine nx J20 ?_
 refine sr fun _ J21 => ?_
 refine mv ?_
 refine sg' ?_
 refine nx J21 ?_
 refine TC.ret ?_
 refine TE.passRet ?_
 refine TE.weak (Sub.refl _) (fun _ s => sep_keep [0, 3, 3, 0, 2] rfl s) ?_
 refine TE.ret1 rfl rfl ?_
 have e : doneB x o = true := decide_eq_true (.inl h50)
 simp only [clientX, clientC, clientR, clientO, e, Bool.false_eq_true, ↓reduceIte, List.append_nil]
 exact ⟨rfl, _, hovr1, rfl⟩
 refine mv ?_
 refine tq (PV.fieldAddr (r := 0) rfl Tryz.underlying38 rfl sz3 rfl rfl) ?_
 refine tq (PV.load1 (v := (.int .i64 (o.kind))) rfl Tryz.underlying3 rfl rfl (Rd.own 2 rfl rfl) (OpT.at_kind o rfl)) ?_
 refine tq (PV.eql rfl rfl rfl) ?_
 refine TL.dec (fun h54 => ?_) (fun h54 => ?_)
 refine tp (PV.pick rfl rfl rfl) ?_
 refine nx J19 ?_
 refine TC.yes rfl ?_
 refine sr fun _ J22 => ?_
 refine mv ?_
 refine mv ?_
 refine mv ?_
 refine mv ?_
 refine TL.callR (A := [blkA r (RepT.cells (RepT.mk x.id x.log x.view x.own x.mirror x.acc x.round x.vote x.book x.busy x.kept x.waits (w64 (x.ops + 1)) x.replies x.told x.last)) 104, own x.replies ((rs).length) (ints (List.flatMap ReplyT.flat (rs))) 92 3]) (Want.plain rfl) rfl rfl rfl nm41 rfl (reply_does r (RepT.mk x.id x.log x.view x.own x.mirror x.acc x.round x.vote x.book x.busy x.kept x.waits (w64 (x.ops + 1)) x.replies x.told x.last) (w64 (x.ops + 1)) ((planF (opsF x) o).2.2) ((planF (opsF x) o).2.1) (rs) hrs) (fun _ s => sep_selR [1, 4] rfl s) (fun _ _ _ => trivial) (fun vR HR hR => ?_)
 obtain ⟨vr1, hovr1, rfl⟩ := hR
 change TL _ _ _ _ _ _ _ _ _ [blkA r (RepT.cells (RepT.mk x.id x.log x.view x.own x.mirror x.acc x.round x.vote x.book x.busy x.kept x.waits (w64 (x.ops + 1)) vr1 x.told x.last)) 104, own vr1 ((rs ++ [ReplyT.mk (w64 (x.ops + 1)) ((planF (opsF x) o).2.2) ((planF (opsF x) o).2.1)]).length) (ints (List.flatMap ReplyT.flat (rs ++ [ReplyT.mk (w64 (x.ops + 1)) ((planF (opsF x) o).2.2) ((planF (opsF x) o).2.1)]))) 92 3, blkA b8 (ints ((planF (opsF x) o).1).flat) 48, blkA b5 (ints o.flat) 38, lgP lg d (((recs).length : Nat) : Int) ((sizeS (recs) : Nat) : Int), dkL d (recs), outP ob (l)]
 refine nx J22 ?_
 refine sr fun _ J23 => ?_
 refine mv ?_
 refine sg' ?_
 refine nx J23 ?_
 refine TC.ret ?_
 refine TE.passRet ?_
 refine TE.weak (Sub.refl _) (fun _ s => sep_keep [0, 3, 3, 0, 2] rfl s) ?_
 refine TE.ret1 rfl rfl ?_
 have e : doneB x o = true := decide_eq_true (.inr h54)
 simp only [clientX, clientC, clientR, clientO, e, Bool.false_eq_true, ↓reduceIte, List.append_nil]
 exact ⟨rfl, _, hovr1, rfl⟩
 refine tp (PV.pick rfl rfl rfl) ?_
 refine nx J19 ?_
 refine TC.no rfl ?_
 refine TC.skip ?_
 refine TE.next J18 ?_
 refine TC.seq fun _ J24 => ?_
 refine sr fun _ J25 => ?_
 refine mv ?_
 refine mv ?_
 refine tp (PV.loadN (vs := ints ((planF (opsF x) o).1).flat) rfl Tryz.underlying48 rfl sz48 rfl (Rd.own 0 rfl rfl) (RowT.len ((planF (opsF x) o).1)) (whole (RowT.len ((planF (opsF x) o).1)))) ?_
 refine mv ?_
 refine TL.callR (A := [blkA r (RepT.cells (RepT.mk x.id x.log x.view x.own x.mirror x.acc x.round x.vote x.book x.busy x.kept x.waits (w64 (x.ops + 1)) x.replies x.told x.last)) 104, lgP lg d (((recs).length : Nat) : Int) ((sizeS (recs) : Nat) : Int), dkL d (recs), outP ob (l)]) (Want.plain rfl) rfl rfl rfl nm42 rfl (grow_does r ob lg d (RepT.mk x.id x.log x.view x.own x.mirror x.acc x.round x.vote x.book x.busy x.kept x.waits (w64 (x.ops + 1)) x.replies x.told x.last) ((planF (opsF x) o).1) (w64 (x.ops + 1)) (recs) (l) hlog (hroom (show (planF (opsF x) o).2.2 = 0 by omega) h54) hl hid) (fun _ s => sep_selR [1, 2, 2, 3] rfl s) (fun _ _ _ => trivial) (fun vR HR hR => ?_)
 obtain ⟨rfl, rfl⟩ := hR
 change TL _ _ _ _ _ _ _ _ _ [blkA r (RepT.cells (growF (opsF x) ((planF (opsF x) o).1) (opsF x).ops)) 104, lgP lg d (((recs ++ [encR (rowRec ((planF (opsF x) o).1))]).length : Nat) : Int) ((sizeS (recs ++ [encR (rowRec ((planF (opsF x) o).1))]) : Nat) : Int), dkL d (recs ++ [encR (rowRec ((planF (opsF x) o).1))]), outP ob (l ++ tellL (growF (opsF x) ((planF (opsF x) o).1) (opsF x).ops)), blkA b8 (ints ((planF (opsF x) o).1).flat) 48, blkA b5 (ints o.flat) 38, own x.replies ((rs).length) (ints (List.flatMap ReplyT.flat (rs))) 92 3]
 refine sg' ?_
 refine nx J25 ?_
 refine sr fun _ J26 => ?_
 refine mv ?_
 refine tp (PV.neq rfl rfl rfl) ?_
 refine nx J26 ?_
 refine TC.no rfl ?_
 refine TC.skip ?_
 refine TE.next J24 ?_
 refine sr fun _ J27 => ?_
 refine mv ?_
 refine sg' ?_
 refine nx J27 ?_
 refine TC.ret ?_
 refine TE.weak (Sub.refl _) (fun _ s => sep_keep [0, 0, 0, 3, 0] rfl s) ?_
 refine TE.ret1 rfl rfl ?_
 have e0 : (cN x o).2.2 = 0 := by show (planF (opsF x) o).2.2 = 0; omega
 have e : doneB x o = false := decide_eq_false (fun h => by rcases h with h | h; exact h e0; exact h54 h)
 simp only [clientX, clientC, clientR, clientO, e, Bool.false_eq_true, ↓reduceIte, List.append_nil]
 exact ⟨by rw [e0], _, hone, rfl⟩
 exact AllT.nil
end Go.Proofs.YtfceaphohlbnbaaGreat
end

section
namespace Go.Proofs.YtfceaphohlbnbaaGreat

open Go Leg Codec Api Dsk Wal

set_option linter.unusedSimpArgs false
set_option linter.unusedVariables false

set_option maxRecDepth 100000

set_option maxHeartbeats 8000000

theorem index_does (x : Value) (l : List Int) (v : Int) (hl : l.length ≤ 1000000) :
    Does Tryz.prog 114 #[x, (.int .i64 (v))] (IsI .i64 x l) [] (Ret (fun r' H => ∃ n : Int, r' = .int .i64 n ∧ (decide (n ≥ 0) = true ↔ v ∈ l) ∧ H = [])) := by
 refine Does.body (vs := [x, (.int .i64 (v))]) (n := 19) Tryz.func114 rfl rfl rfl (fun w0 F hF => ?_)
 refine sr fun _ J1 => ?_
 refine sg' ?_
 refine nx J1 ?_
 refine TC.seq fun _ J2 => ?_
 refine sr fun _ J3 => ?_
 refine mv ?_
 refine tp (PV.lenV rfl Tryz.underlying74 rfl hF.len) ?_
 refine mv ?_
 refine nx J3 ?_
 refine TC.block ?_
 refine TC.loop (α := (Nat)) (fun k => k ≤ l.length ∧ ∀ (j : Nat), j < k → l.getD j 0 ≠ v) (fun k => [(0, x), (1, (.int .i64 (v))), (7, (.int .i64 (((l.length : Nat) : Int)))), (8, (.int .i64 (((k : Nat) : Int))))]) (fun k => []) (fun k => l.length - k) 0
     ⟨Nat.zero_le _, fun j h => absurd h (by omega)⟩ (Sub.r (Sub.r (Sub.r (Sub.cons rfl (by congr 1) (Sub.nil _)))))
     (fun _ s => s) (fun k hinv => ?_)
 obtain ⟨hk, hv⟩ := hinv
 refine sr fun _ J4 => ?_
 refine tp (PV.lss rfl rfl rfl) ?_
 refine TL.dec (fun h9 => ?_) (fun h9 => ?_)
 obtain ⟨b_a, off_a, cap_a, cs_a, T_a, z_a, hv_a, hb_a, hcs_a, hcp_a⟩ := IsI.at hF (j := k) (by omega)
 refine nx J4 ?_
 refine TC.seq fun _ J5 => ?_
 refine TC.yes rfl ?_
 refine TC.skip ?_
 refine TE.next J5 ?_
 refine TC.seq fun _ J6 => ?_
 refine TC.block ?_
 refine sr fun _ J7 => ?_
 refine mv ?_
 refine sg' ?_
 refine nx J7 ?_
 refine sr fun _ J8 => ?_
 refine mv ?_
 refine mv ?_
 refine mv ?_
 refine tp (PV.indexSlV (r := off_a + k) hv_a rfl Tryz.underlying74 sz3 rfl rfl (by omega) (by omega) (by omega)) ?_
 refine tp (PV.load1X (v := (.int .i64 ((l.getD k 0)))) rfl Tryz.underlying3 rfl rfl (RdX.frm hb_a (fun _ h => Frm.of h)) hcs_a) ?_
 refine tp (PV.eql rfl rfl rfl) ?_
 refine TL.dec (fun h16 => ?_) (fun h16 => ?_)
 refine nx J8 ?_
 refine TC.yes rfl ?_
 refine sr fun _ J9 => ?_
 refine mv ?_
 refine sg' ?_
 refine nx J9 ?_
 refine TC.ret ?_
 refine TE.blockRet ?_
 refine TE.passRet ?_
 refine TE.passRet ?_
 refine TE.blockRet ?_
 refine TE.passRet ?_
 refine TE.weak (Sub.refl _) (fun _ s => sep_keep [] rfl s) ?_
 refine TE.ret1 rfl rfl ?_
 exact ⟨((k : Nat) : Int), rfl, by rw [decide_eq_true_iff]; exact ⟨fun _ => by rw [h16, List.getD_eq_getElem?_getD, List.getElem?_eq_getElem (by omega)]; exact List.getElem_mem _, fun _ => by omega⟩, rfl⟩
 refine nx J8 ?_
 refine TC.no rfl ?_
 refine TC.skip ?_
 refine TE.blockEnd ?_
 refine TE.next J6 ?_
 refine TC.region ?_
 refine tp (PV.add rfl rfl rfl (wrap_i64 (by omega) (by omega))) ?_
 refine mv ?_
 refine TL.nil ?_
 exact TE.round ((k + 1) : (Nat)) ⟨by omega, fun j hj => by
        by_cases q : j = k
        · subst q; exact fun e => h16 e.symm
        · exact hv j (by omega)⟩ (by show l.length - (k + 1) < l.length - k; omega)
   (Sub.r (Sub.r (Sub.r (Sub.cons rfl (by simp) (Sub.nil _)))))
   (fun _ s => s)
 refine nx J4 ?_
 refine TC.seq fun _ J10 => ?_
 refine TC.no rfl ?_
 refine TC.exit ?_
 refine TE.pass ?_
 refine TE.pass ?_
 refine TE.hit ?_
 refine TE.next J2 ?_
 refine sr fun _ J11 => ?_
 refine sg' ?_
 refine nx J11 ?_
 refine TC.ret ?_
 refine TE.weak (Sub.refl _) (fun _ s => sep_keep [] rfl s) ?_
 refine TE.ret1 rfl rfl ?_
 exact ⟨-1, rfl, by
      rw [decide_eq_true_iff]
      constructor
      · intro h; omega
      · intro h
        obtain ⟨j, hj, e⟩ := List.getElem_of_mem h
        have := hv j (by omega)
        rw [List.getD_eq_getElem?_getD, List.getElem?_eq_getElem hj] at this
        exact absurd e this, rfl⟩
theorem contains_does (x : Value) (l : List Int) (v : Int) (hl : l.length ≤ 1000000) :
    Does Tryz.prog 80 #[x, (.int .i64 (v))] (IsI .i64 x l) [] (Ret (fun r' H => r' = .bool (decide (v ∈ l)) ∧ H = [])) := by
 refine Does.body (vs := [x, (.int .i64 (v))]) (n := 9) Tryz.func80 rfl rfl rfl (fun w0 F hF => ?_)
 refine sr fun _ J1 => ?_
 refine sg' ?_
 refine nx J1 ?_
 refine sr fun _ J2 => ?_
 refine mv ?_
 refine mv ?_
 refine TL.callR (A := []) (Want.plain rfl) rfl rfl rfl nm114 rfl (index_does x l v hl) (fun _ s => s) (fun _ d _ => IsI.more hF d) (fun vR HR hR => ?_)
 obtain ⟨n, rfl, hn, rfl⟩ := hR
 change TL _ _ _ _ _ _ _ _ _ []
 refine tp (PV.geq rfl rfl rfl) ?_
 refine sg' ?_
 refine nx J2 ?_
 refine TC.ret ?_
 refine TE.weak (Sub.refl _) (fun _ s => sep_keep [] rfl s) ?_
 refine TE.ret1 rfl rfl ?_
 exact ⟨congrArg Value.bool (by rw [Bool.eq_iff_iff, hn, decide_eq_true_iff]), rfl⟩
theorem counted_does (r ob : Nat) (x : RepT) (rs : List ReplyT) (l : List SaidT) (hwo : WF x.own.flat) (hal : Alone x) (hl : l.length ≤ 900000) (hrs : rs.length ≤ 1000000) :
    Does Tryz.prog 81 #[(.pointer (some ⟨r, 0, none⟩)), (.iface 34 (.pointer (some ⟨ob, 0, none⟩)))] (fun _ => True) [blkA r (RepT.cells x) 104, own x.replies ((rs).length) (ints (List.flatMap ReplyT.flat (rs))) 92 3, outP ob (l)] (Ret (fun _ H => ∃ v', v'.oneCell' = true ∧ H = [blkA r (RepT.cells { countF x with replies := v' }) 104, own v' (countR x rs).length (ints (List.flatMap ReplyT.flat (countR x rs))) 92 3, outP ob (l ++ newsL x.id x.own)])) := by
 refine Does.body (vs := [(.pointer (some ⟨r, 0, none⟩)), (.iface 34 (.pointer (some ⟨ob, 0, none⟩)))]) (n := 43) Tryz.func81 rfl rfl rfl (fun w0 F hF => ?_)
 refine sr fun _ J1 => ?_
 refine TL.ownLen 1 rfl rfl (fun _ hone => ?_)
 refine mv ?_
 refine tp (PV.nilCheck rfl rfl) ?_
 refine tp (PV.fieldAddr (r := 1938) rfl Tryz.underlying104 rfl sz4 rfl rfl) ?_
 refine TL.store1 (i := 0) (H' := [blkA r (RepT.cells (RepT.mk x.id x.log x.view x.own x.mirror x.acc x.round x.vote x.book false x.kept x.waits x.ops x.replies x.told x.last)) 104, own x.replies ((rs).length) (ints (List.flatMap ReplyT.flat (rs))) 92 3, outP ob (l)]) (Want.plain rfl) rfl rfl rfl rfl rfl sz4 rfl rfl (by have h0 := (RepT.len x); omega) (RepT.set_busy x rfl _) rfl ?_
 refine nx J1 ?_
 refine TC.seq fun _ J2 => ?_
 refine TC.draw (fun w => Frm F w ∧ True) mixed rfl (fun _ s => ⟨Frm.of s, trivial⟩) ?_
 refine ta 0 rfl (PV.move rfl rfl) ?_
 refine ta 1 rfl (PV.nilCheck rfl rfl) ?_
 refine ta 2 rfl (PV.fieldAddr (r := 1068) rfl Tryz.underlying104 rfl sz71 rfl rfl) ?_
 refine ta 3 rfl (PV.move rfl rfl) ?_
 refine ta 4 rfl (PV.nilCheck rfl rfl) ?_
 refine ta 5 rfl (PV.fieldAddr (r := 0) rfl Tryz.underlying104 rfl sz3 rfl rfl) ?_
 refine ta 7 rfl (PV.move rfl rfl) ?_
 refine ta 8 rfl (PV.nilCheck rfl rfl) ?_
 refine ta 9 rfl (PV.fieldAddr (r := 9) rfl Tryz.underlying104 rfl sz48 rfl rfl) ?_
 refine TD.all [6, 10] (by kernel_rfl) rfl ?_
 refine AllT.cons rfl ?_ ?_
 refine tp (PV.load1 (v := (.int .i64 (x.id))) rfl Tryz.underlying3 rfl rfl (Rd.own 0 rfl rfl) (RepT.at_id (RepT.mk x.id x.log x.view x.own x.mirror x.acc x.round x.vote x.book false x.kept x.waits x.ops x.replies x.told x.last) rfl)) ?_
 refine TL.nil ?_
 refine TE.draw (fun _ s => ⟨Frm.of s, trivial⟩) ?_
 refine TD.all [10] (by kernel_rfl) rfl ?_
 refine AllT.cons rfl ?_ ?_
 refine tp (PV.loadN (vs := ints x.own.flat) rfl Tryz.underlying48 rfl sz48 rfl (Rd.own 0 rfl rfl) (RowT.len x.own) (RepT.sub_own (RepT.mk x.id x.log x.view x.own x.mirror x.acc x.round x.vote x.book false x.kept x.waits x.ops x.replies x.told x.last) 0 rfl (by decide) (whole (RowT.len x.own)))) ?_
 refine TL.nil ?_
 refine TE.draw (fun _ s => ⟨Frm.of s, trivial⟩) ?_
 refine TD.all [11] (by kernel_rfl) rfl ?_
 refine AllT.cons rfl ?_ ?_
 refine TL.callR (A := [blkA r (RepT.cells (RepT.mk x.id x.log x.view x.own x.mirror x.acc x.round x.vote x.book false x.kept x.waits x.ops x.replies x.told x.last)) 104]) (Want.plain rfl) rfl rfl rfl nm20 rfl (bookMerge_does r 1068 104 (fun u => RepT.cells { (RepT.mk x.id x.log x.view x.own x.mirror x.acc x.round x.vote x.book false x.kept x.waits x.ops x.replies x.told x.last) with book := u }) (RepT.arnd_book (RepT.mk x.id x.log x.view x.own x.mirror x.acc x.round x.vote x.book false x.kept x.waits x.ops x.replies x.told x.last)) x.book x.id x.own hwo) (fun _ s => s) (fun _ _ _ => trivial) (fun vR HR hR => ?_)
 obtain ⟨rfl, rfl⟩ := hR
 change TL _ _ _ _ _ _ _ _ _ [blkA r (RepT.cells (RepT.mk x.id x.log x.view x.own x.mirror x.acc x.round x.vote ((bookMerge x.book x.id x.own).1) false x.kept x.waits x.ops x.replies x.told x.last)) 104, own x.replies ((rs).length) (ints (List.flatMap ReplyT.flat (rs))) 92 3, outP ob (l)]
 refine TL.nil ?_
 refine TE.draw (fun _ s => ⟨Frm.of s, trivial⟩) ?_
 refine TD.done (by kernel_rfl) ?_
 refine TE.next J2 ?_
 refine TC.seq fun _ J3 => ?_
 refine sr fun _ J4 => ?_
 refine mv ?_
 refine tp (PV.nilCheck rfl rfl) ?_
 refine tp (PV.fieldAddr (r := 1940) rfl Tryz.underlying104 rfl sz3 rfl rfl) ?_
 refine tp (PV.load1 (v := (.int .i64 (x.waits))) rfl Tryz.underlying3 rfl rfl (Rd.own 0 rfl rfl) (RepT.at_waits (RepT.mk x.id x.log x.view x.own x.mirror x.acc x.round x.vote ((bookMerge x.book x.id x.own).1) false x.kept x.waits x.ops x.replies x.told x.last) rfl)) ?_
 refine tp (PV.gtr rfl rfl rfl) ?_
 refine TL.dec (fun h23 => ?_) (fun h23 => ?_)
 refine nx J4 ?_
 refine TC.yes rfl ?_
 refine sr fun _ J5 => ?_
 refine mv ?_
 refine mv ?_
 refine tp (PV.nilCheck rfl rfl) ?_
 refine tp (PV.fieldAddr (r := 1940) rfl Tryz.underlying104 rfl sz3 rfl rfl) ?_
 refine tp (PV.load1 (v := (.int .i64 (x.waits))) rfl Tryz.underlying3 rfl rfl (Rd.own 0 rfl rfl) (RepT.at_waits (RepT.mk x.id x.log x.view x.own x.mirror x.acc x.round x.vote ((bookMerge x.book x.id x.own).1) false x.kept x.waits x.ops x.replies x.told x.last) rfl)) ?_
 refine TL.callR (A := [blkA r (RepT.cells (RepT.mk x.id x.log x.view x.own x.mirror x.acc x.round x.vote ((bookMerge x.book x.id x.own).1) false x.kept x.waits x.ops x.replies x.told x.last)) 104, own x.replies ((rs).length) (ints (List.flatMap ReplyT.flat (rs))) 92 3]) (Want.plain rfl) rfl rfl rfl nm41 rfl (reply_does r (RepT.mk x.id x.log x.view x.own x.mirror x.acc x.round x.vote ((bookMerge x.book x.id x.own).1) false x.kept x.waits x.ops x.replies x.told x.last) x.waits 0 0 (rs) hrs) (fun _ s => s) (fun _ _ _ => trivial) (fun vR HR hR => ?_)
 obtain ⟨vr1, hovr1, rfl⟩ := hR
 change TL _ _ _ _ _ _ _ _ _ [blkA r (RepT.cells (RepT.mk x.id x.log x.view x.own x.mirror x.acc x.round x.vote ((bookMerge x.book x.id x.own).1) false x.kept x.waits x.ops vr1 x.told x.last)) 104, own vr1 ((rs ++ [ReplyT.mk x.waits 0 0]).length) (ints (List.flatMap ReplyT.flat (rs ++ [ReplyT.mk x.waits 0 0]))) 92 3, outP ob (l)]
 refine nx J5 ?_
 refine TC.region ?_
 refine mv ?_
 refine tp (PV.nilCheck rfl rfl) ?_
 refine tp (PV.fieldAddr (r := 1940) rfl Tryz.underlying104 rfl sz3 rfl rfl) ?_
 refine TL.store1 (i := 0) (H' := [blkA r (RepT.cells (RepT.mk x.id x.log x.view x.own x.mirror x.acc x.round x.vote ((bookMerge x.book x.id x.own).1) false x.kept 0 x.ops vr1 x.told x.last)) 104, own vr1 ((rs ++ [ReplyT.mk x.waits 0 0]).length) (ints (List.flatMap ReplyT.flat (rs ++ [ReplyT.mk x.waits 0 0]))) 92 3, outP ob (l)]) (Want.plain rfl) rfl rfl rfl rfl rfl sz3 rfl rfl (by have h0 := (RepT.len (RepT.mk x.id x.log x.view x.own x.mirror x.acc x.round x.vote ((bookMerge x.book x.id x.own).1) false x.kept x.waits x.ops vr1 x.told x.last)); omega) (RepT.set_waits (RepT.mk x.id x.log x.view x.own x.mirror x.acc x.round x.vote ((bookMerge x.book x.id x.own).1) false x.kept x.waits x.ops vr1 x.told x.last) rfl _) rfl ?_
 refine nx J3 ?_
 refine sr fun _ J6 => ?_
 refine mv ?_
 refine mv ?_
 refine mv ?_
 refine tp (PV.nilCheck rfl rfl) ?_
 refine tp (PV.fieldAddr (r := 9) rfl Tryz.underlying104 rfl sz48 rfl rfl) ?_
 refine tp (PV.loadN (vs := ints x.own.flat) rfl Tryz.underlying48 rfl sz48 rfl (Rd.own 0 rfl rfl) (RowT.len x.own) (RepT.sub_own (RepT.mk x.id x.log x.view x.own x.mirror x.acc x.round x.vote ((bookMerge x.book x.id x.own).1) false x.kept 0 x.ops vr1 x.told x.last) 0 rfl (by decide) (whole (RowT.len x.own)))) ?_
 refine TL.callR (A := [blkA r (RepT.cells (RepT.mk x.id x.log x.view x.own x.mirror x.acc x.round x.vote ((bookMerge x.book x.id x.own).1) false x.kept 0 x.ops vr1 x.told x.last)) 104, outP ob (l)]) (Want.plain rfl) rfl rfl rfl nm63 rfl (tellNews_does r ob (RepT.mk x.id x.log x.view x.own x.mirror x.acc x.round x.vote ((bookMerge x.book x.id x.own).1) false x.kept 0 x.ops vr1 x.told x.last) x.own (l) hl) (fun _ s => sep_selR [0, 1] rfl s) (fun _ _ _ => trivial) (fun vR HR hR => ?_)
 obtain rfl := hR
 change TL _ _ _ _ _ _ _ _ _ [blkA r (RepT.cells (RepT.mk x.id x.log x.view x.own x.mirror x.acc x.round x.vote ((bookMerge x.book x.id x.own).1) false x.kept 0 x.ops vr1 x.told x.last)) 104, outP ob (l ++ newsL (RepT.mk x.id x.log x.view x.own x.mirror x.acc x.round x.vote ((bookMerge x.book x.id x.own).1) false x.kept 0 x.ops vr1 x.told x.last).id x.own), own vr1 ((rs ++ [ReplyT.mk x.waits 0 0]).length) (ints (List.flatMap ReplyT.flat (rs ++ [ReplyT.mk x.waits 0 0]))) 92 3]
 refine nx J6 ?_
 refine TC.region ?_
 refine mv ?_
 refine mv ?_
 refine TL.callR (A := [blkA r (RepT.cells (RepT.mk x.id x.log x.view x.own x.mirror x.acc x.round x.vote ((bookMerge x.book x.id x.own).1) false x.kept 0 x.ops vr1 x.told x.last)) 104, outP ob (l ++ newsL (RepT.mk x.id x.log x.view x.own x.mirror x.acc x.round x.vote ((bookMerge x.book x.id x.own).1) false x.kept 0 x.ops vr1 x.told x.last).id x.own)]) (Want.plain rfl) rfl rfl rfl nm59 rfl (comeInto0_does r ob (RepT.mk x.id x.log x.view x.own x.mirror x.acc x.round x.vote ((bookMerge x.book x.id x.own).1) false x.kept 0 x.ops vr1 x.told x.last) (l ++ newsL (RepT.mk x.id x.log x.view x.own x.mirror x.acc x.round x.vote ((bookMerge x.book x.id x.own).1) false x.kept 0 x.ops vr1 x.told x.last).id x.own) hal) (fun _ s => s) (fun _ _ _ => trivial) (fun vR HR hR => ?_)
 obtain rfl := hR
 change TL _ _ _ _ _ _ _ _ _ [blkA r (RepT.cells (RepT.mk x.id x.log x.view x.own x.mirror x.acc x.round x.vote ((bookMerge x.book x.id x.own).1) false x.kept 0 x.ops vr1 x.told x.last)) 104, outP ob (l ++ newsL (RepT.mk x.id x.log x.view x.own x.mirror x.acc x.round x.vote ((bookMerge x.book x.id x.own).1) false x.kept 0 x.ops vr1 x.told x.last).id x.own), own vr1 ((rs ++ [ReplyT.mk x.waits 0 0]).length) (ints (List.flatMap ReplyT.flat (rs ++ [ReplyT.mk x.waits 0 0]))) 92 3]
 refine TL.nil ?_
 refine TE.weak (Sub.refl _) (fun _ s => sep_keep [0, 1, 0] rfl s) ?_
 refine TE.end0 rfl ?_
 exact ⟨_, hovr1, by rw [countR, if_pos h23, show countF x = { x with busy := false, book := (bookMerge x.book x.id x.own).1, waits := 0 } by rw [countF, if_pos h23]]; rfl⟩
 refine nx J4 ?_
 refine TC.no rfl ?_
 refine TC.skip ?_
 refine TE.next J3 ?_
 refine sr fun _ J7 => ?_
 refine mv ?_
 refine mv ?_
 refine mv ?_
 refine tp (PV.nilCheck rfl rfl) ?_
 refine tp (PV.fieldAddr (r := 9) rfl Tryz.underlying104 rfl sz48 rfl rfl) ?_
 refine tp (PV.loadN (vs := ints x.own.flat) rfl Tryz.underlying48 rfl sz48 rfl (Rd.own 0 rfl rfl) (RowT.len x.own) (RepT.sub_own (RepT.mk x.id x.log x.view x.own x.mirror x.acc x.round x.vote ((bookMerge x.book x.id x.own).1) false x.kept x.waits x.ops x.replies x.told x.last) 0 rfl (by decide) (whole (RowT.len x.own)))) ?_
 refine TL.callR (A := [blkA r (RepT.cells (RepT.mk x.id x.log x.view x.own x.mirror x.acc x.round x.vote ((bookMerge x.book x.id x.own).1) false x.kept x.waits x.ops x.replies x.told x.last)) 104, outP ob (l)]) (Want.plain rfl) rfl rfl rfl nm63 rfl (tellNews_does r ob (RepT.mk x.id x.log x.view x.own x.mirror x.acc x.round x.vote ((bookMerge x.book x.id x.own).1) false x.kept x.waits x.ops x.replies x.told x.last) x.own (l) hl) (fun _ s => sep_selR [0, 1] rfl s) (fun _ _ _ => trivial) (fun vR HR hR => ?_)
 obtain rfl := hR
 change TL _ _ _ _ _ _ _ _ _ [blkA r (RepT.cells (RepT.mk x.id x.log x.view x.own x.mirror x.acc x.round x.vote ((bookMerge x.book x.id x.own).1) false x.kept x.waits x.ops x.replies x.told x.last)) 104, outP ob (l ++ newsL (RepT.mk x.id x.log x.view x.own x.mirror x.acc x.round x.vote ((bookMerge x.book x.id x.own).1) false x.kept x.waits x.ops x.replies x.told x.last).id x.own), own x.replies ((rs).length) (ints (List.flatMap ReplyT.flat (rs))) 92 3]
 refine nx J7 ?_
 refine TC.region ?_
 refine mv ?_
 refine mv ?_
 refine TL.callR (A := [blkA r (RepT.cells (RepT.mk x.id x.log x.view x.own x.mirror x.acc x.round x.vote ((bookMerge x.book x.id x.own).1) false x.kept x.waits x.ops x.replies x.told x.last)) 104, outP ob (l ++ newsL (RepT.mk x.id x.log x.view x.own x.mirror x.acc x.round x.vote ((bookMerge x.book x.id x.own).1) false x.kept x.waits x.ops x.replies x.told x.last).id x.own)]) (Want.plain rfl) rfl rfl rfl nm59 rfl (comeInto0_does r ob (RepT.mk x.id x.log x.view x.own x.mirror x.acc x.round x.vote ((bookMerge x.book x.id x.own).1) false x.kept x.waits x.ops x.replies x.told x.last) (l ++ newsL (RepT.mk x.id x.log x.view x.own x.mirror x.acc x.round x.vote ((bookMerge x.book x.id x.own).1) false x.kept x.waits x.ops x.replies x.told x.last).id x.own) hal) (fun _ s => s) (fun _ _ _ => trivial) (fun vR HR hR => ?_)
 obtain rfl := hR
 change TL _ _ _ _ _ _ _ _ _ [blkA r (RepT.cells (RepT.mk x.id x.log x.view x.own x.mirror x.acc x.round x.vote ((bookMerge x.book x.id x.own).1) false x.kept x.waits x.ops x.replies x.told x.last)) 104, outP ob (l ++ newsL (RepT.mk x.id x.log x.view x.own x.mirror x.acc x.round x.vote ((bookMerge x.book x.id x.own).1) false x.kept x.waits x.ops x.replies x.told x.last).id x.own), own x.replies ((rs).length) (ints (List.flatMap ReplyT.flat (rs))) 92 3]
 refine TL.nil ?_
 refine TE.weak (Sub.refl _) (fun _ s => sep_keep [0, 1, 0] rfl s) ?_
 refine TE.end0 rfl ?_
 exact ⟨x.replies, hone, by rw [countR, if_neg h23, show countF x = { x with busy := false, book := (bookMerge x.book x.id x.own).1 } by rw [countF, if_neg h23]]; rfl⟩
 exact AllT.nil
 exact AllT.nil
 refine AllT.cons rfl ?_ ?_
 refine tp (PV.loadN (vs := ints x.own.flat) rfl Tryz.underlying48 rfl sz48 rfl (Rd.own 0 rfl rfl) (RowT.len x.own) (RepT.sub_own (RepT.mk x.id x.log x.view x.own x.mirror x.acc x.round x.vote x.book false x.kept x.waits x.ops x.replies x.told x.last) 0 rfl (by decide) (whole (RowT.len x.own)))) ?_
 refine TL.nil ?_
 refine TE.draw (fun _ s => ⟨Frm.of s, trivial⟩) ?_
 refine TD.all [6] (by kernel_rfl) rfl ?_
 refine AllT.cons rfl ?_ ?_
 refine tp (PV.load1 (v := (.int .i64 (x.id))) rfl Tryz.underlying3 rfl rfl (Rd.own 0 rfl rfl) (RepT.at_id (RepT.mk x.id x.log x.view x.own x.mirror x.acc x.round x.vote x.book false x.kept x.waits x.ops x.replies x.told x.last) rfl)) ?_
 refine TL.nil ?_
 refine TE.draw (fun _ s => ⟨Frm.of s, trivial⟩) ?_
 refine TD.all [11] (by kernel_rfl) rfl ?_
 refine AllT.cons rfl ?_ ?_
 refine TL.callR (A := [blkA r (RepT.cells (RepT.mk x.id x.log x.view x.own x.mirror x.acc x.round x.vote x.book false x.kept x.waits x.ops x.replies x.told x.last)) 104]) (Want.plain rfl) rfl rfl rfl nm20 rfl (bookMerge_does r 1068 104 (fun u => RepT.cells { (RepT.mk x.id x.log x.view x.own x.mirror x.acc x.round x.vote x.book false x.kept x.waits x.ops x.replies x.told x.last) with book := u }) (RepT.arnd_book (RepT.mk x.id x.log x.view x.own x.mirror x.acc x.round x.vote x.book false x.kept x.waits x.ops x.replies x.told x.last)) x.book x.id x.own hwo) (fun _ s => s) (fun _ _ _ => trivial) (fun vR HR hR => ?_)
 obtain ⟨rfl, rfl⟩ := hR
 change TL _ _ _ _ _ _ _ _ _ [blkA r (RepT.cells (RepT.mk x.id x.log x.view x.own x.mirror x.acc x.round x.vote ((bookMerge x.book x.id x.own).1) false x.kept x.waits x.ops x.replies x.told x.last)) 104, own x.replies ((rs).length) (ints (List.flatMap ReplyT.flat (rs))) 92 3, outP ob (l)]
 refine TL.nil ?_
 refine TE.draw (fun _ s => ⟨Frm.of s, trivial⟩) ?_
 refine TD.done (by kernel_rfl) ?_
 refine TE.next J2 ?_
 refine TC.seq fun _ J8 => ?_
 refine sr fun _ J9 => ?_
 refine mv ?_
 refine tp (PV.nilCheck rfl rfl) ?_
 refine tp (PV.fieldAddr (r := 1940) rfl Tryz.underlying104 rfl sz3 rfl rfl) ?_
 refine tp (PV.load1 (v := (.int .i64 (x.waits))) rfl Tryz.underlying3 rfl rfl (Rd.own 0 rfl rfl) (RepT.at_waits (RepT.mk x.id x.log x.view x.own x.mirror x.acc x.round x.vote ((bookMerge x.book x.id x.own).1) false x.kept x.waits x.ops x.replies x.told x.last) rfl)) ?_
 refine tp (PV.gtr rfl rfl rfl) ?_
 refine TL.dec (fun h23 => ?_) (fun h23 => ?_)
 refine nx J9 ?_
 refine TC.yes rfl ?_
 refine sr fun _ J10 => ?_
 refine mv ?_
 refine mv ?_
 refine tp (PV.nilCheck rfl rfl) ?_
 refine tp (PV.fieldAddr (r := 1940) rfl Tryz.underlying104 rfl sz3 rfl rfl) ?_
 refine tp (PV.load1 (v := (.int .i64 (x.waits))) rfl Tryz.underlying3 rfl rfl (Rd.own 0 rfl rfl) (RepT.at_waits (RepT.mk x.id x.log x.view x.own x.mirror x.acc x.round x.vote ((bookMerge x.book x.id x.own).1) false x.kept x.waits x.ops x.replies x.told x.last) rfl)) ?_
 refine TL.callR (A := [blkA r (RepT.cells (RepT.mk x.id x.log x.view x.own x.mirror x.acc x.round x.vote ((bookMerge x.book x.id x.own).1) false x.kept x.waits x.ops x.replies x.told x.last)) 104, own x.replies ((rs).length) (ints (List.flatMap ReplyT.flat (rs))) 92 3]) (Want.plain rfl) rfl rfl rfl nm41 rfl (reply_does r (RepT.mk x.id x.log x.view x.own x.mirror x.acc x.round x.vote ((bookMerge x.book x.id x.own).1) false x.kept x.waits x.ops x.replies x.told x.last) x.waits 0 0 (rs) hrs) (fun _ s => s) (fun _ _ _ => trivial) (fun vR HR hR => ?_)
 obtain ⟨vr1, hovr1, rfl⟩ := hR
 change TL _ _ _ _ _ _ _ _ _ [blkA r (RepT.cells (RepT.mk x.id x.log x.view x.own x.mirror x.acc x.round x.vote ((bookMerge x.book x.id x.own).1) false x.kept x.waits x.ops vr1 x.told x.last)) 104, own vr1 ((rs ++ [ReplyT.mk x.waits 0 0]).length) (ints (List.flatMap ReplyT.flat (rs ++ [ReplyT.mk x.waits 0 0]))) 92 3, outP ob (l)]
 refine nx J10 ?_
 refine TC.region ?_
 refine mv ?_
 refine tp (PV.nilCheck rfl rfl) ?_
 refine tp (PV.fieldAddr (r := 1940) rfl Tryz.underlying104 rfl sz3 rfl rfl) ?_
 refine TL.store1 (i := 0) (H' := [blkA r (RepT.cells (RepT.mk x.id x.log x.view x.own x.mirror x.acc x.round x.vote ((bookMerge x.book x.id x.own).1) false x.kept 0 x.ops vr1 x.told x.last)) 104, own vr1 ((rs ++ [ReplyT.mk x.waits 0 0]).length) (ints (List.flatMap ReplyT.flat (rs ++ [ReplyT.mk x.waits 0 0]))) 92 3, outP ob (l)]) (Want.plain rfl) rfl rfl rfl rfl rfl sz3 rfl rfl (by have h0 := (RepT.len (RepT.mk x.id x.log x.view x.own x.mirror x.acc x.round x.vote ((bookMerge x.book x.id x.own).1) false x.kept x.waits x.ops vr1 x.told x.last)); omega) (RepT.set_waits (RepT.mk x.id x.log x.view x.own x.mirror x.acc x.round x.vote ((bookMerge x.book x.id x.own).1) false x.kept x.waits x.ops vr1 x.told x.last) rfl _) rfl ?_
 refine nx J8 ?_
 refine sr fun _ J11 => ?_
 refine mv ?_
 refine mv ?_
 refine mv ?_
 refine tp (PV.nilCheck rfl rfl) ?_
 refine tp (PV.fieldAddr (r := 9) rfl Tryz.underlying104 rfl sz48 rfl rfl) ?_
 refine tp (PV.loadN (vs := ints x.own.flat) rfl Tryz.underlying48 rfl sz48 rfl (Rd.own 0 rfl rfl) (RowT.len x.own) (RepT.sub_own (RepT.mk x.id x.log x.view x.own x.mirror x.acc x.round x.vote ((bookMerge x.book x.id x.own).1) false x.kept 0 x.ops vr1 x.told x.last) 0 rfl (by decide) (whole (RowT.len x.own)))) ?_
 refine TL.callR (A := [blkA r (RepT.cells (RepT.mk x.id x.log x.view x.own x.mirror x.acc x.round x.vote ((bookMerge x.book x.id x.own).1) false x.kept 0 x.ops vr1 x.told x.last)) 104, outP ob (l)]) (Want.plain rfl) rfl rfl rfl nm63 rfl (tellNews_does r ob (RepT.mk x.id x.log x.view x.own x.mirror x.acc x.round x.vote ((bookMerge x.book x.id x.own).1) false x.kept 0 x.ops vr1 x.told x.last) x.own (l) hl) (fun _ s => sep_selR [0, 1] rfl s) (fun _ _ _ => trivial) (fun vR HR hR => ?_)
 obtain rfl := hR
 change TL _ _ _ _ _ _ _ _ _ [blkA r (RepT.cells (RepT.mk x.id x.log x.view x.own x.mirror x.acc x.round x.vote ((bookMerge x.book x.id x.own).1) false x.kept 0 x.ops vr1 x.told x.last)) 104, outP ob (l ++ newsL (RepT.mk x.id x.log x.view x.own x.mirror x.acc x.round x.vote ((bookMerge x.book x.id x.own).1) false x.kept 0 x.ops vr1 x.told x.last).id x.own), own vr1 ((rs ++ [ReplyT.mk x.waits 0 0]).length) (ints (List.flatMap ReplyT.flat (rs ++ [ReplyT.mk x.waits 0 0]))) 92 3]
 refine nx J11 ?_
 refine TC.region ?_
 refine mv ?_
 refine mv ?_
 refine TL.callR (A := [blkA r (RepT.cells (RepT.mk x.id x.log x.view x.own x.mirror x.acc x.round x.vote ((bookMerge x.book x.id x.own).1) false x.kept 0 x.ops vr1 x.told x.last)) 104, outP ob (l ++ newsL (RepT.mk x.id x.log x.view x.own x.mirror x.acc x.round x.vote ((bookMerge x.book x.id x.own).1) false x.kept 0 x.ops vr1 x.told x.last).id x.own)]) (Want.plain rfl) rfl rfl rfl nm59 rfl (comeInto0_does r ob (RepT.mk x.id x.log x.view x.own x.mirror x.acc x.round x.vote ((bookMerge x.book x.id x.own).1) false x.kept 0 x.ops vr1 x.told x.last) (l ++ newsL (RepT.mk x.id x.log x.view x.own x.mirror x.acc x.round x.vote ((bookMerge x.book x.id x.own).1) false x.kept 0 x.ops vr1 x.told x.last).id x.own) hal) (fun _ s => s) (fun _ _ _ => trivial) (fun vR HR hR => ?_)
 obtain rfl := hR
 change TL _ _ _ _ _ _ _ _ _ [blkA r (RepT.cells (RepT.mk x.id x.log x.view x.own x.mirror x.acc x.round x.vote ((bookMerge x.book x.id x.own).1) false x.kept 0 x.ops vr1 x.told x.last)) 104, outP ob (l ++ newsL (RepT.mk x.id x.log x.view x.own x.mirror x.acc x.round x.vote ((bookMerge x.book x.id x.own).1) false x.kept 0 x.ops vr1 x.told x.last).id x.own), own vr1 ((rs ++ [ReplyT.mk x.waits 0 0]).length) (ints (List.flatMap ReplyT.flat (rs ++ [ReplyT.mk x.waits 0 0]))) 92 3]
 refine TL.nil ?_
 refine TE.weak (Sub.refl _) (fun _ s => sep_keep [0, 1, 0] rfl s) ?_
 refine TE.end0 rfl ?_
 exact ⟨_, hovr1, by rw [countR, if_pos h23, show countF x = { x with busy := false, book := (bookMerge x.book x.id x.own).1, waits := 0 } by rw [countF, if_pos h23]]; rfl⟩
 refine nx J9 ?_
 refine TC.no rfl ?_
 refine TC.skip ?_
 refine TE.next J8 ?_
 refine sr fun _ J12 => ?_
 refine mv ?_
 refine mv ?_
 refine mv ?_
 refine tp (PV.nilCheck rfl rfl) ?_
 refine tp (PV.fieldAddr (r := 9) rfl Tryz.underlying104 rfl sz48 rfl rfl) ?_
 refine tp (PV.loadN (vs := ints x.own.flat) rfl Tryz.underlying48 rfl sz48 rfl (Rd.own 0 rfl rfl) (RowT.len x.own) (RepT.sub_own (RepT.mk x.id x.log x.view x.own x.mirror x.acc x.round x.vote ((bookMerge x.book x.id x.own).1) false x.kept x.waits x.ops x.replies x.told x.last) 0 rfl (by decide) (whole (RowT.len x.own)))) ?_
 refine TL.callR (A := [blkA r (RepT.cells (RepT.mk x.id x.log x.view x.own x.mirror x.acc x.round x.vote ((bookMerge x.book x.id x.own).1) false x.kept x.waits x.ops x.replies x.told x.last)) 104, outP ob (l)]) (Want.plain rfl) rfl rfl rfl nm63 rfl (tellNews_does r ob (RepT.mk x.id x.log x.view x.own x.mirror x.acc x.round x.vote ((bookMerge x.book x.id x.own).1) false x.kept x.waits x.ops x.replies x.told x.last) x.own (l) hl) (fun _ s => sep_selR [0, 1] rfl s) (fun _ _ _ => trivial) (fun vR HR hR => ?_)
 obtain rfl := hR
 change TL _ _ _ _ _ _ _ _ _ [blkA r (RepT.cells (RepT.mk x.id x.log x.view x.own x.mirror x.acc x.round x.vote ((bookMerge x.book x.id x.own).1) false x.kept x.waits x.ops x.replies x.told x.last)) 104, outP ob (l ++ newsL (RepT.mk x.id x.log x.view x.own x.mirror x.acc x.round x.vote ((bookMerge x.book x.id x.own).1) false x.kept x.waits x.ops x.replies x.told x.last).id x.own), own x.replies ((rs).length) (ints (List.flatMap ReplyT.flat (rs))) 92 3]
 refine nx J12 ?_
 refine TC.region ?_
 refine mv ?_
 refine mv ?_
 refine TL.callR (A := [blkA r (RepT.cells (RepT.mk x.id x.log x.view x.own x.mirror x.acc x.round x.vote ((bookMerge x.book x.id x.own).1) false x.kept x.waits x.ops x.replies x.told x.last)) 104, outP ob (l ++ newsL (RepT.mk x.id x.log x.view x.own x.mirror x.acc x.round x.vote ((bookMerge x.book x.id x.own).1) false x.kept x.waits x.ops x.replies x.told x.last).id x.own)]) (Want.plain rfl) rfl rfl rfl nm59 rfl (comeInto0_does r ob (RepT.mk x.id x.log x.view x.own x.mirror x.acc x.round x.vote ((bookMerge x.book x.id x.own).1) false x.kept x.waits x.ops x.replies x.told x.last) (l ++ newsL (RepT.mk x.id x.log x.view x.own x.mirror x.acc x.round x.vote ((bookMerge x.book x.id x.own).1) false x.kept x.waits x.ops x.replies x.told x.last).id x.own) hal) (fun _ s => s) (fun _ _ _ => trivial) (fun vR HR hR => ?_)
 obtain rfl := hR
 change TL _ _ _ _ _ _ _ _ _ [blkA r (RepT.cells (RepT.mk x.id x.log x.view x.own x.mirror x.acc x.round x.vote ((bookMerge x.book x.id x.own).1) false x.kept x.waits x.ops x.replies x.told x.last)) 104, outP ob (l ++ newsL (RepT.mk x.id x.log x.view x.own x.mirror x.acc x.round x.vote ((bookMerge x.book x.id x.own).1) false x.kept x.waits x.ops x.replies x.told x.last).id x.own), own x.replies ((rs).length) (ints (List.flatMap ReplyT.flat (rs))) 92 3]
 refine TL.nil ?_
 refine TE.weak (Sub.refl _) (fun _ s => sep_keep [0, 1, 0] rfl s) ?_
 refine TE.end0 rfl ?_
 exact ⟨x.replies, hone, by rw [countR, if_neg h23, show countF x = { x with busy := false, book := (bookMerge x.book x.id x.own).1 } by rw [countF, if_neg h23]]; rfl⟩
 exact AllT.nil
 exact AllT.nil
 exact AllT.nil
theorem takeKept_does (r ob : Nat) (x : RepT) (from' : Int) (m : MsgT) (rs : List ReplyT) (l : List SaidT) (hid : machB x.id = true) (hwo : WF x.own.flat) (hal : Alone x) (hl : l.length ≤ 900000) (hrs : rs.length ≤ 1000000) :
    Does Tryz.prog 44 #[(.pointer (some ⟨r, 0, none⟩)), (.iface 34 (.pointer (some ⟨ob, 0, none⟩))), (.int .i64 (from')), (.agg (ints m.flat).toArray)] (fun _ => True) [blkA r (RepT.cells x) 104, own x.replies ((rs).length) (ints (List.flatMap ReplyT.flat (rs))) 92 3, outP ob (l)] (Ret (fun _ H => ∃ v', v'.oneCell' = true ∧ H = [blkA r (RepT.cells { keptS x from' m.version with replies := v' }) 104, own v' (keptR x from' m.version rs).length (ints (List.flatMap ReplyT.flat (keptR x from' m.version rs))) 92 3, outP ob (l ++ keptO x from' m.version)])) := by
 refine Does.body (vs := [(.pointer (some ⟨r, 0, none⟩)), (.iface 34 (.pointer (some ⟨ob, 0, none⟩))), (.int .i64 (from')), (.agg (ints m.flat).toArray)]) (n := 64) Tryz.func44 rfl rfl rfl (fun w0 F hF => ?_)
 have hid2 : 0 ≤ x.id ∧ x.id < 5 := of_decide_eq_true hid
 refine sr fun _ J1 => ?_
 refine TL.ownLen 1 rfl rfl (fun _ hone => ?_)
 refine TL.box (Want.plain rfl) rfl rfl rfl rfl (fun b7 => ?_)
 change TL _ _ _ _ _ _ _ _ _ [blkA b7 (ints m.flat) 54, blkA r (RepT.cells x) 104, own x.replies ((rs).length) (ints (List.flatMap ReplyT.flat (rs))) 92 3, outP ob (l)]
 refine nx J1 ?_
 refine sr fun _ J2 => ?_
 refine mv ?_
 refine tp (PV.nilCheck rfl rfl) ?_
 refine tp (PV.fieldAddr (r := 0) rfl Tryz.underlying104 rfl sz3 rfl rfl) ?_
 refine tp (PV.load1 (v := (.int .i64 (x.id))) rfl Tryz.underlying3 rfl rfl (Rd.own 1 rfl rfl) (RepT.at_id x rfl)) ?_
 refine TL.callR (A := []) (Want.plain rfl) rfl rfl rfl nm49 rfl (wit2_does x.id hid) (fun _ s => s) (fun _ _ _ => trivial) (fun vR HR hR => ?_)
 obtain ⟨_, rfl, rfl⟩ := hR
 revert vR
 intro uw
 change TL _ _ _ _ _ _ _ _ _ [own uw (2) ([.int .i64 ((x.id + 1) % 5), .int .i64 ((x.id + 2) % 5)]) 3 1, blkA b7 (ints m.flat) 54, blkA r (RepT.cells x) 104, own x.replies ((rs).length) (ints (List.flatMap ReplyT.flat (rs))) 92 3, outP ob (l)]
 refine TL.ownLen 0 rfl rfl (fun hluw _ => ?_)
 refine TL.ownAt 0 rfl rfl (by omega) (fun gw capw hvw hcapw => ?_)
 refine sg' ?_
 refine nx J2 ?_
 refine TC.seq fun _ J3 => ?_
 refine TC.seq fun _ J4 => ?_
 refine TC.draw (fun w => Frm F w ∧ w.heap[r]? = some (.cells (RepT.cells x).toArray 104 (0, 0)) ∧ w.heap[b7]? = some (.cells (ints m.flat).toArray 54 (0, 0)) ∧ True) mixed rfl (fun _ s => ⟨Frm.of s, s.block 2 (lb rfl) rfl, s.block 1 (lb rfl) rfl, trivial⟩) ?_
 refine ta 0 rfl (PV.move rfl rfl) ?_
 refine ta 1 rfl (PV.nilCheck rfl rfl) ?_
 refine ta 2 rfl (PV.fieldAddr (r := 1938) rfl Tryz.underlying104 rfl sz4 rfl rfl) ?_
 refine ta 3 rfl (PV.load1 (v := (.bool (x.busy))) rfl Tryz.underlying4 rfl rfl (fun _ h => h.2.1) (RepT.at_busy x rfl)) ?_
 refine TD.decB (fun h19 => ?_) (fun h19 => ?_)
 refine ta 4 rfl (PV.not (r := false) rfl rfl rfl) ?_
 refine ta 5 rfl (PV.move rfl rfl) ?_
 refine tb 6 rfl (PV.fieldAddr (r := 176) rfl Tryz.underlying54 rfl sz3 rfl rfl) ?_
 refine tb 7 rfl (PV.load1 (v := (.int .i64 (m.version))) rfl Tryz.underlying3 rfl rfl (fun _ h => h.2.2.1) (MsgT.at_version m rfl)) ?_
 refine tb 8 rfl (PV.move rfl rfl) ?_
 refine tb 9 rfl (PV.nilCheck rfl rfl) ?_
 refine tb 10 rfl (PV.fieldAddr (r := 9) rfl Tryz.underlying104 rfl sz48 rfl rfl) ?_
 refine tb 11 rfl (PV.fieldAddr (r := 9) rfl Tryz.underlying48 rfl sz3 rfl rfl) ?_
 refine tb 12 rfl (PV.load1 (v := (.int .i64 (x.own.version))) rfl Tryz.underlying3 rfl rfl (fun _ h => h.2.1) (RepT.pt_own x 0 rfl (by decide) (RowT.at_version x.own rfl))) ?_
 refine tb 13 rfl (PV.neq rfl rfl rfl) ?_
 refine TD.dec (fun h29 => ?_) (fun h29 => ?_)
 refine ta 14 rfl (PV.pick rfl rfl rfl) ?_
 refine ta 15 rfl (PV.move rfl rfl) ?_
 refine TD.takeNot (i := 16) (b := true) rfl (by kernel_rfl) (by kernel_rfl) (by kernel_rfl) (fun _ _ _ _ h => h) rfl rfl rfl rfl rfl ?_
 refine TD.takeNot (i := 17) (b := true) rfl (by kernel_rfl) (by kernel_rfl) (by kernel_rfl) (fun _ _ _ _ h => h) rfl rfl rfl rfl rfl ?_
 refine TD.takeNot (i := 18) (b := true) rfl (by kernel_rfl) (by kernel_rfl) (by kernel_rfl) (fun _ _ _ _ h => h) rfl rfl rfl rfl rfl ?_
 refine TD.takeNot (i := 19) (b := true) rfl (by kernel_rfl) (by kernel_rfl) (by kernel_rfl) (fun _ _ _ _ h => h) rfl rfl rfl rfl rfl ?_
 refine ta 20 rfl (PV.pick rfl rfl rfl) ?_
 refine TD.done (by kernel_rfl) ?_
 refine TE.next J4 ?_
 refine TC.yes rfl ?_
 refine TC.ret ?_
 refine TE.passRet ?_
 refine TE.weak (Sub.refl _) (fun _ s => sep_keep [2, 2, 2] rfl s) ?_
 refine TE.ret0 rfl ?_
 have ew : witL x.id = [(x.id + 1) % 5, (x.id + 2) % 5] := by rw [witL, if_pos hid]
 have e : keptB x from' m.version = false := by rw [keptB, ew, decide_eq_false h29]; simp
 exact ⟨x.replies, hone, by rw [show keptS x from' m.version = x by rw [keptS, e]; rfl, show keptR x from' m.version rs = rs by rw [keptR, e]; rfl, show keptO x from' m.version = [] by rw [keptO, e]; rfl, List.append_nil]; rfl⟩
 refine ta 14 rfl (PV.pick rfl rfl rfl) ?_
 refine ta 15 rfl (PV.move rfl rfl) ?_
 refine tb 16 rfl (PV.move rfl rfl) ?_
 refine tb 17 rfl (PV.move rfl rfl) ?_
 refine TD.all [18] (by kernel_rfl) rfl ?_
 refine AllT.cons rfl ?_ ?_
 refine TL.callR (A := []) (Want.met rfl rfl rfl) rfl rfl rfl nm80 rfl (contains_does uw [(x.id + 1) % 5, (x.id + 2) % 5] from' (by decide : 2 ≤ 1000000)) (fun _ s => s) (isI_own (l := [(x.id + 1) % 5, (x.id + 2) % 5]) 0 rfl rfl) (fun vR HR hR => ?_)
 obtain ⟨rfl, rfl⟩ := hR
 change TL _ _ _ _ _ _ _ _ _ [own uw (2) ([.int .i64 ((x.id + 1) % 5), .int .i64 ((x.id + 2) % 5)]) 3 1, blkA b7 (ints m.flat) 54, blkA r (RepT.cells x) 104, own x.replies ((rs).length) (ints (List.flatMap ReplyT.flat (rs))) 92 3, outP ob (l)]
 refine TL.dec (fun h34 => ?_) (fun h34 => ?_)
 have hmem := h34
 simp only [List.mem_cons, List.not_mem_nil, or_false] at hmem
 have hfr : 0 ≤ from' ∧ from' < 5 := by omega
 refine TL.nil ?_
 refine TE.draw (fun _ s => ⟨Frm.of s, s.block 2 (lb rfl) rfl, s.block 1 (lb rfl) rfl, trivial⟩) ?_
 refine tb 19 rfl (PV.not (r := false) rfl rfl rfl) ?_
 refine ta 20 rfl (PV.pick rfl rfl rfl) ?_
 refine TD.done (by kernel_rfl) ?_
 refine TE.next J4 ?_
 refine TC.no rfl ?_
 refine TC.skip ?_
 refine TE.next J3 ?_
 refine TC.seq fun _ J5 => ?_
 refine TC.draw (fun w => Frm F w ∧ True) mixed rfl (fun _ s => ⟨Frm.of s, trivial⟩) ?_
 refine ta 0 rfl (PV.move rfl rfl) ?_
 refine ta 1 rfl (PV.nilCheck rfl rfl) ?_
 refine ta 2 rfl (PV.fieldAddr (r := 1939) rfl Tryz.underlying104 rfl sz3 rfl rfl) ?_
 refine ta 4 rfl (PV.move rfl rfl) ?_
 refine ta 5 rfl (PV.shl (r := (IntKind.i64.wrap (1 * 2 ^ min from'.toNat IntKind.i64.bits))) rfl rfl rfl (by omega) rfl) ?_
 refine TD.all [3] (by kernel_rfl) rfl ?_
 refine AllT.cons rfl ?_ ?_
 refine tp (PV.load1 (v := (.int .i64 (x.kept))) rfl Tryz.underlying3 rfl rfl (Rd.own 2 rfl rfl) (RepT.at_kept x rfl)) ?_
 refine TL.nil ?_
 refine TE.draw (fun _ s => ⟨Frm.of s, trivial⟩) ?_
 refine ta 6 rfl (PV.or (r := (orI .i64 x.kept (IntKind.i64.wrap (1 * 2 ^ min from'.toNat IntKind.i64.bits)))) rfl rfl rfl rfl) ?_
 refine ta 7 rfl (PV.nilCheck rfl rfl) ?_
 refine ta 8 rfl (PV.fieldAddr (r := 1939) rfl Tryz.underlying104 rfl sz3 rfl rfl) ?_
 refine TD.all [9] (by kernel_rfl) rfl ?_
 refine AllT.cons rfl ?_ ?_
 refine TL.store1 (i := 2) (H' := [own uw (2) ([.int .i64 ((x.id + 1) % 5), .int .i64 ((x.id + 2) % 5)]) 3 1, blkA b7 (ints m.flat) 54, blkA r (RepT.cells (RepT.mk x.id x.log x.view x.own x.mirror x.acc x.round x.vote x.book x.busy (orI .i64 x.kept (IntKind.i64.wrap (1 * 2 ^ min from'.toNat IntKind.i64.bits))) x.waits x.ops x.replies x.told x.last)) 104, own x.replies ((rs).length) (ints (List.flatMap ReplyT.flat (rs))) 92 3, outP ob (l)]) (Want.plain rfl) rfl rfl rfl rfl rfl sz3 rfl rfl (by have h0 := (RepT.len x); omega) (RepT.set_kept x rfl _) rfl ?_
 refine TL.nil ?_
 refine TE.draw (fun _ s => ⟨Frm.of s, trivial⟩) ?_
 refine TD.done (by kernel_rfl) ?_
 refine TE.next J5 ?_
 refine TC.seq fun _ J6 => ?_
 refine sr fun _ J7 => ?_
 refine mv ?_
 refine tp (PV.lenV rfl Tryz.underlying74 rfl hluw) ?_
 refine mv ?_
 refine nx J7 ?_
 refine TC.block ?_
 refine TC.unroll 2 ?_
 refine sr fun _ J8 => ?_
 refine tp (PV.lss rfl rfl rfl) ?_
 refine nx J8 ?_
 refine TC.seq fun _ J9 => ?_
 refine TC.yes rfl ?_
 refine TC.skip ?_
 refine TE.next J9 ?_
 refine TC.seq fun _ J10 => ?_
 refine TC.block ?_
 refine sr fun _ J11 => ?_
 refine tp (PV.indexSlV (r := 0) hvw rfl Tryz.underlying74 sz3 rfl rfl (by omega) (by omega) rfl) ?_
 refine tp (PV.load1X (v := (.int .i64 (((x.id + 1) % 5)))) rfl Tryz.underlying3 rfl rfl (RdX.own 0 rfl hvw rfl) rfl) ?_
 refine sg' ?_
 refine nx J11 ?_
 refine sr fun _ J12 => ?_
 refine mv ?_
 refine tp (PV.nilCheck rfl rfl) ?_
 refine tp (PV.fieldAddr (r := 1939) rfl Tryz.underlying104 rfl sz3 rfl rfl) ?_
 refine tp (PV.load1 (v := (.int .i64 ((orI .i64 x.kept (IntKind.i64.wrap (1 * 2 ^ min from'.toNat IntKind.i64.bits)))))) rfl Tryz.underlying3 rfl rfl (Rd.own 2 rfl rfl) (RepT.at_kept (RepT.mk x.id x.log x.view x.own x.mirror x.acc x.round x.vote x.book x.busy (orI .i64 x.kept (IntKind.i64.wrap (1 * 2 ^ min from'.toNat IntKind.i64.bits))) x.waits x.ops x.replies x.told x.last) rfl)) ?_
 refine mv ?_
 refine tp (PV.shr (r := ((orI .i64 x.kept (IntKind.i64.wrap (1 * 2 ^ min from'.toNat IntKind.i64.bits))).fdiv (2 ^ min (((x.id + 1) % 5)).toNat IntKind.i64.bits))) rfl rfl rfl (by omega) rfl) ?_
 refine tp (PV.and (r := (((orI .i64 x.kept (IntKind.i64.wrap (1 * 2 ^ min from'.toNat IntKind.i64.bits))).fdiv (2 ^ min (((x.id + 1) % 5)).toNat IntKind.i64.bits)) % 2)) rfl rfl rfl (mask (k := 1) (by decide) _)) ?_
 refine tp (PV.eql rfl rfl rfl) ?_
 refine TL.dec (fun h59 => ?_) (fun h59 => ?_)
 refine nx J12 ?_
 refine TC.yes rfl ?_
 refine TC.ret ?_
 refine TE.blockRet ?_
 refine TE.passRet ?_
 refine TE.passRet ?_
 refine TE.blockRet ?_
 refine TE.passRet ?_
 refine TE.weak (Sub.refl _) (fun _ s => sep_keep [2, 2, 2] rfl s) ?_
 refine TE.ret0 rfl ?_
 have ew : witL x.id = [(x.id + 1) % 5, (x.id + 2) % 5] := by rw [witL, if_pos hid]
 have e : keptB x from' m.version = true := by rw [keptB, h19, ew, decide_eq_true (show m.version = x.own.version by omega), decide_eq_true h34]; rfl
 have e2 : fullB (keptX x from') = false := by rw [fullB, show witL (keptX x from').id = [(x.id + 1) % 5, (x.id + 2) % 5] from ew]; simp only [List.all_cons, List.all_nil, bit0, keptX, *, decide_true, decide_false, Bool.not_true, Bool.not_false, Bool.and_true, Bool.true_and, Bool.false_and, Bool.and_false]
 exact ⟨x.replies, hone, by rw [show keptS x from' m.version = keptX x from' by rw [keptS, e, if_pos rfl, e2]; rfl, show keptR x from' m.version rs = rs by rw [keptR, e, e2]; rfl, show keptO x from' m.version = [] by rw [keptO, e, e2]; rfl, List.append_nil]; rfl⟩
 refine nx J12 ?_
 refine TC.no rfl ?_
 refine TC.skip ?_
 refine TE.blockEnd ?_
 refine TE.next J10 ?_
 refine TC.region ?_
 refine tp (PV.add (r := 1) rfl rfl rfl (by decide)) ?_
 refine mv ?_
 refine TL.nil ?_
 refine TE.again ?_
 refine sr fun _ J13 => ?_
 refine tp (PV.lss rfl rfl rfl) ?_
 refine nx J13 ?_
 refine TC.seq fun _ J14 => ?_
 refine TC.yes rfl ?_
 refine TC.skip ?_
 refine TE.next J14 ?_
 refine TC.seq fun _ J15 => ?_
 refine TC.block ?_
 refine sr fun _ J16 => ?_
 refine tp (PV.indexSlV (r := 1) hvw rfl Tryz.underlying74 sz3 rfl rfl (by omega) (by omega) rfl) ?_
 refine tp (PV.load1X (v := (.int .i64 (((x.id + 2) % 5)))) rfl Tryz.underlying3 rfl rfl (RdX.own 0 rfl hvw rfl) rfl) ?_
 refine sg' ?_
 refine nx J16 ?_
 refine sr fun _ J17 => ?_
 refine mv ?_
 refine tp (PV.nilCheck rfl rfl) ?_
 refine tp (PV.fieldAddr (r := 1939) rfl Tryz.underlying104 rfl sz3 rfl rfl) ?_
 refine tp (PV.load1 (v := (.int .i64 ((orI .i64 x.kept (IntKind.i64.wrap (1 * 2 ^ min from'.toNat IntKind.i64.bits)))))) rfl Tryz.underlying3 rfl rfl (Rd.own 2 rfl rfl) (RepT.at_kept (RepT.mk x.id x.log x.view x.own x.mirror x.acc x.round x.vote x.book x.busy (orI .i64 x.kept (IntKind.i64.wrap (1 * 2 ^ min from'.toNat IntKind.i64.bits))) x.waits x.ops x.replies x.told x.last) rfl)) ?_
 refine mv ?_
 refine tp (PV.shr (r := ((orI .i64 x.kept (IntKind.i64.wrap (1 * 2 ^ min from'.toNat IntKind.i64.bits))).fdiv (2 ^ min (((x.id + 2) % 5)).toNat IntKind.i64.bits))) rfl rfl rfl (by omega) rfl) ?_
 refine tp (PV.and (r := (((orI .i64 x.kept (IntKind.i64.wrap (1 * 2 ^ min from'.toNat IntKind.i64.bits))).fdiv (2 ^ min (((x.id + 2) % 5)).toNat IntKind.i64.bits)) % 2)) rfl rfl rfl (mask (k := 1) (by decide) _)) ?_
 refine tp (PV.eql rfl rfl rfl) ?_
 refine TL.dec (fun h59 => ?_) (fun h59 => ?_)
 refine nx J17 ?_
 refine TC.yes rfl ?_
 refine TC.ret ?_
 refine TE.blockRet ?_
 refine TE.passRet ?_
 refine TE.passRet ?_
 refine TE.blockRet ?_
 refine TE.passRet ?_
 refine TE.weak (Sub.refl _) (fun _ s => sep_keep [2, 2, 2] rfl s) ?_
 refine TE.ret0 rfl ?_
 have ew : witL x.id = [(x.id + 1) % 5, (x.id + 2) % 5] := by rw [witL, if_pos hid]
 have e : keptB x from' m.version = true := by rw [keptB, h19, ew, decide_eq_true (show m.version = x.own.version by omega), decide_eq_true h34]; rfl
 have e2 : fullB (keptX x from') = false := by rw [fullB, show witL (keptX x from').id = [(x.id + 1) % 5, (x.id + 2) % 5] from ew]; simp only [List.all_cons, List.all_nil, bit0, keptX, *, decide_true, decide_false, Bool.not_true, Bool.not_false, Bool.and_true, Bool.true_and, Bool.false_and, Bool.and_false]
 exact ⟨x.replies, hone, by rw [show keptS x from' m.version = keptX x from' by rw [keptS, e, if_pos rfl, e2]; rfl, show keptR x from' m.version rs = rs by rw [keptR, e, e2]; rfl, show keptO x from' m.version = [] by rw [keptO, e, e2]; rfl, List.append_nil]; rfl⟩
 refine nx J17 ?_
 refine TC.no rfl ?_
 refine TC.skip ?_
 refine TE.blockEnd ?_
 refine TE.next J15 ?_
 refine TC.region ?_
 refine tp (PV.add (r := 2) rfl rfl rfl (by decide)) ?_
 refine mv ?_
 refine TL.nil ?_
 refine TE.again ?_
 refine sr fun _ J18 => ?_
 refine tp (PV.lss rfl rfl rfl) ?_
 refine nx J18 ?_
 refine TC.seq fun _ J19 => ?_
 refine TC.no rfl ?_
 refine TC.exit ?_
 refine TE.pass ?_
 refine TE.pass ?_
 refine TE.hit ?_
 refine TE.next J6 ?_
 refine TC.region ?_
 refine mv ?_
 refine mv ?_
 refine TL.callR (A := [blkA r (RepT.cells (RepT.mk x.id x.log x.view x.own x.mirror x.acc x.round x.vote x.book x.busy (orI .i64 x.kept (IntKind.i64.wrap (1 * 2 ^ min from'.toNat IntKind.i64.bits))) x.waits x.ops x.replies x.told x.last)) 104, own x.replies ((rs).length) (ints (List.flatMap ReplyT.flat (rs))) 92 3, outP ob (l)]) (Want.plain rfl) rfl rfl rfl nm81 rfl (counted_does r ob (RepT.mk x.id x.log x.view x.own x.mirror x.acc x.round x.vote x.book x.busy (orI .i64 x.kept (IntKind.i64.wrap (1 * 2 ^ min from'.toNat IntKind.i64.bits))) x.waits x.ops x.replies x.told x.last) (rs) (l) hwo hal hl hrs) (fun _ s => sep_selR [2, 2, 2] rfl s) (fun _ _ _ => trivial) (fun vR HR hR => ?_)
 obtain ⟨vk, hvk, rfl⟩ := hR
 change TL _ _ _ _ _ _ _ _ _ [blkA r (RepT.cells ({ countF (RepT.mk x.id x.log x.view x.own x.mirror x.acc x.round x.vote x.book x.busy (orI .i64 x.kept (IntKind.i64.wrap (1 * 2 ^ min from'.toNat IntKind.i64.bits))) x.waits x.ops x.replies x.told x.last) with replies := vk })) 104, own vk ((countR (RepT.mk x.id x.log x.view x.own x.mirror x.acc x.round x.vote x.book x.busy (orI .i64 x.kept (IntKind.i64.wrap (1 * 2 ^ min from'.toNat IntKind.i64.bits))) x.waits x.ops x.replies x.told x.last) (rs)).length) (ints (List.flatMap ReplyT.flat (countR (RepT.mk x.id x.log x.view x.own x.mirror x.acc x.round x.vote x.book x.busy (orI .i64 x.kept (IntKind.i64.wrap (1 * 2 ^ min from'.toNat IntKind.i64.bits))) x.waits x.ops x.replies x.told x.last) (rs)))) 92 3, outP ob (l ++ newsL (RepT.mk x.id x.log x.view x.own x.mirror x.acc x.round x.vote x.book x.busy (orI .i64 x.kept (IntKind.i64.wrap (1 * 2 ^ min from'.toNat IntKind.i64.bits))) x.waits x.ops x.replies x.told x.last).id (RepT.mk x.id x.log x.view x.own x.mirror x.acc x.round x.vote x.book x.busy (orI .i64 x.kept (IntKind.i64.wrap (1 * 2 ^ min from'.toNat IntKind.i64.bits))) x.waits x.ops x.replies x.told x.last).own), own uw (2) ([.int .i64 ((x.id + 1) % 5), .int .i64 ((x.id + 2) % 5)]) 3 1, blkA b7 (ints m.flat) 54]
 refine TL.nil ?_
 refine TE.weak (Sub.refl _) (fun _ s => sep_keep [0, 0, 0] rfl s) ?_
 refine TE.end0 rfl ?_
 have ew : witL x.id = [(x.id + 1) % 5, (x.id + 2) % 5] := by rw [witL, if_pos hid]
 have e : keptB x from' m.version = true := by rw [keptB, h19, ew, decide_eq_true (show m.version = x.own.version by omega), decide_eq_true h34]; rfl
 have e2 : fullB (keptX x from') = true := by rw [fullB, show witL (keptX x from').id = [(x.id + 1) % 5, (x.id + 2) % 5] from ew]; simp only [List.all_cons, List.all_nil, bit0, keptX, *, decide_true, decide_false, Bool.not_true, Bool.not_false, Bool.and_true, Bool.true_and, Bool.false_and, Bool.and_false]
 exact ⟨vk, hvk, by rw [show keptS x from' m.version = countF (keptX x from') by rw [keptS, e, if_pos rfl, e2, if_pos rfl], show keptR x from' m.version rs = countR (keptX x from') rs by rw [keptR, e, e2]; rfl, show keptO x from' m.version = newsL x.id x.own by rw [keptO, e, e2]; rfl]; rfl⟩
 exact AllT.nil
 exact AllT.nil
 refine TL.nil ?_
 refine TE.draw (fun _ s => ⟨Frm.of s, s.block 2 (lb rfl) rfl, s.block 1 (lb rfl) rfl, trivial⟩) ?_
 refine tb 19 rfl (PV.not (r := true) rfl rfl rfl) ?_
 refine ta 20 rfl (PV.pick rfl rfl rfl) ?_
 refine TD.done (by kernel_rfl) ?_
 refine TE.next J4 ?_
 refine TC.yes rfl ?_
 refine TC.ret ?_
 refine TE.passRet ?_
 refine TE.weak (Sub.refl _) (fun _ s => sep_keep [2, 2, 2] rfl s) ?_
 refine TE.ret0 rfl ?_
 have ew : witL x.id = [(x.id + 1) % 5, (x.id + 2) % 5] := by rw [witL, if_pos hid]
 have e : keptB x from' m.version = false := by rw [keptB, ew, decide_eq_false h34]; simp
 exact ⟨x.replies, hone, by rw [show keptS x from' m.version = x by rw [keptS, e]; rfl, show keptR x from' m.version rs = rs by rw [keptR, e]; rfl, show keptO x from' m.version = [] by rw [keptO, e]; rfl, List.append_nil]; rfl⟩
 exact AllT.nil
 refine ta 4 rfl (PV.not (r := true) rfl rfl rfl) ?_
 refine ta 5 rfl (PV.move rfl rfl) ?_
 refine TD.takeNot (i := 6) (b := true) rfl (by kernel_rfl) (by kernel_rfl) (by kernel_rfl) (fun _ _ _ _ h => h) rfl rfl rfl rfl rfl ?_
 refine TD.takeNot (i := 7) (b := true) rfl (by kernel_rfl) (by kernel_rfl) (by kernel_rfl) (fun _ _ _ _ h => h) rfl rfl rfl rfl rfl ?_
 refine TD.takeNot (i := 8) (b := true) rfl (by kernel_rfl) (by kernel_rfl) (by kernel_rfl) (fun _ _ _ _ h => h) rfl rfl rfl rfl rfl ?_
 refine TD.takeNot (i := 9) (b := true) rfl (by kernel_rfl) (by kernel_rfl) (by kernel_rfl) (fun _ _ _ _ h => h) rfl rfl rfl rfl rfl ?_
 refine TD.takeNot (i := 10) (b := true) rfl (by kernel_rfl) (by kernel_rfl) (by kernel_rfl) (fun _ _ _ _ h => h) rfl rfl rfl rfl rfl ?_
 refine TD.takeNot (i := 11) (b := true) rfl (by kernel_rfl) (by kernel_rfl) (by kernel_rfl) (fun _ _ _ _ h => h) rfl rfl rfl rfl rfl ?_
 refine TD.takeNot (i := 12) (b := true) rfl (by kernel_rfl) (by kernel_rfl) (by kernel_rfl) (fun _ _ _ _ h => h) rfl rfl rfl rfl rfl ?_
 refine TD.takeNot (i := 13) (b := true) rfl (by kernel_rfl) (by kernel_rfl) (by kernel_rfl) (fun _ _ _ _ h => h) rfl rfl rfl rfl rfl ?_
 refine ta 14 rfl (PV.pick rfl rfl rfl) ?_
 refine ta 15 rfl (PV.move rfl rfl) ?_
 refine TD.takeNot (i := 16) (b := true) rfl (by kernel_rfl) (by kernel_rfl) (by kernel_rfl) (fun _ _ _ _ h => h) rfl rfl rfl rfl rfl ?_
 refine TD.takeNot (i := 17) (b := true) rfl (by kernel_rfl) (by kernel_rfl) (by kernel_rfl) (fun _ _ _ _ h => h) rfl rfl rfl rfl rfl ?_
 refine TD.takeNot (i := 18) (b := true) rfl (by kernel_rfl) (by kernel_rfl) (by kernel_rfl) (fun _ _ _ _ h => h) rfl rfl rfl rfl rfl ?_
 refine TD.takeNot (i := 19) (b := true) rfl (by kernel_rfl) (by kernel_rfl) (by kernel_rfl) (fun _ _ _ _ h => h) rfl rfl rfl rfl rfl ?_
 refine ta 20 rfl (PV.pick rfl rfl rfl) ?_
 refine TD.done (by kernel_rfl) ?_
 refine TE.next J4 ?_
 refine TC.yes rfl ?_
 refine TC.ret ?_
 refine TE.passRet ?_
 refine TE.weak (Sub.refl _) (fun _ s => sep_keep [2, 2, 2] rfl s) ?_
 refine TE.ret0 rfl ?_
 have ew : witL x.id = [(x.id + 1) % 5, (x.id + 2) % 5] := by rw [witL, if_pos hid]
 have e : keptB x from' m.version = false := by rw [keptB, ew, h19]; simp
 exact ⟨x.replies, hone, by rw [show keptS x from' m.version = x by rw [keptS, e]; rfl, show keptR x from' m.version rs = rs by rw [keptR, e]; rfl, show keptO x from' m.version = [] by rw [keptO, e]; rfl, List.append_nil]; rfl⟩
end Go.Proofs.YtfceaphohlbnbaaGreat
end

section
namespace Go.Proofs.YtfceaphohlbnbaaGreat

open Go Leg Codec Api Dsk Wal

set_option linter.unusedSimpArgs false
set_option linter.unusedVariables false

set_option maxRecDepth 100000

set_option maxHeartbeats 8000000

theorem enter_does (r : Nat) (x : RepT) (v : ViewT) :
    Does Tryz.prog 35 #[(.pointer (some ⟨r, 0, none⟩)), (.agg (ints v.flat).toArray)] (fun _ => True) [blkA r (RepT.cells x) 104] (Ret (fun _ H => H = [blkA r (RepT.cells (enterF x v)) 104])) := by
 refine Does.body (vs := [(.pointer (some ⟨r, 0, none⟩)), (.agg (ints v.flat).toArray)]) (n := 20) Tryz.func35 rfl rfl rfl (fun w0 F hF => ?_)
 refine sr fun _ J1 => ?_
 refine TL.box (Want.plain rfl) rfl rfl rfl rfl (fun b3 => ?_)
 change TL _ _ _ _ _ _ _ _ _ [blkA b3 (ints v.flat) 52, blkA r (RepT.cells x) 104]
 refine nx J1 ?_
 refine sr fun _ J2 => ?_
 refine mv ?_
 refine tp (PV.loadN (vs := ints v.flat) rfl Tryz.underlying52 rfl sz52 rfl (Rd.own 0 rfl rfl) (ViewT.len v) (whole (ViewT.len v))) ?_
 refine tp (PV.nilCheck rfl rfl) ?_
 refine tp (PV.fieldAddr (r := 2) rfl Tryz.underlying104 rfl sz52 rfl rfl) ?_
 refine TL.store (vs := ints v.flat) (i := 1) (H' := [blkA b3 (ints v.flat) 52, blkA r (RepT.cells (RepT.mk x.id x.log v x.own x.mirror x.acc x.round x.vote x.book x.busy x.kept x.waits x.ops x.replies x.told x.last)) 104]) (Want.plain rfl) rfl rfl rfl rfl rfl (by rw [(ViewT.len v)]; exact sz52) (ints_one _) rfl rfl (by have h0 := (RepT.len x); have h1 := (ViewT.len v); omega) (RepT.wr_view_ x 0 rfl (by have h1 := (ViewT.len v); omega) (wwhole ((ViewT.len x.view).trans (ViewT.len v).symm))) rfl ?_
 refine nx J2 ?_
 refine sr fun _ J3 => ?_
 refine mv ?_
 refine tp (PV.fieldAddr (r := 0) rfl Tryz.underlying52 rfl sz3 rfl rfl) ?_
 refine tp (PV.load1 (v := (.int .i64 (v.epoch))) rfl Tryz.underlying3 rfl rfl (Rd.own 0 rfl rfl) (ViewT.at_epoch v rfl)) ?_
 refine tp (PV.buildSegs (cs := ints (AccT.mk v.epoch BallotT.zero BallotT.zero ChangeT.zero).flat) (segs := [[Value.int .i64 0], ints BallotT.zero.flat, ints BallotT.zero.flat, ints ChangeT.zero.flat]) (res := [[Value.int .i64 v.epoch], ints BallotT.zero.flat, ints BallotT.zero.flat, ints ChangeT.zero.flat]) (parts := [(0, [Value.int .i64 v.epoch])]) rfl rfl Tryz.underlying101 (by kernel_rfl) (by kernel_rfl) rfl (putSegs_step rfl ((rfl : [Value.int .i64 v.epoch].length = 1).trans (rfl : [Value.int .i64 0].length = 1).symm) putSegs_nil) (AccT.eq (AccT.mk v.epoch BallotT.zero BallotT.zero ChangeT.zero)).symm) ?_
 refine tp (PV.nilCheck rfl rfl) ?_
 refine tp (PV.fieldAddr (r := 1058) rfl Tryz.underlying104 rfl sz101 rfl rfl) ?_
 refine TL.store (vs := ints (AccT.mk v.epoch BallotT.zero BallotT.zero ChangeT.zero).flat) (i := 1) (H' := [blkA b3 (ints v.flat) 52, blkA r (RepT.cells (RepT.mk x.id x.log v x.own x.mirror (AccT.mk v.epoch BallotT.zero BallotT.zero ChangeT.zero) x.round x.vote x.book x.busy x.kept x.waits x.ops x.replies x.told x.last)) 104]) (Want.plain rfl) rfl rfl rfl rfl rfl (by rw [(AccT.len (AccT.mk v.epoch BallotT.zero BallotT.zero ChangeT.zero))]; exact sz101) (ints_one _) rfl rfl (by have h0 := (RepT.len (RepT.mk x.id x.log v x.own x.mirror x.acc x.round x.vote x.book x.busy x.kept x.waits x.ops x.replies x.told x.last)); have h1 := (AccT.len (AccT.mk v.epoch BallotT.zero BallotT.zero ChangeT.zero)); omega) (RepT.wr_acc_ (RepT.mk x.id x.log v x.own x.mirror x.acc x.round x.vote x.book x.busy x.kept x.waits x.ops x.replies x.told x.last) 0 rfl (by have h1 := (AccT.len (AccT.mk v.epoch BallotT.zero BallotT.zero ChangeT.zero)); omega) (wwhole ((AccT.len x.acc).trans (AccT.len (AccT.mk v.epoch BallotT.zero BallotT.zero ChangeT.zero)).symm))) rfl ?_
 refine nx J3 ?_
 refine sr fun _ J4 => ?_
 refine mv ?_
 refine tp (PV.nilCheck rfl rfl) ?_
 refine tp (PV.fieldAddr (r := 1067) rfl Tryz.underlying104 rfl sz102 rfl rfl) ?_
 refine TL.store1 (i := 1) (H' := [blkA b3 (ints v.flat) 52, blkA r (RepT.cells (RepT.mk x.id x.log v x.own x.mirror (AccT.mk v.epoch BallotT.zero BallotT.zero ChangeT.zero) x.round (.pointer none) x.book x.busy x.kept x.waits x.ops x.replies x.told x.last)) 104]) (Want.plain rfl) rfl rfl rfl rfl rfl sz102 rfl rfl (by have h0 := (RepT.len (RepT.mk x.id x.log v x.own x.mirror (AccT.mk v.epoch BallotT.zero BallotT.zero ChangeT.zero) x.round x.vote x.book x.busy x.kept x.waits x.ops x.replies x.told x.last)); omega) (RepT.set_vote (RepT.mk x.id x.log v x.own x.mirror (AccT.mk v.epoch BallotT.zero BallotT.zero ChangeT.zero) x.round x.vote x.book x.busy x.kept x.waits x.ops x.replies x.told x.last) rfl _) rfl ?_
 refine nx J4 ?_
 refine TC.region ?_
 refine mv ?_
 refine tp (PV.nilCheck rfl rfl) ?_
 refine tp (PV.fieldAddr (r := 1066) rfl Tryz.underlying104 rfl sz3 rfl rfl) ?_
 refine TL.store1 (i := 1) (H' := [blkA b3 (ints v.flat) 52, blkA r (RepT.cells (RepT.mk x.id x.log v x.own x.mirror (AccT.mk v.epoch BallotT.zero BallotT.zero ChangeT.zero) 0 (.pointer none) x.book x.busy x.kept x.waits x.ops x.replies x.told x.last)) 104]) (Want.plain rfl) rfl rfl rfl rfl rfl sz3 rfl rfl (by have h0 := (RepT.len (RepT.mk x.id x.log v x.own x.mirror (AccT.mk v.epoch BallotT.zero BallotT.zero ChangeT.zero) x.round (.pointer none) x.book x.busy x.kept x.waits x.ops x.replies x.told x.last)); omega) (RepT.set_round (RepT.mk x.id x.log v x.own x.mirror (AccT.mk v.epoch BallotT.zero BallotT.zero ChangeT.zero) x.round (.pointer none) x.book x.busy x.kept x.waits x.ops x.replies x.told x.last) rfl _) rfl ?_
 refine TL.nil ?_
 refine TE.weak (Sub.refl _) (fun _ s => sep_keep [1] rfl s) ?_
 refine TE.end0 rfl ?_
 exact rfl
theorem openL_does (d : Nat) (recs : List (List UInt8)) : Does Tryz.prog 34 #[.pointer (some ⟨d, 0, none⟩)] (fun _ => True) [dkL d recs] (Ret (fun r' H => ∃ lg vr, r' = .tuple #[.pointer (some ⟨lg, 0, none⟩), vr, .int .i64 0] ∧ H = [lgL lg d recs, rcP vr recs, dkL d recs])) := by
  refine Does.ex (A' := fun D : { D : DS // LogD D recs ∧ D.dn = false ∧ D.ar = false } => [dk d D.1]) (fun h s => sep_open s) fun ⟨D, hD, hd, ha⟩ => ?_
  obtain ⟨D', ho, h1, h2, h3⟩ := LogD.open hD ha hd
  refine Does.fold (open_does d D hD.ok hD.inn (by rw [hD.ws]; decide)) fun e H hp => ?_
  cases e with
  | returned v =>
    rw [ho] at hp
    rcases hp with ⟨h, _⟩ | ⟨_, lg, vr, rfl, rfl⟩
    · exact absurd rfl h
    · refine ⟨_, fun g s => ?_, lg, vr, rfl, rfl⟩
      have s1 := sep_selR [2] rfl s
      have s2 := sep_close (p := fun D : { D : DS // LogD D recs ∧ D.dn = false ∧ D.ar = false } => [dk d D.1]) ⟨D', h1, h3, h2⟩ s1
      exact sep_perm (List.Perm.trans (List.Perm.swap _ _ _) (List.Perm.cons _ (List.Perm.swap _ _ _))) s2
  | panicked c => exact hp.elim
  | outgrown => exact hp.elim

theorem start0_does (i : Int) (d : Nat) :
    Does Tryz.prog 10 #[(.int .i64 (i)), (.pointer (some ⟨d, 0, none⟩))] (fun _ => True) [dkL d ([])] (Ret (fun r' H => ∃ r lg, r' = .tuple #[.pointer (some ⟨r, 0, none⟩), .int .i64 0] ∧ H = [blkA r (RepT.cells (newRep i lg)) 104, lgL lg d [], dkL d []])) := by
 refine Does.body (vs := [(.int .i64 (i)), (.pointer (some ⟨d, 0, none⟩))]) (n := 50) Tryz.func10 rfl rfl rfl (fun w0 F hF => ?_)
 refine sr fun _ J1 => ?_
 refine sg' ?_
 refine sg' ?_
 refine nx J1 ?_
 refine TC.seq fun _ J2 => ?_
 refine sr fun _ J3 => ?_
 refine mv ?_
 refine tp (PV.ptrNil rfl Tryz.underlying28 rfl rfl) ?_
 refine nx J3 ?_
 refine TC.no rfl ?_
 refine TC.skip ?_
 refine TE.next J2 ?_
 refine sr fun _ J4 => ?_
 refine mv ?_
 refine TL.callR (A := [dkL d ([])]) (Want.plain rfl) rfl rfl rfl nm34 rfl (openL_does d []) (fun _ s => s) (fun _ _ _ => trivial) (fun vR HR hR => ?_)
 obtain ⟨lg, vr, rfl, rfl⟩ := hR
 change TL _ _ _ _ _ _ _ _ _ [lgP lg d ((([]).length : Nat) : Int) ((sizeS ([]) : Nat) : Int), rcP vr [], dkL d ([])]
 refine TL.fact (p := SlLen vr 0 ∧ vr.oneCell' = true) (fun w m => by obtain ⟨h, _, _, hs⟩ := m; obtain ⟨_, _, _, _, a, _⟩ := sep_get 1 (lb rfl) hs; exact sep_recsLen a) (fun ⟨hsl, hvr⟩ => ?_)
 refine mv ?_
 refine tp (PV.extract (vs := [(.pointer (some ⟨lg, 0, none⟩)), vr, (.int .i64 0)]) rfl rfl rfl) ?_
 refine tp (PV.extract (vs := [(.pointer (some ⟨lg, 0, none⟩)), vr, (.int .i64 0)]) rfl rfl rfl) ?_
 refine tp (PV.extract (vs := [(.pointer (some ⟨lg, 0, none⟩)), vr, (.int .i64 0)]) rfl rfl rfl) ?_
 refine sg' ?_
 refine sg' ?_
 refine sg' ?_
 refine nx J4 ?_
 refine TC.seq fun _ J5 => ?_
 refine sr fun _ J6 => ?_
 refine mv ?_
 refine tp (PV.neq rfl rfl rfl) ?_
 refine nx J6 ?_
 refine TC.no rfl ?_
 refine TC.skip ?_
 refine TE.next J5 ?_
 refine sr fun _ J7 => ?_
 refine mv ?_
 refine mv ?_
 refine tp (PV.buildSegs (cs := RepT.cells (RepT.mk i (.pointer (some ⟨lg, 0, none⟩)) ViewT.zero RowT.zero MirT.zero AccT.zero 0 (.pointer none) BookT.zero false 0 0 0 (.slice none 0 0) (#v[0, 0, 0, 0, 0]) (#v[RowT.zero, RowT.zero, RowT.zero, RowT.zero, RowT.zero]))) (segs := [[Value.int .i64 0], [(.pointer none)], ints ViewT.zero.flat, ints RowT.zero.flat, MirT.cells MirT.zero, ints AccT.zero.flat, [Value.int .i64 0], [(.pointer none)], ints BookT.zero.flat, [Value.bool false], [Value.int .i64 0], [Value.int .i64 0], [Value.int .i64 0], [(.slice none 0 0)], ints (#v[0, 0, 0, 0, 0]).toList, ints ((#v[RowT.zero, RowT.zero, RowT.zero, RowT.zero, RowT.zero]).toList.flatMap RowT.flat)]) (res := [[Value.int .i64 i], [(.pointer (some ⟨lg, 0, none⟩))], ints ViewT.zero.flat, ints RowT.zero.flat, MirT.cells MirT.zero, ints AccT.zero.flat, [Value.int .i64 0], [(.pointer none)], ints BookT.zero.flat, [Value.bool false], [Value.int .i64 0], [Value.int .i64 0], [Value.int .i64 0], [(.slice none 0 0)], ints (#v[0, 0, 0, 0, 0]).toList, ints ((#v[RowT.zero, RowT.zero, RowT.zero, RowT.zero, RowT.zero]).toList.flatMap RowT.flat)]) (parts := [(0, [Value.int .i64 i]), (1, [(.pointer (some ⟨lg, 0, none⟩))])]) rfl rfl Tryz.underlying104 (by kernel_rfl) (by kernel_rfl) rfl (putSegs_step rfl ((rfl : [Value.int .i64 i].length = 1).trans (rfl : [Value.int .i64 0].length = 1).symm) (putSegs_step rfl ((rfl : [(.pointer (some ⟨lg, 0, none⟩))].length = 1).trans (rfl : [(.pointer none)].length = 1).symm) putSegs_nil)) (RepT.eq (RepT.mk i (.pointer (some ⟨lg, 0, none⟩)) ViewT.zero RowT.zero MirT.zero AccT.zero 0 (.pointer none) BookT.zero false 0 0 0 (.slice none 0 0) (#v[0, 0, 0, 0, 0]) (#v[RowT.zero, RowT.zero, RowT.zero, RowT.zero, RowT.zero]))).symm) ?_
 refine TL.box (Want.plain rfl) rfl rfl rfl rfl (fun b28 => ?_)
 change TL _ _ _ _ _ _ _ _ _ [blkA b28 (RepT.cells (RepT.mk i (.pointer (some ⟨lg, 0, none⟩)) ViewT.zero RowT.zero MirT.zero AccT.zero 0 (.pointer none) BookT.zero false 0 0 0 (.slice none 0 0) (#v[0, 0, 0, 0, 0]) (#v[RowT.zero, RowT.zero, RowT.zero, RowT.zero, RowT.zero]))) 104, lgP lg d ((([]).length : Nat) : Int) ((sizeS ([]) : Nat) : Int), rcP vr [], dkL d ([])]
 refine sg' ?_
 refine nx J7 ?_
 refine sr fun _ J8 => ?_
 refine mv ?_
 refine TL.callR (A := []) (Want.plain rfl) rfl rfl rfl nm24 rfl (first_does ) (fun _ s => s) (fun _ _ _ => trivial) (fun vR HR hR => ?_)
 obtain ⟨rfl, rfl⟩ := hR
 change TL _ _ _ _ _ _ _ _ _ [blkA b28 (RepT.cells (RepT.mk i (.pointer (some ⟨lg, 0, none⟩)) ViewT.zero RowT.zero MirT.zero AccT.zero 0 (.pointer none) BookT.zero false 0 0 0 (.slice none 0 0) (#v[0, 0, 0, 0, 0]) (#v[RowT.zero, RowT.zero, RowT.zero, RowT.zero, RowT.zero]))) 104, lgP lg d ((([]).length : Nat) : Int) ((sizeS ([]) : Nat) : Int), rcP vr [], dkL d ([])]
 refine TL.callR (A := [blkA b28 (RepT.cells (RepT.mk i (.pointer (some ⟨lg, 0, none⟩)) ViewT.zero RowT.zero MirT.zero AccT.zero 0 (.pointer none) BookT.zero false 0 0 0 (.slice none 0 0) (#v[0, 0, 0, 0, 0]) (#v[RowT.zero, RowT.zero, RowT.zero, RowT.zero, RowT.zero]))) 104]) (Want.plain rfl) rfl rfl rfl nm35 rfl (enter_does b28 (RepT.mk i (.pointer (some ⟨lg, 0, none⟩)) ViewT.zero RowT.zero MirT.zero AccT.zero 0 (.pointer none) BookT.zero false 0 0 0 (.slice none 0 0) (#v[0, 0, 0, 0, 0]) (#v[RowT.zero, RowT.zero, RowT.zero, RowT.zero, RowT.zero])) firstV) (fun _ s => s) (fun _ _ _ => trivial) (fun vR HR hR => ?_)
 obtain rfl := hR
 change TL _ _ _ _ _ _ _ _ _ [blkA b28 (RepT.cells (enterF (RepT.mk i (.pointer (some ⟨lg, 0, none⟩)) ViewT.zero RowT.zero MirT.zero AccT.zero 0 (.pointer none) BookT.zero false 0 0 0 (.slice none 0 0) (#v[0, 0, 0, 0, 0]) (#v[RowT.zero, RowT.zero, RowT.zero, RowT.zero, RowT.zero])) firstV)) 104, lgP lg d ((([]).length : Nat) : Int) ((sizeS ([]) : Nat) : Int), rcP vr [], dkL d ([])]
 refine nx J8 ?_
 refine TC.seq fun _ J9 => ?_
 refine sr fun _ J10 => ?_
 refine mv ?_
 refine tp (PV.lenV rfl Tryz.underlying97 rfl hsl) ?_
 refine mv ?_
 refine nx J10 ?_
 refine TC.block ?_
 refine TC.unroll 1 ?_
 refine sr fun _ J11 => ?_
 refine tp (PV.lss rfl rfl rfl) ?_
 refine nx J11 ?_
 refine TC.seq fun _ J12 => ?_
 refine TC.no rfl ?_
 refine TC.exit ?_
 refine TE.pass ?_
 refine TE.pass ?_
 refine TE.hit ?_
 refine TE.next J9 ?_
 refine sr fun _ J13 => ?_
 refine mv ?_
 refine sg' ?_
 refine sg' ?_
 refine nx J13 ?_
 refine TC.ret ?_
 refine TE.weak (Sub.refl _) (fun _ s => sep_keep [0, 0, 1] rfl s) ?_
 refine TE.ret2 rfl rfl rfl ?_
 exact ⟨b28, lg, rfl, rfl⟩
theorem outNew {P : Program} {w0 : World} {F : Hl} {n : Nat} {ops : Array Oper} {Q : QQ} {l : List Oper} {D : List Deferred} {L : List (Nat × Value)} {H : List HP} {b : Nat} (h : TL P w0 F n ops Q l D L (outP b [] :: H)) : TL P w0 F n ops Q l D L (blkA b [.slice none 0 0] 32 :: H) :=
  TL.ownNilI 84 193 (fun _ => TL.mono (fun _ s => sep_close (p := fun vs : Value => [blkA b [vs] 32, own vs 0 [] 84 193]) _ (sep_perm (List.Perm.swap _ _ _) s)) h)

theorem take1_does (r ob : Nat) (x : RepT) (from' : Int) (m : MsgT) (rs : List ReplyT) (l : List SaidT) (hk : m.kind = 1) (hid : machB x.id = true) (hwo : WF x.own.flat) (hal : Alone x) (hl : l.length ≤ 900000) (hrs : rs.length ≤ 1000000) :
    Does Tryz.prog 13 #[(.pointer (some ⟨r, 0, none⟩)), (.iface 34 (.pointer (some ⟨ob, 0, none⟩))), (.int .i64 (from')), (.agg (ints m.flat).toArray)] (fun _ => True) [blkA r (RepT.cells x) 104, own x.replies ((rs).length) (ints (List.flatMap ReplyT.flat (rs))) 92 3, outP ob (l)] (Ret (fun _ H => ∃ v', v'.oneCell' = true ∧ H = [blkA r (RepT.cells { keptS x from' m.version with replies := v' }) 104, own v' (keptR x from' m.version rs).length (ints (List.flatMap ReplyT.flat (keptR x from' m.version rs))) 92 3, outP ob (l ++ keptO x from' m.version)])) := by
 refine Does.body (vs := [(.pointer (some ⟨r, 0, none⟩)), (.iface 34 (.pointer (some ⟨ob, 0, none⟩))), (.int .i64 (from')), (.agg (ints m.flat).toArray)]) (n := 65) Tryz.func13 rfl rfl rfl (fun w0 F hF => ?_)
 refine sr fun _ J1 => ?_
 refine TL.box (Want.plain rfl) rfl rfl rfl rfl (fun b7 => ?_)
 change TL _ _ _ _ _ _ _ _ _ [blkA b7 (ints m.flat) 54, blkA r (RepT.cells x) 104, own x.replies ((rs).length) (ints (List.flatMap ReplyT.flat (rs))) 92 3, outP ob (l)]
 refine nx J1 ?_
 refine sr fun _ J2 => ?_
 refine tp (PV.fieldAddr (r := 0) rfl Tryz.underlying54 rfl sz3 rfl rfl) ?_
 refine tp (PV.load1 (v := (.int .i64 (m.kind))) rfl Tryz.underlying3 rfl rfl (Rd.own 0 rfl rfl) (MsgT.at_kind m rfl)) ?_
 refine nx J2 ?_
 refine TC.block ?_
 refine sr fun _ J3 => ?_
 refine tp (PV.eql rfl rfl rfl) ?_
 refine TL.dec (fun h11 => ?_) (fun h11 => ?_)
 · exact absurd h11 (by omega)
 refine sg' ?_
 refine nx J3 ?_
 refine TC.no rfl ?_
 refine sr fun _ J4 => ?_
 refine tp (PV.eql rfl rfl rfl) ?_
 refine TL.dec (fun h18 => ?_) (fun h18 => ?_)
 refine sg' ?_
 refine nx J4 ?_
 refine TC.yes rfl ?_
 refine TC.region ?_
 refine mv ?_
 refine mv ?_
 refine mv ?_
 refine tp (PV.loadN (vs := ints m.flat) rfl Tryz.underlying54 rfl sz54 rfl (Rd.own 0 rfl rfl) (MsgT.len m) (whole (MsgT.len m))) ?_
 refine TL.callR (A := [blkA r (RepT.cells x) 104, own x.replies ((rs).length) (ints (List.flatMap ReplyT.flat (rs))) 92 3, outP ob (l)]) (Want.plain rfl) rfl rfl rfl nm44 rfl (takeKept_does r ob x from' m (rs) (l) hid hwo hal hl hrs) (fun _ s => sep_selR [1, 1, 1] rfl s) (fun _ _ _ => trivial) (fun vR HR hR => ?_)
 obtain ⟨vk, hvk, rfl⟩ := hR
 change TL _ _ _ _ _ _ _ _ _ [blkA r (RepT.cells ({ keptS x from' m.version with replies := vk })) 104, own vk ((keptR x from' m.version rs).length) (ints (List.flatMap ReplyT.flat (keptR x from' m.version rs))) 92 3, outP ob (l ++ keptO x from' m.version), blkA b7 (ints m.flat) 54]
 refine TL.nil ?_
 refine TE.blockEnd ?_
 refine TE.weak (Sub.refl _) (fun _ s => sep_keep [0, 0, 0] rfl s) ?_
 refine TE.end0 rfl ?_
 exact ⟨vk, hvk, rfl⟩
 · exact absurd h18 (by omega)
theorem replies_does (r : Nat) (x : RepT) (rs : List ReplyT) (hrs : rs.length ≤ 1000000) :
    Does Tryz.prog 15 #[(.pointer (some ⟨r, 0, none⟩))] (fun _ => True) [blkA r (RepT.cells x) 104, own x.replies ((rs).length) (ints (List.flatMap ReplyT.flat (rs))) 92 3] (Ret (fun r' H => ∃ u, r' = u ∧ H = [blkA r (RepT.cells x) 104, own x.replies rs.length (ints (List.flatMap ReplyT.flat rs)) 92 3, own u rs.length (ints (List.flatMap ReplyT.flat rs)) 92 3])) := by
 refine Does.body (vs := [(.pointer (some ⟨r, 0, none⟩))]) (n := 8) Tryz.func15 rfl rfl rfl (fun w0 F hF => ?_)
 refine sr fun _ J1 => ?_
 refine TL.ownNilI 92 3 (fun _ => ?_)
 refine sg' ?_
 refine nx J1 ?_
 refine sr fun _ J2 => ?_
 refine mv ?_
 refine tp (PV.nilCheck rfl rfl) ?_
 refine tp (PV.fieldAddr (r := 1942) rfl Tryz.underlying104 rfl sz55 rfl rfl) ?_
 refine tp (PV.load1 (v := x.replies) rfl Tryz.underlying55 rfl rfl (Rd.own 1 rfl rfl) (RepT.at_replies x rfl)) ?_
 refine TL.append (k := 0) (news := ints (List.flatMap ReplyT.flat rs)) (nn' := rs.length) (xs' := ints (List.flatMap ReplyT.flat rs)) (Want.plain rfl) rfl rfl rfl Tryz.underlying55 in92 rfl rfl rfl rfl rfl rfl (fun _ s => Src.own 2 rfl rfl s) (ints_one _) (by simp only [maxLen]; omega) (by omega) (by simp) (by simp) (fun v7 ov7 => ?_)
 change TL _ _ _ _ _ _ _ _ _ [own v7 (rs.length) (ints (List.flatMap ReplyT.flat rs)) 92 3, blkA r (RepT.cells x) 104, own x.replies ((rs).length) (ints (List.flatMap ReplyT.flat (rs))) 92 3]
 refine sg' ?_
 refine nx J2 ?_
 refine TC.ret ?_
 refine TE.weak (Sub.refl _) (fun _ s => sep_keep [1, 1, 0] rfl s) ?_
 refine TE.ret1 rfl rfl ?_
 exact ⟨_, rfl, rfl⟩
end Go.Proofs.YtfceaphohlbnbaaGreat
end

section
namespace Api
open Go Leg Codec

def EC (us : List Value) (c : ChangeT) (_ : Hl) : Prop := us = ints c.flat
theorem EC.more (us : List Value) (c : ChangeT) (F g : Hl) (h : EC us c F) (_ : Dj g F) : EC us c (jn g F) := h
theorem addE_ok : ∀ (l : List Int) (s : Int), 0 ≤ s → (∀ n ∈ l, okN n = true) → s + l.sum ≤ 1099511627776 → (addE l s).2 = 0
  | [], _, _, _, _ => rfl
  | n :: l, s, h0, h, hs => by
    have hn : 0 ≤ n ∧ n ≤ 1099511627776 := of_decide_eq_true (h n (by simp))
    have hl : 0 ≤ l.sum := by
      have : ∀ l' : List Int, (∀ n ∈ l', okN n = true) → 0 ≤ l'.sum := fun l' => by
        induction l' with
        | nil => intro _; exact Int.le_refl _
        | cons a t ih => intro h; have h1 : 0 ≤ a ∧ a ≤ 1099511627776 := of_decide_eq_true (h a (by simp)); have := ih (fun n hn => h n (by simp [hn])); rw [List.sum_cons]; omega
      exact this l fun n hn => h n (by simp [hn])
    rw [List.sum_cons] at hs
    rw [addE, if_pos (h n (by simp)), if_neg (by omega)]
    exact addE_ok l (s + n) (by omega) (fun n hn => h n (by simp [hn])) (by omega)
def CellSo (c : CellT) (j : Nat) (sum : Int) : Prop := okN c.inn = true ∧ okN c.out = true ∧ (∀ (i : Nat) (h : i < 5), i < j → okN c.given[i] = true) ∧ sum = (c.given.toList.take j).sum
theorem CellSo.step {c : CellT} {j : Nat} {sum : Int} (h : CellSo c j sum) (hj : j < 5) (hg : 0 ≤ c.given[j] ∧ c.given[j] ≤ 1099511627776) : CellSo c (j + 1) (sum + c.given[j]) := by
  obtain ⟨h1, h2, h3, h4⟩ := h
  refine ⟨h1, h2, fun i hi hij => ?_, ?_⟩
  · by_cases q : i = j
    · subst q; exact decide_eq_true hg
    · exact h3 i hi (by omega)
  · rw [List.take_succ_eq_append_getElem (by simpa using hj), List.sum_append, ← h4]; simp
theorem CellSo.okC {c : CellT} {sum : Int} (h : CellSo c 5 sum) (hs : sum ≤ 1099511627776) : okC c = true := by
  obtain ⟨h1, h2, h3, h4⟩ := h
  rw [List.take_of_length_le (by simp)] at h4
  unfold Api.okC
  rw [h1, h2, Bool.true_and, Bool.true_and, decide_eq_true_iff]
  refine addE_ok _ 0 (by omega) (fun n hn => ?_) (by omega)
  obtain ⟨i, hi, rfl⟩ := List.getElem_of_mem hn
  have := h3 i (by simpa using hi) (by simpa using hi)
  simpa using this
end Api
end

section
namespace Api
open Go Leg Codec

theorem flatsL_inj : ∀ (a b : List CellT), a.length = b.length → flats a = flats b → a = b
  | [], [], _, _ => rfl
  | [], _ :: _, h, _ => by cases h
  | _ :: _, [], h, _ => by cases h
  | x :: a, y :: b, h, e => by
    simp only [flats, List.flatMap_cons] at e
    obtain ⟨h1, h2⟩ := List.append_inj e (by simp [CellT.flat])
    rw [flat7_inj h1, flatsL_inj a b (by simpa using h) h2]
theorem flats_inj {v w : Vector CellT 4} (h : flats v.toList = flats w.toList) : v = w := Vector.toList_inj.1 (flatsL_inj _ _ (by simp) h)
theorem wf_bd {n : Int} (h : (Lit.int .i64 n).wf = true) : -9223372036854775808 ≤ n ∧ n < 9223372036854775808 := by
  have m1 : IntKind.i64.min = -9223372036854775808 := by decide
  have m2 : IntKind.i64.max = 9223372036854775807 := by decide
  simp only [Lit.wf, m1, m2, Bool.and_eq_true, decide_eq_true_eq] at h
  omega
theorem addE_mem : ∀ (l : List Int) (s : Int), (addE l s).2 = 0 → ∀ n ∈ l, okN n = true
  | [], _, _, n, hn => by cases hn
  | a :: l, s, h, n, hn => by
    rw [addE] at h
    by_cases h1 : okN a = true
    · rw [if_pos h1] at h
      by_cases h2 : a > 1099511627776 - s
      · rw [if_pos h2] at h; cases h
      · rw [if_neg h2] at h
        rcases List.mem_cons.1 hn with rfl | hn
        · exact h1
        · exact addE_mem l _ h n hn
    · rw [if_neg h1] at h; cases h
theorem okN_small {n : Int} (h : okN n = true) : Small n := by
  have : 0 ≤ n ∧ n ≤ 1099511627776 := of_decide_eq_true h
  exact ⟨this.1, by omega⟩
theorem TameC.of {c : CellT} (h : okC c = true) : TameC c := by
  unfold okC at h
  rw [Bool.and_eq_true, Bool.and_eq_true, decide_eq_true_iff] at h
  refine ⟨okN_small h.1.1, okN_small h.1.2, fun j hj => okN_small (addE_mem _ _ h.2 _ ?_)⟩
  rw [← Vector.getElem_toList (h := by simpa using hj)]
  exact List.getElem_mem _
theorem okCs_tame {v : Vector CellT 4} (h : okCs v = true) (k : Nat) (hk : k < 4) : TameC v[k] := TameC.of (of_decide_eq_true h k hk)
theorem TameR.of {x : RowT} (hw : WF x.flat) (h : rightR x = true) : TameR x := by
  unfold rightR at h
  rw [Bool.and_eq_true, Bool.and_eq_true, decide_eq_true_iff, decide_eq_true_iff] at h
  obtain ⟨⟨h1, h2⟩, h3⟩ := h
  have hh : ∀ (j : Nat) (hj : j < 5), (0 : Int) ≤ x.heir[j] ∧ okCs x.left[j] = true ∧ (x.heir[j] = (0 : Int) → flats x.left[j].toList = flats RowT.zero.left[0].toList) := fun j hj => by
    have := h3 j hj
    unfold hokR at this
    rw [Bool.and_eq_true, Bool.and_eq_true, decide_eq_true_iff, decide_eq_true_iff] at this
    exact ⟨this.1.1, this.1.2, this.2⟩
  refine ⟨⟨h1, (wf_bd (hw _ (by simp [RowT.flat]))).2⟩, fun k hk => okCs_tame h2 k hk, fun j hj => ⟨(hh j hj).1, (wf_bd (hw _ ?_)).2⟩, fun j k hj hk => okCs_tame (hh j hj).2.1 k hk, fun j hj e => flats_inj ((hh j hj).2.2 e)⟩
  have : x.heir[j] ∈ x.heir.toList := by rw [← Vector.getElem_toList (h := by simpa using hj)]; exact List.getElem_mem _
  simp [RowT.flat, this]
theorem wf_cons {n : Int} {l : List Int} (h : 0 ≤ n ∧ n < 9223372036854775808) (hl : WF l) : WF (n :: l) := fun m hm => by
  rcases List.mem_cons.1 hm with rfl | hm
  · exact wf_small h
  · exact hl m hm
theorem wf_app {a b : List Int} (ha : WF a) (hb : WF b) : WF (a ++ b) := fun m hm => by
  rcases List.mem_append.1 hm with hm | hm
  · exact ha m hm
  · exact hb m hm
theorem wf_nil : WF [] := fun _ h => by cases h
theorem OkB.wf {b : BallotT} (h : OkB b) : WF b.flat := wf_cons h.1 (wf_cons ⟨h.2.1, by have := h.2.2; omega⟩ wf_nil)
theorem OkC.wf {c : ChangeT} (h : OkC c) : WF c.flat := wf_cons ⟨h.1.1, by have := h.1.2; omega⟩ (wf_cons ⟨h.2.1.1, by have := h.2.1.2; omega⟩ (wf_cons ⟨h.2.2.1, by have := h.2.2.2; omega⟩ wf_nil))
theorem OkV.wf {v : ViewT} (h : OkV v) : WF v.flat := wf_cons h.1 (wf_cons ⟨h.2.1.1, by have := h.2.1.2; omega⟩ fun n hn => by
  obtain ⟨j, hj, rfl⟩ := List.getElem_of_mem hn
  rw [Vector.length_toList] at hj
  have := h.2.2 j hj
  simpa using wf_small ⟨this.1, by omega⟩)
theorem nm_zero : Nm 0 := ⟨by decide, by decide⟩
theorem OkB.zero : OkB .zero := ⟨nm_zero, by decide, by decide⟩
theorem OkC.zero : OkC .zero := ⟨by decide, by decide, by decide⟩
theorem OkV.zero : OkV .zero := ⟨nm_zero, by decide, fun i h => by have := Rng.zero i h; omega⟩
theorem OkM.wf {m : MsgT} (h : OkM m) : WF m.flat := wf_cons ⟨h.kind.1, by have := h.kind.2; omega⟩ (wf_cons ⟨h.whose.1, by have := h.whose.2; omega⟩ (wf_app h.row.wf (wf_cons h.version (wf_cons h.epoch (wf_app h.ballot.wf (wf_app h.had.wf (wf_app h.change.wf h.view.wf)))))))
theorem OkM.zero : OkM .zero := ⟨by decide, by decide, tame_rzero, nm_zero, nm_zero, .zero, .zero, .zero, .zero⟩
theorem OkRc.wf {m : RecT} (h : OkRc m) : WF m.flat := wf_cons ⟨h.kind.1, by have := h.kind.2; omega⟩ (wf_cons ⟨h.whose.1, by have := h.whose.2; omega⟩ (wf_app h.row.wf (wf_cons h.epoch (wf_app h.ballot.wf (wf_app h.change.wf h.view.wf)))))
theorem OkRc.zero : OkRc .zero := ⟨by decide, by decide, tame_rzero, nm_zero, .zero, .zero, .zero⟩
theorem encR_norm {m : RecT} (h : OkRc m) : encR (normR m) = encR m := by
  have hk := h.kind
  unfold normR
  split
  · rename_i c; simp only [encR, if_pos c]
  split
  · rename_i c0 c; simp only [encR, if_neg c0, if_pos c]
  split
  · rename_i c0 c1 c; simp only [encR, if_neg c0, if_neg c1, if_pos c]
  split
  · rename_i c0 c1 c2 c; simp only [encR, if_neg c0, if_neg c1, if_neg c2, if_pos c]
  split
  · rename_i c0 c1 c2 c3 c; simp only [encR, if_neg c0, if_neg c1, if_neg c2, if_neg c3, if_pos c]
  · rename_i c0 c1 c2 c3 c4; simp only [encR, if_neg c0, if_neg c1, if_neg c2, if_neg c3, if_neg c4]
theorem decR_enc {m : RecT} (h : OkRc m) (ho : okRc m = true) : decR (encR (normR m)) = (normR m, 0) := by
  have := rec_enc h []
  rw [ho, List.append_nil] at this
  unfold decR; rw [encR_norm h, this]
theorem MsgT.of (l : List Int) (h : l.length = 192) : ∃ x : MsgT, x.flat = l := by
  match l, h with
  | a :: b :: l, h =>
    have h' : l.length = 190 := by simpa using h
    obtain ⟨x, hx⟩ := RowT.of (l.take 174) (by rw [List.length_take]; omega)
    have h2 : (l.drop 174).length = 16 := by rw [List.length_drop]; omega
    rw [← List.take_append_drop 174 l, ← hx]
    generalize l.drop 174 = r at h2
    match r, h2 with
    | [c, d, e1, e2, f1, f2, g1, g2, g3, v1, v2, h0, h1, h2, h3, h4], _ => exact ⟨⟨a, b, x, c, d, ⟨e1, e2⟩, ⟨f1, f2⟩, ⟨g1, g2, g3⟩, ⟨v1, v2, #v[h0, h1, h2, h3, h4]⟩⟩, by simp [MsgT.flat, BallotT.flat, ChangeT.flat, ViewT.flat]⟩
theorem ViewT.of (l : List Int) (h : l.length = 7) : ∃ x : ViewT, x.flat = l := by
  match l, h with
  | [v1, v2, h0, h1, h2, h3, h4], _ => exact ⟨⟨v1, v2, #v[h0, h1, h2, h3, h4]⟩, by simp [ViewT.flat]⟩
theorem ChangeT.of (l : List Int) (h : l.length = 3) : ∃ x : ChangeT, x.flat = l := by
  match l, h with
  | [a, b, c], _ => exact ⟨⟨a, b, c⟩, rfl⟩
end Api
end

section
namespace Api
open Go Leg Codec Dsk Wal

theorem v5_list (v : Vector Int 5) : v.toList = [v[0], v[1], v[2], v[3], v[4]] := by
  obtain ⟨⟨l⟩, h⟩ := v
  match l, h with
  | [a, b, c, d, e], _ => rfl
structure CellOk (c : CellT) : Prop where
  inn : 0 ≤ c.inn ∧ c.inn ≤ 1099511627776
  out : 0 ≤ c.out ∧ c.out ≤ 1099511627776
  given : (0 : Int) ≤ c.given[0] ∧ (0 : Int) ≤ c.given[1] ∧ (0 : Int) ≤ c.given[2] ∧ (0 : Int) ≤ c.given[3] ∧ (0 : Int) ≤ c.given[4]
  sum : c.given[0] + c.given[1] + c.given[2] + c.given[3] + c.given[4] ≤ 1099511627776
theorem CellOk.zero : CellOk .zero := ⟨by decide, by decide, by decide, by decide⟩
theorem okN_of {n : Int} (h : 0 ≤ n ∧ n ≤ 1099511627776) : okN n = true := decide_eq_true h
theorem CellOk.right {c : CellT} (h : CellOk c) : okC c = true := by
  obtain ⟨h1, h2, ⟨g0, g1, g2, g3, g4⟩, hs⟩ := h
  unfold okC
  rw [okN_of h1, okN_of h2, v5_list, Bool.true_and, Bool.true_and, decide_eq_true_iff]
  generalize c.given[0] = a at *
  generalize c.given[1] = b at *
  generalize c.given[2] = d at *
  generalize c.given[3] = e at *
  generalize c.given[4] = f at *
  rw [addE, if_pos (okN_of (by omega)), if_neg (by omega), addE, if_pos (okN_of (by omega)), if_neg (by omega), addE, if_pos (okN_of (by omega)), if_neg (by omega), addE, if_pos (okN_of (by omega)), if_neg (by omega), addE, if_pos (okN_of (by omega)), if_neg (by omega), addE]
theorem CellOk.sumG {c : CellT} (h : CellOk c) : sumG c = c.given[0] + c.given[1] + c.given[2] + c.given[3] + c.given[4] := by
  obtain ⟨h1, h2, ⟨g0, g1, g2, g3, g4⟩, hs⟩ := h
  unfold Api.sumG
  rw [v5_list]
  simp only [List.foldl_cons, List.foldl_nil]
  rw [w64_eq (n := (0 : Int) + c.given[0]) (by omega) (by omega), w64_eq (n := (0 : Int) + c.given[0] + c.given[1]) (by omega) (by omega), w64_eq (n := (0 : Int) + c.given[0] + c.given[1] + c.given[2]) (by omega) (by omega), w64_eq (n := (0 : Int) + c.given[0] + c.given[1] + c.given[2] + c.given[3]) (by omega) (by omega), w64_eq (by omega) (by omega)]
  omega
theorem CellOk.put {c : CellT} (h : CellOk c) {q : Nat} (hq : q < 5) {n : Int} (hn : 0 ≤ n) (hs : c.given[0] + c.given[1] + c.given[2] + c.given[3] + c.given[4] + n ≤ 1099511627776) : CellOk { c with given := c.given.set q (c.given[q] + n) hq } := by
  obtain ⟨h1, h2, ⟨g0, g1, g2, g3, g4⟩, _⟩ := h
  refine ⟨h1, h2, ?_, ?_⟩
  · match q, hq with
    | 0, _ | 1, _ | 2, _ | 3, _ | 4, _ => simp [Vector.getElem_set]; omega
  · match q, hq with
    | 0, _ | 1, _ | 2, _ | 3, _ | 4, _ => simp [Vector.getElem_set]; omega
structure OwnOk (y : RowT) (k : Nat) : Prop where
  ver : 0 ≤ y.version ∧ y.version ≤ k
  cells : ∀ (i : Nat) (h : i < 4), CellOk y.cells[i]
  heir : y.heir = RowT.zero.heir
  left : y.left = RowT.zero.left
theorem OwnOk.zero (k : Nat) : OwnOk .zero k := ⟨⟨by decide, by show (0 : Int) ≤ (k : Int); omega⟩, fun i h => by rw [cell_z i h]; exact .zero, rfl, rfl⟩
theorem OwnOk.more {y : RowT} {k m : Nat} (h : OwnOk y k) (hm : k ≤ m) : OwnOk y m := ⟨⟨h.ver.1, by have := h.ver.2; omega⟩, h.cells, h.heir, h.left⟩
theorem OwnOk.cellAt {y : RowT} {k : Nat} (h : OwnOk y k) (key : Int) : CellOk (cellAt y key) := by
  unfold Api.cellAt
  split
  · exact h.cells _ _
  · exact .zero
theorem OwnOk.moreR {y : RowT} {k : Nat} (h : OwnOk y k) (hk : k ≤ 1000000) {key n counts : Int} {c : CellT} (hc : counts ≤ 1099511627776 - n → CellOk c) : OwnOk (moreR y key n counts c).1 (k + 1) := by
  unfold Api.moreR
  split
  · exact .zero _
  · rename_i hn
    have hv := h.ver
    refine ⟨?_, fun i hi => ?_, ?_, ?_⟩
    · show 0 ≤ w64 (y.version + 1) ∧ w64 (y.version + 1) ≤ _
      rw [w64_eq (by omega) (by omega)]; omega
    · show CellOk (putCell y key c).cells[i]
      unfold putCell
      split
      · rename_i hkk
        show CellOk (y.cells.set key.toNat c (key_lt hkk))[i]
        rw [Vector.getElem_set]
        split
        · exact hc (by omega)
        · exact h.cells i hi
      · exact h.cells i hi
    · show (putCell y key c).heir = _
      unfold putCell; split <;> exact h.heir
    · show (putCell y key c).left = _
      unfold putCell; split <;> exact h.left
theorem askB_pos {key n : Int} (h : askB key n = true) : 1 ≤ n ∧ n ≤ 1099511627776 := by
  unfold askB at h
  rw [Bool.and_eq_true, Bool.and_eq_true] at h
  have h1 : 1 ≤ n := of_decide_eq_true h.1.2
  have h2 : 0 ≤ n ∧ n ≤ 1099511627776 := of_decide_eq_true h.2
  exact ⟨h1, h2.2⟩
theorem OwnOk.inc {y : RowT} {k : Nat} (h : OwnOk y k) (hk : k ≤ 1000000) (key n : Int) : OwnOk (rowInc y key n).1 (k + 1) := by
  unfold rowInc
  split
  · rename_i ha
    have hn := askB_pos ha
    have hc := h.cellAt key
    refine h.moreR hk fun hl => ⟨?_, hc.out, hc.given, hc.sum⟩
    have := hc.inn
    show 0 ≤ w64 _ ∧ w64 _ ≤ _
    rw [w64_eq (by omega) (by omega)]; omega
  · exact .zero _
theorem OwnOk.dec {y : RowT} {k : Nat} (h : OwnOk y k) (hk : k ≤ 1000000) (key n : Int) : OwnOk (rowDec y key n).1 (k + 1) := by
  unfold rowDec
  split
  · rename_i ha
    have hn := askB_pos ha
    have hc := h.cellAt key
    refine h.moreR hk fun hl => ⟨hc.inn, ?_, hc.given, hc.sum⟩
    have := hc.out
    show 0 ≤ w64 _ ∧ w64 _ ≤ _
    rw [w64_eq (by omega) (by omega)]; omega
  · exact .zero _
theorem OwnOk.give {y : RowT} {k : Nat} (h : OwnOk y k) (hk : k ≤ 1000000) (key n to' : Int) : OwnOk (rowGive y key n to').1 (k + 1) := by
  unfold rowGive
  split
  · rename_i ha
    rw [Bool.and_eq_true] at ha
    have hn := askB_pos ha.2
    have hc := h.cellAt key
    obtain ⟨q, hq, e⟩ : ∃ q : Nat, q < 5 ∧ to' = ((q : Nat) : Int) := by have h5 : 0 ≤ to' ∧ to' < 5 := of_decide_eq_true ha.1; exact ⟨to'.toNat, by omega, by omega⟩
    subst e
    refine h.moreR hk fun hl => ?_
    rw [hc.sumG] at hl
    rw [givenOf_at _ hq, giveTo, dif_pos ha.1]
    have hq2 : 0 ≤ (Api.cellAt y key).given[q] ∧ (Api.cellAt y key).given[q] ≤ (1099511627776 : Int) := by
      obtain ⟨h1, h2, ⟨g0, g1, g2, g3, g4⟩, hs⟩ := hc
      match q, hq with
      | 0, _ | 1, _ | 2, _ | 3, _ | 4, _ => exact ⟨by assumption, by omega⟩
    rw [w64_eq (by omega) (by omega)]
    exact hc.put hq (by omega) (by omega)
  · exact .zero _
theorem OwnOk.tame {y : RowT} {k : Nat} (h : OwnOk y k) (hk : k ≤ 1000000) : TameR y := ⟨⟨h.ver.1, by have := h.ver.2; omega⟩, fun i hi => TameC.of (h.cells i hi).right, fun i hi => by rw [show y.heir[i] = RowT.zero.heir[i] from by simp only [h.heir]]; exact tame_rzero.heir i hi,
  fun i k hi hk => by rw [show y.left[i][k] = RowT.zero.left[i][k] from by simp only [h.left]]; exact tame_rzero.left i k hi hk, fun i hi _ => by rw [show y.left[i] = RowT.zero.left[i] from by simp only [h.left]]; exact tame_rzero.none i hi (by match i, hi with | 0, _ | 1, _ | 2, _ | 3, _ | 4, _ => rfl)⟩
theorem right_rzero : rightR RowT.zero = true := by decide +kernel
theorem OwnOk.right {y : RowT} {k : Nat} (h : OwnOk y k) : rightR y = true := by
  have h0 := right_rzero
  unfold rightR at h0 ⊢
  rw [Bool.and_eq_true, Bool.and_eq_true] at h0 ⊢
  refine ⟨⟨decide_eq_true h.ver.1, decide_eq_true fun i hi => (h.cells i hi).right⟩, ?_⟩
  have := h0.2
  rw [decide_eq_true_iff] at this ⊢
  intro j hj
  have q := this j hj
  simp only [h.heir, h.left]
  exact q
theorem encHeirs_zero {y : RowT} (h : y.heir = RowT.zero.heir) : ∀ m i, (encHeirs y m i).length ≤ 10 * m
  | 0, _ => by simp [encHeirs]
  | m + 1, i => by
    have ih := encHeirs_zero h m (i + 1)
    simp only [encHeirs, List.length_append]
    by_cases hi : i < 5
    · have h0 : y.heir[i] = (0 : Int) := by
        have e : y.heir[i] = RowT.zero.heir[i] := by simp only [h]
        rw [e]
        match i, hi with
        | 0, _ | 1, _ | 2, _ | 3, _ | 4, _ => rfl
      rw [dif_pos hi, h0, if_neg (by decide), List.append_nil]
      have := encN_len 0
      omega
    · rw [dif_neg hi]; simp only [List.length_nil]; omega
theorem OwnOk.len {y : RowT} {k : Nat} (h : OwnOk y k) : piecesN (encR (rowRec y)).length ≤ 7 := by
  have h1 := encN_len y.version
  have h2 := encs_len (flats y.cells.toList)
  have h3 := encHeirs_zero h.heir 5 0
  have h4 := encs_len [(0 : Int)]
  rw [flats_length] at h2
  simp at h2
  have : (encR (rowRec y)).length ≤ 360 := by
    simp only [encR, rowRec, if_true, encRow, List.length_append, List.length_cons, List.length_nil] at *
    omega
  unfold piecesN
  split <;> omega
theorem OwnOk.plan {x : RepT} {k : Nat} (h : OwnOk x.own k) (hk : k ≤ 1000000) (o : OpT) : OwnOk (planF x o).1 (k + 1) := by
  unfold planF
  split
  · exact .zero _
  split
  · exact .zero _
  split
  · exact .zero _
  split
  · exact .zero _
  split
  · exact .zero _
  split
  · exact .zero _
  · show OwnOk (growOf x o).1 (k + 1)
    unfold growOf
    split
    · exact h.inc hk _ _
    split
    · exact h.dec hk _ _
    split
    · split
      · exact h.give hk _ _ _
      · exact .zero _
    · exact .zero _
end Api
end

section
namespace Api
open Go Leg Codec Dsk Wal

structure Lone (x : RepT) (lg : Nat) (id : Int) (k : Nat) : Prop where
  id : x.id = id
  view : x.view = firstV
  log : x.log = .pointer (some ⟨lg, 0, none⟩)
  own : OwnOk x.own k
theorem Lone.new (id : Int) (lg k : Nat) : Lone (newRep id lg) lg id k := ⟨rfl, rfl, rfl, OwnOk.zero k⟩
variable {x : RepT} {lg k : Nat} {id : Int}
theorem Lone.more (h : Lone x lg id k) {m : Nat} (hm : k ≤ m) : Lone x lg id m := ⟨h.id, h.view, h.log, h.own.more hm⟩
theorem Lone.rep (h : Lone x lg id k) (v : Value) : Lone { x with replies := v } lg id k := ⟨h.id, h.view, h.log, h.own⟩
theorem Lone.book (h : Lone x lg id k) (b : BookT) : Lone { x with book := b } lg id k := ⟨h.id, h.view, h.log, h.own⟩
theorem Lone.kept (h : Lone x lg id k) (w ver : Int) : Lone (keptS x w ver) lg id k := by
  obtain ⟨h1, h2, h3, h4, _⟩ := keptS_own x w ver
  exact ⟨h2.trans h.id, h3.trans h.view, h4.trans h.log, by rw [h1]; exact h.own⟩
theorem Lone.keep (h : Lone x lg id k) : Lone (keepX x id) lg id k := (h.kept _ _).kept _ _
theorem Lone.client (h : Lone x lg id k) (hk : k ≤ 1000000) (o : OpT) : Lone (clientX x o) lg id (k + 1) := by
  unfold clientX
  split
  · exact ⟨h.id, h.view, h.log, h.own.more (Nat.le_succ _)⟩
  · exact ⟨h.id, h.view, h.log, OwnOk.plan (x := opsF x) h.own hk o⟩
theorem Lone.alone (h : Lone x lg id k) : Alone x := alone_first h.view
theorem Lone.wf (h : Lone x lg id k) (hk : k ≤ 1000000) : WF x.own.flat := (h.own.tame hk).wf
theorem Lone.mach (h : Lone x lg id k) (hm : machB id = true) : machB x.id = true := by rw [h.id]; exact hm
theorem Lone.room (h : Lone x lg id k) (hk : k ≤ 1000000) (o : OpT) : piecesN (encR (rowRec (cN x o).1)).length ≤ 7 := (OwnOk.plan (x := opsF x) h.own hk o).len
theorem tellL_len (x : RepT) : (tellL x).length ≤ 2 := by
  unfold tellL
  rw [List.length_map]
  refine Nat.le_trans (List.length_filter_le _ _) ?_
  unfold witL
  split <;> simp
theorem clientO_len (x : RepT) (o : OpT) : (clientO x o).length ≤ 2 := by
  unfold clientO
  split
  · decide
  · exact tellL_len _
theorem clientR_len (x : RepT) (o : OpT) (rs : List ReplyT) : (clientR x o rs).length ≤ rs.length + 1 := by
  unfold clientR
  split <;> simp
theorem clientC_size {recs : List (List UInt8)} (h : Lone x lg id k) (hk : k ≤ 1000000) (o : OpT) : sizeS (clientC x o recs) ≤ sizeS recs + 7 := by
  unfold clientC
  split
  · omega
  · rw [sizeS_add]; have := h.room hk o; omega
theorem keepR_len (x : RepT) (id : Int) (rs : List ReplyT) : (keepR x id rs).length ≤ rs.length + 2 := by
  have h1 := keptR_len x ((id + 1) % 5) x.own.version rs
  have h2 := keptR_len (keptS x ((id + 1) % 5) x.own.version) ((id + 2) % 5) x.own.version (keptR x ((id + 1) % 5) x.own.version rs)
  unfold keepR
  omega
theorem keepO_len (x : RepT) (id : Int) : (keepO x id).length ≤ 10 := by
  have h1 := keptO_len x ((id + 1) % 5) x.own.version
  have h2 := keptO_len (keptS x ((id + 1) % 5) x.own.version) ((id + 2) % 5) x.own.version
  unfold keepO
  rw [List.length_append]
  omega
end Api
namespace Api
open Go Leg Codec Dsk Wal
theorem clientX_rep (y : RepT) (v : Value) (o : OpT) : clientX { y with replies := v } o = { clientX y o with replies := v } := by
  unfold clientX
  rw [show doneB { y with replies := v } o = doneB y o from rfl]
  split <;> rfl
theorem keepX_rep (y : RepT) (v : Value) (id : Int) : keepX { y with replies := v } id = { keepX y id with replies := v } := by
  show keptS (keptS { y with replies := v } ((id + 1) % 5) y.own.version) ((id + 2) % 5) y.own.version = _
  rw [keptS_rep y v, keptS_rep (keptS y ((id + 1) % 5) y.own.version) v]
  rfl
theorem keepR_rep (y : RepT) (v : Value) (id : Int) (rs : List ReplyT) : keepR { y with replies := v } id rs = keepR y id rs := by
  show keptR (keptS { y with replies := v } ((id + 1) % 5) y.own.version) ((id + 2) % 5) y.own.version (keptR { y with replies := v } ((id + 1) % 5) y.own.version rs) = _
  rw [keptS_rep y v]
  rfl
theorem keepO_rep (y : RepT) (v : Value) (id : Int) : keepO { y with replies := v } id = keepO y id := by
  show keptO { y with replies := v } ((id + 1) % 5) y.own.version ++ keptO (keptS { y with replies := v } ((id + 1) % 5) y.own.version) ((id + 2) % 5) y.own.version = _
  rw [keptS_rep y v]
  rfl
end Api
namespace Api
open Go Leg Codec Dsk Wal
def ER (us : List Value) (x : RowT) (_ : Hl) : Prop := us = ints x.flat ∧ WF x.flat
def EA (us : List Value) (x : List Int) (_ : Hl) : Prop := us = ints x ∧ x.length = 4
end Api
end

section
namespace Go.Proofs.YtfceaphohlbnbaaGreat

open Go Leg Codec Api Dsk Wal

set_option linter.unusedSimpArgs false
set_option linter.unusedVariables false

set_option maxRecDepth 100000

set_option maxHeartbeats 8000000

theorem dkNew_does : Does Tryz.prog 11 #[] (fun _ => True) [] (Ret (fun r' H => ∃ d, r' = .pointer (some ⟨d, 0, none⟩) ∧ H = [dkL d []])) :=
  Does.fold dk_new fun e H hp => by
    cases e with
    | returned v => obtain ⟨d, rfl, rfl⟩ := hp; exact ⟨_, fun _ s => sep_close (p := fun D : { D : DS // LogD D [] ∧ D.dn = false ∧ D.ar = false } => [dk d D.1]) ⟨DS.new, LogD.new, rfl, rfl⟩ s, d, rfl, rfl⟩
    | panicked c => exact hp.elim
    | outgrown => exact hp.elim

theorem clientL_does (r ob lg d : Nat) (y : RepT) (rv : Value) (o : OpT) (recs : List (List UInt8)) (rs : List ReplyT) (l : List SaidT) {id : Int} {k : Nat} (h : Lone y lg id k) (hm : machB id = true) (hk : k ≤ 1000000) (hroom : sizeS recs + 7 ≤ 2048) (hl : l.length ≤ 900000) (hrs : rs.length ≤ 1000000) (hkind : memb firstV id = true → o.kind ≠ 4) :
  Does Tryz.prog 12 #[.pointer (some ⟨r, 0, none⟩), .iface 34 (.pointer (some ⟨ob, 0, none⟩)), .agg (ints o.flat).toArray] (fun _ => True) [blkA r (RepT.cells { y with replies := rv }) 104, lgL lg d (recs), dkL d (recs), own rv (rs).length (ints (List.flatMap ReplyT.flat (rs))) 92 3, outP ob (l)] (Ret (fun r' H => r' = .int .i64 (cN y o).2.2 ∧ ∃ v', v'.oneCell' = true ∧ H = [blkA r (RepT.cells { clientX y o with replies := v' }) 104, lgL lg d (clientC y o recs), dkL d (clientC y o recs), own v' (clientR y o rs).length (ints (List.flatMap ReplyT.flat (clientR y o rs))) 92 3, outP ob (l ++ clientO y o)])) := by
  have := client_does r ob lg d { y with replies := rv } o recs rs l h.log (fun _ _ => by have := (h.rep rv).room hk o; omega) hl hrs (h.mach hm) (by show memb y.view y.id = true → _; rw [h.view, h.id]; exact hkind)
  rw [clientX_rep] at this
  exact this

theorem take1L_does (r ob lg : Nat) (y : RepT) (rv : Value) (from' : Int) (m : MsgT) (ver : Int) (rs : List ReplyT) (l : List SaidT) {id : Int} {k : Nat} (h : Lone y lg id k) (hm : machB id = true) (hk : k ≤ 1000000) (hkind : m.kind = 1) (hver : m.version = ver) (hl : l.length ≤ 900000) (hrs : rs.length ≤ 1000000) :
  Does Tryz.prog 13 #[.pointer (some ⟨r, 0, none⟩), .iface 34 (.pointer (some ⟨ob, 0, none⟩)), .int .i64 from', .agg (ints m.flat).toArray] (fun _ => True) [blkA r (RepT.cells { y with replies := rv }) 104, own rv (rs).length (ints (List.flatMap ReplyT.flat (rs))) 92 3, outP ob (l)] (Ret (fun _ H => ∃ v', v'.oneCell' = true ∧ H = [blkA r (RepT.cells { keptS y from' ver with replies := v' }) 104, own v' (keptR y from' ver rs).length (ints (List.flatMap ReplyT.flat (keptR y from' ver rs))) 92 3, outP ob (l ++ keptO y from' ver)])) := by
  have := take1_does r ob { y with replies := rv } from' m rs l hkind (h.mach hm) (h.wf hk) (h.rep rv).alone hl hrs
  rw [keptS_rep, hver] at this
  exact this

theorem rBusyL_does (r : Nat) (y : RepT) (rv : Value) : Does Tryz.prog 14 #[.pointer (some ⟨r, 0, none⟩)] (fun _ => True) [blkA r (RepT.cells { y with replies := rv }) 104] (Ret (fun r' H => r' = .bool y.busy ∧ H = [blkA r (RepT.cells { y with replies := rv }) 104])) := rBusy_does r { y with replies := rv }

theorem rOwnL_does (r : Nat) (y : RepT) (rv : Value) : Does Tryz.prog 18 #[.pointer (some ⟨r, 0, none⟩)] (fun _ => True) [blkA r (RepT.cells { y with replies := rv }) 104] (Ret (fun r' H => r' = .agg (ints y.own.flat).toArray ∧ H = [blkA r (RepT.cells { y with replies := rv }) 104])) := rOwn_does r { y with replies := rv }

theorem rValueL_does (r : Nat) (y : RepT) (rv : Value) (key : Int) : Does Tryz.prog 16 #[.pointer (some ⟨r, 0, none⟩), .int .i64 key] (fun _ => True) [blkA r (RepT.cells { y with replies := rv }) 104] (Ret (fun r' H => r' = .int .i64 (bookValue y.book key) ∧ H = [blkA r (RepT.cells { y with replies := rv }) 104])) := rValue_does r { y with replies := rv } key

theorem keep_does (r ob lg : Nat) (x : RepT) (id : Int) (rs : List ReplyT) (l : List SaidT) {k : Nat} (h : Lone x lg id k) (hm : machB id = true) (hk : k ≤ 1000000) (hl : l.length ≤ 800000) (hrs : rs.length ≤ 900000) :
    Does Tryz.prog 17 #[(.pointer (some ⟨r, 0, none⟩)), (.int .i64 (id)), (.pointer (some ⟨ob, 0, none⟩))] (fun _ => True) [blkA r (RepT.cells x) 104, own x.replies ((rs).length) (ints (List.flatMap ReplyT.flat (rs))) 92 3, outP ob (l)] (Ret (fun _ H => ∃ v', v'.oneCell' = true ∧ H = [blkA r (RepT.cells { keepX x id with replies := v' }) 104, own v' (keepR x id rs).length (ints (List.flatMap ReplyT.flat (keepR x id rs))) 92 3, outP ob (l ++ keepO x id)])) := by
 refine Does.body (vs := [(.pointer (some ⟨r, 0, none⟩)), (.int .i64 (id)), (.pointer (some ⟨ob, 0, none⟩))]) (n := 25) Tryz.func17 rfl rfl rfl (fun w0 F hF => ?_)
 refine sr fun _ J1 => ?_
 refine mv ?_
 refine TL.callR (A := []) (Want.plain rfl) rfl rfl rfl nm49 rfl (wit2_does id hm) (fun _ s => s) (fun _ _ _ => trivial) (fun vR HR hR => ?_)
 obtain ⟨_, rfl, rfl⟩ := hR
 revert vR
 intro uw
 change TL _ _ _ _ _ _ _ _ _ [own uw (2) ([.int .i64 ((id + 1) % 5), .int .i64 ((id + 2) % 5)]) 3 1, blkA r (RepT.cells x) 104, own x.replies ((rs).length) (ints (List.flatMap ReplyT.flat (rs))) 92 3, outP ob (l)]
 refine TL.ownLen 0 rfl rfl (fun hluw _ => ?_)
 refine TL.ownAt 0 rfl rfl (by omega) (fun gw capw hvw hcapw => ?_)
 refine tp (PV.lenV rfl Tryz.underlying74 rfl hluw) ?_
 refine mv ?_
 refine nx J1 ?_
 refine TC.block ?_
 refine TC.unroll 2 ?_
 refine sr fun _ J2 => ?_
 refine tp (PV.lss rfl rfl rfl) ?_
 refine nx J2 ?_
 refine TC.seq fun _ J3 => ?_
 refine TC.yes rfl ?_
 refine TC.skip ?_
 refine TE.next J3 ?_
 refine TC.seq fun _ J4 => ?_
 refine TC.block ?_
 refine sr fun _ J5 => ?_
 refine tp (PV.indexSlV (r := 0) hvw rfl Tryz.underlying74 sz3 rfl rfl (by omega) (by omega) rfl) ?_
 refine tp (PV.load1X (v := (.int .i64 (((id + 1) % 5)))) rfl Tryz.underlying3 rfl rfl (RdX.own 0 rfl hvw rfl) rfl) ?_
 refine sg' ?_
 refine nx J5 ?_
 refine TC.region ?_
 refine mv ?_
 refine mv ?_
 refine tp (PV.mkIface rfl Tryz.underlying34 rfl rfl) ?_
 refine mv ?_
 refine mv ?_
 refine TL.callR (A := [blkA r (RepT.cells x) 104]) (Want.plain rfl) rfl rfl rfl nm18 rfl (rOwn_does r x) (fun _ s => sep_selR [1] rfl s) (fun _ _ _ => trivial) (fun vR HR hR => ?_)
 obtain ⟨hv, rfl⟩ := hR
 subst hv
 change TL _ _ _ _ _ _ _ _ _ [blkA r (RepT.cells x) 104, own uw (2) ([.int .i64 ((id + 1) % 5), .int .i64 ((id + 2) % 5)]) 3 1, own x.replies ((rs).length) (ints (List.flatMap ReplyT.flat (rs))) 92 3, outP ob (l)]
 refine tp (PV.field1 (cs := ints x.own.flat) (v := Value.int .i64 x.own.version) rfl Tryz.underlying48 rfl Tryz.underlying3 rfl rfl (RowT.at_version x.own rfl)) ?_
 refine tp (PV.buildSegs (cs := ints (MsgT.mk 1 0 RowT.zero x.own.version 0 BallotT.zero BallotT.zero ChangeT.zero ViewT.zero).flat) (segs := [[Value.int .i64 0], [Value.int .i64 0], ints RowT.zero.flat, [Value.int .i64 0], [Value.int .i64 0], ints BallotT.zero.flat, ints BallotT.zero.flat, ints ChangeT.zero.flat, ints ViewT.zero.flat]) (res := [[Value.int .i64 1], [Value.int .i64 0], ints RowT.zero.flat, [Value.int .i64 x.own.version], [Value.int .i64 0], ints BallotT.zero.flat, ints BallotT.zero.flat, ints ChangeT.zero.flat, ints ViewT.zero.flat]) (parts := [(0, [Value.int .i64 1]), (3, [Value.int .i64 x.own.version])]) rfl rfl Tryz.underlying54 (by kernel_rfl) (by kernel_rfl) rfl (putSegs_step rfl ((rfl : [Value.int .i64 1].length = 1).trans (rfl : [Value.int .i64 0].length = 1).symm) (putSegs_step rfl ((rfl : [Value.int .i64 x.own.version].length = 1).trans (rfl : [Value.int .i64 0].length = 1).symm) putSegs_nil)) (MsgT.eq (MsgT.mk 1 0 RowT.zero x.own.version 0 BallotT.zero BallotT.zero ChangeT.zero ViewT.zero)).symm) ?_
 refine TL.callR (A := [blkA r (RepT.cells x) 104, own x.replies ((rs).length) (ints (List.flatMap ReplyT.flat (rs))) 92 3, outP ob (l)]) (Want.plain rfl) rfl rfl rfl nm13 rfl (take1_does r ob x ((id + 1) % 5) (MsgT.mk 1 0 RowT.zero x.own.version 0 BallotT.zero BallotT.zero ChangeT.zero ViewT.zero) rs l rfl (h.mach hm) (h.wf hk) h.alone (by omega) (by omega)) (fun _ s => sep_selR [0, 1, 1] rfl s) (fun _ _ _ => trivial) (fun vR HR hR => ?_)
 obtain ⟨vk1, hvk1, rfl⟩ := hR
 change TL _ _ _ _ _ _ _ _ _ [blkA r (RepT.cells ({ keptS x ((id + 1) % 5) x.own.version with replies := vk1 })) 104, own vk1 ((keptR x ((id + 1) % 5) x.own.version rs).length) (ints (List.flatMap ReplyT.flat (keptR x ((id + 1) % 5) x.own.version rs))) 92 3, outP ob (l ++ keptO x ((id + 1) % 5) x.own.version), own uw (2) ([.int .i64 ((id + 1) % 5), .int .i64 ((id + 2) % 5)]) 3 1]
 have hL1 := (h.kept ((id + 1) % 5) x.own.version).rep vk1
 refine TL.nil ?_
 refine TE.blockEnd ?_
 refine TE.next J4 ?_
 refine TC.region ?_
 refine tp (PV.add (r := 1) rfl rfl rfl (by decide)) ?_
 refine mv ?_
 refine TL.nil ?_
 refine TE.again ?_
 refine sr fun _ J6 => ?_
 refine tp (PV.lss rfl rfl rfl) ?_
 refine nx J6 ?_
 refine TC.seq fun _ J7 => ?_
 refine TC.yes rfl ?_
 refine TC.skip ?_
 refine TE.next J7 ?_
 refine TC.seq fun _ J8 => ?_
 refine TC.block ?_
 refine sr fun _ J9 => ?_
 refine tp (PV.indexSlV (r := 1) hvw rfl Tryz.underlying74 sz3 rfl rfl (by omega) (by omega) rfl) ?_
 refine tp (PV.load1X (v := (.int .i64 (((id + 2) % 5)))) rfl Tryz.underlying3 rfl rfl (RdX.own 3 rfl hvw rfl) rfl) ?_
 refine sg' ?_
 refine nx J9 ?_
 refine TC.region ?_
 refine mv ?_
 refine mv ?_
 refine tp (PV.mkIface rfl Tryz.underlying34 rfl rfl) ?_
 refine mv ?_
 refine mv ?_
 refine TL.callR (A := [blkA r (RepT.cells ({ keptS x ((id + 1) % 5) x.own.version with replies := vk1 })) 104]) (Want.plain rfl) rfl rfl rfl nm18 rfl (rOwn_does r ({ keptS x ((id + 1) % 5) x.own.version with replies := vk1 })) (fun _ s => s) (fun _ _ _ => trivial) (fun vR HR hR => ?_)
 obtain ⟨hv, rfl⟩ := hR
 rw [show (({ keptS x ((id + 1) % 5) x.own.version with replies := vk1 }) : RepT).own = x.own from (keptS_own x _ _).1] at hv
 subst hv
 change TL _ _ _ _ _ _ _ _ _ [blkA r (RepT.cells ({ keptS x ((id + 1) % 5) x.own.version with replies := vk1 })) 104, own vk1 ((keptR x ((id + 1) % 5) x.own.version rs).length) (ints (List.flatMap ReplyT.flat (keptR x ((id + 1) % 5) x.own.version rs))) 92 3, outP ob (l ++ keptO x ((id + 1) % 5) x.own.version), own uw (2) ([.int .i64 ((id + 1) % 5), .int .i64 ((id + 2) % 5)]) 3 1]
 refine tp (PV.field1 (cs := ints x.own.flat) (v := Value.int .i64 x.own.version) rfl Tryz.underlying48 rfl Tryz.underlying3 rfl rfl (RowT.at_version x.own rfl)) ?_
 refine tp (PV.buildSegs (cs := ints (MsgT.mk 1 0 RowT.zero x.own.version 0 BallotT.zero BallotT.zero ChangeT.zero ViewT.zero).flat) (segs := [[Value.int .i64 0], [Value.int .i64 0], ints RowT.zero.flat, [Value.int .i64 0], [Value.int .i64 0], ints BallotT.zero.flat, ints BallotT.zero.flat, ints ChangeT.zero.flat, ints ViewT.zero.flat]) (res := [[Value.int .i64 1], [Value.int .i64 0], ints RowT.zero.flat, [Value.int .i64 x.own.version], [Value.int .i64 0], ints BallotT.zero.flat, ints BallotT.zero.flat, ints ChangeT.zero.flat, ints ViewT.zero.flat]) (parts := [(0, [Value.int .i64 1]), (3, [Value.int .i64 x.own.version])]) rfl rfl Tryz.underlying54 (by kernel_rfl) (by kernel_rfl) rfl (putSegs_step rfl ((rfl : [Value.int .i64 1].length = 1).trans (rfl : [Value.int .i64 0].length = 1).symm) (putSegs_step rfl ((rfl : [Value.int .i64 x.own.version].length = 1).trans (rfl : [Value.int .i64 0].length = 1).symm) putSegs_nil)) (MsgT.eq (MsgT.mk 1 0 RowT.zero x.own.version 0 BallotT.zero BallotT.zero ChangeT.zero ViewT.zero)).symm) ?_
 have hk1 := keptO_len x ((id + 1) % 5) x.own.version
 have hk2 := keptR_len x ((id + 1) % 5) x.own.version rs
 refine TL.callR (A := [blkA r (RepT.cells ({ keptS x ((id + 1) % 5) x.own.version with replies := vk1 })) 104, own vk1 ((keptR x ((id + 1) % 5) x.own.version rs).length) (ints (List.flatMap ReplyT.flat (keptR x ((id + 1) % 5) x.own.version rs))) 92 3, outP ob (l ++ keptO x ((id + 1) % 5) x.own.version)]) (Want.plain rfl) rfl rfl rfl nm13 rfl (take1_does r ob ({ keptS x ((id + 1) % 5) x.own.version with replies := vk1 }) ((id + 2) % 5) (MsgT.mk 1 0 RowT.zero x.own.version 0 BallotT.zero BallotT.zero ChangeT.zero ViewT.zero) (keptR x ((id + 1) % 5) x.own.version rs) (l ++ keptO x ((id + 1) % 5) x.own.version) rfl (hL1.mach hm) (hL1.wf hk) hL1.alone (by rw [List.length_append]; omega) (by omega)) (fun _ s => s) (fun _ _ _ => trivial) (fun vR HR hR => ?_)
 obtain ⟨vk2, hvk2, hH⟩ := hR
 rw [keptS_rep, keptR_rep, keptO_rep, List.append_assoc] at hH
 subst hH
 change TL _ _ _ _ _ _ _ _ _ [blkA r (RepT.cells ({ keepX x id with replies := vk2 })) 104, own vk2 ((keepR x id rs).length) (ints (List.flatMap ReplyT.flat (keepR x id rs))) 92 3, outP ob (l ++ keepO x id), own uw (2) ([.int .i64 ((id + 1) % 5), .int .i64 ((id + 2) % 5)]) 3 1]
 refine TL.nil ?_
 refine TE.blockEnd ?_
 refine TE.next J8 ?_
 refine TC.region ?_
 refine tp (PV.add (r := 2) rfl rfl rfl (by decide)) ?_
 refine mv ?_
 refine TL.nil ?_
 refine TE.again ?_
 refine sr fun _ J10 => ?_
 refine tp (PV.lss rfl rfl rfl) ?_
 refine nx J10 ?_
 refine TC.seq fun _ J11 => ?_
 refine TC.no rfl ?_
 refine TC.exit ?_
 refine TE.pass ?_
 refine TE.pass ?_
 refine TE.hit ?_
 refine TE.weak (Sub.refl _) (fun _ s => sep_keep [0, 0, 0] rfl s) ?_
 refine TE.end0 rfl ?_
 exact ⟨vk2, hvk2, rfl⟩
theorem keepL_does (r ob lg : Nat) (y : RepT) (rv : Value) (id : Int) (rs : List ReplyT) (l : List SaidT) {k : Nat} (h : Lone y lg id k) (hm : machB id = true) (hk : k ≤ 1000000) (hl : l.length ≤ 800000) (hrs : rs.length ≤ 900000) :
  Does Tryz.prog 17 #[.pointer (some ⟨r, 0, none⟩), .int .i64 id, .pointer (some ⟨ob, 0, none⟩)] (fun _ => True) [blkA r (RepT.cells { y with replies := rv }) 104, own rv (rs).length (ints (List.flatMap ReplyT.flat (rs))) 92 3, outP ob (l)] (Ret (fun _ H => ∃ v', v'.oneCell' = true ∧ H = [blkA r (RepT.cells { keepX y id with replies := v' }) 104, own v' (keepR y id rs).length (ints (List.flatMap ReplyT.flat (keepR y id rs))) 92 3, outP ob (l ++ keepO y id)])) := by
  have := keep_does r ob lg { y with replies := rv } id rs l (h.rep rv) hm hk hl hrs
  rw [keepX_rep, keepR_rep, keepO_rep] at this
  exact this

end Go.Proofs.YtfceaphohlbnbaaGreat
end

section
namespace Go.Proofs.YtfceaphohlbnbaaGreat

open Go Leg Codec Api Dsk Wal

set_option linter.unusedSimpArgs false
set_option linter.unusedVariables false

set_option maxRecDepth 100000

set_option maxHeartbeats 8000000

theorem fit_does  :
    Does Tryz.prog 9 #[] (fun _ => True) [] (Ret (fun r' H => r' = .bool true ∧ H = [])) := by
 refine Does.body (vs := []) (n := 67) Tryz.func9 rfl rfl rfl (fun w0 F hF => ?_)
 refine sr fun _ J1 => ?_
 refine sg' ?_
 refine nx J1 ?_
 refine sr fun _ J2 => ?_
 refine TL.callR (A := []) (Want.plain rfl) rfl rfl rfl nm11 rfl (dkNew_does) (fun _ s => s) (fun _ _ _ => trivial) (fun vR HR hR => ?_)
 obtain ⟨d, rfl, rfl⟩ := hR
 change TL _ _ _ _ _ _ _ _ _ [dkL d ([])]
 refine sg' ?_
 refine nx J2 ?_
 refine TC.seq fun _ J3 => ?_
 refine sr fun _ J4 => ?_
 refine mv ?_
 refine tp (PV.ptrNil rfl Tryz.underlying28 rfl rfl) ?_
 refine nx J4 ?_
 refine TC.no rfl ?_
 refine TC.skip ?_
 refine TE.next J3 ?_
 refine sr fun _ J5 => ?_
 refine mv ?_
 refine TL.callR (A := [dkL d ([])]) (Want.plain rfl) rfl rfl rfl nm10 rfl (start0_does 0 d) (fun _ s => s) (fun _ _ _ => trivial) (fun vR HR hR => ?_)
 obtain ⟨r, lg, rfl, rfl⟩ := hR
 change TL _ _ _ _ _ _ _ _ _ [blkA r (RepT.cells ({ newRep 0 lg with replies := (.slice none 0 0) })) 104, lgP lg d ((([]).length : Nat) : Int) ((sizeS ([]) : Nat) : Int), dkL d ([])]
 have hL0 := Lone.new 0 lg 0
 have hrn : ([] : List ReplyT).length = 0 := rfl
 refine TL.ownNilI 92 3 (fun _ => ?_)
 change TL _ _ _ _ _ _ _ _ _ [own (.slice none 0 0) ((([] : List ReplyT)).length) (ints (List.flatMap ReplyT.flat (([] : List ReplyT)))) 92 3, blkA r (RepT.cells ({ newRep 0 lg with replies := (.slice none 0 0) })) 104, lgP lg d ((([]).length : Nat) : Int) ((sizeS ([]) : Nat) : Int), dkL d ([])]
 refine mv ?_
 refine tp (PV.extract (vs := [(.pointer (some ⟨r, 0, none⟩)), (.int .i64 0)]) rfl rfl rfl) ?_
 refine tp (PV.extract (vs := [(.pointer (some ⟨r, 0, none⟩)), (.int .i64 0)]) rfl rfl rfl) ?_
 refine sg' ?_
 refine sg' ?_
 refine nx J5 ?_
 refine TC.seq fun _ J6 => ?_
 refine sr fun _ J7 => ?_
 refine mv ?_
 refine tp (PV.neq rfl rfl rfl) ?_
 refine mv ?_
 refine tq (PV.move rfl rfl) ?_
 refine tq (PV.ptrNil rfl Tryz.underlying24 rfl rfl) ?_
 refine tp (PV.pick rfl rfl rfl) ?_
 refine nx J7 ?_
 refine TC.no rfl ?_
 refine TC.skip ?_
 refine TE.next J6 ?_
 refine sr fun _ J8 => ?_
 refine TL.alloc (Want.plain rfl) rfl rfl rfl z32 (fun b4 => ?_)
 change TL _ _ _ _ _ _ _ _ _ [blkA b4 [(.slice none 0 0)] 32, own (.slice none 0 0) ((([] : List ReplyT)).length) (ints (List.flatMap ReplyT.flat (([] : List ReplyT)))) 92 3, blkA r (RepT.cells ({ newRep 0 lg with replies := (.slice none 0 0) })) 104, lgP lg d ((([]).length : Nat) : Int) ((sizeS ([]) : Nat) : Int), dkL d ([])]
 refine nx J8 ?_
 refine sr fun _ J9 => ?_
 refine outNew ?_
 change TL _ _ _ _ _ _ _ _ _ [outP b4 ([]), own (.slice none 0 0) ((([] : List ReplyT)).length) (ints (List.flatMap ReplyT.flat (([] : List ReplyT)))) 92 3, blkA r (RepT.cells ({ newRep 0 lg with replies := (.slice none 0 0) })) 104, lgP lg d ((([]).length : Nat) : Int) ((sizeS ([]) : Nat) : Int), dkL d ([])]
 refine mv ?_
 refine tp (PV.mkIface rfl Tryz.underlying34 rfl rfl) ?_
 refine tp (PV.buildSegs (cs := ints (OpT.mk 0 0 0 0 5 ChangeT.zero 0 0 0).flat) (segs := [[Value.int .i64 0], [Value.int .i64 0], [Value.int .i64 0], [Value.int .i64 0], [Value.int .i64 0], ints ChangeT.zero.flat, [Value.int .i64 0], [Value.int .i64 0], [Value.int .i64 0]]) (res := [[Value.int .i64 0], [Value.int .i64 0], [Value.int .i64 0], [Value.int .i64 0], [Value.int .i64 5], ints ChangeT.zero.flat, [Value.int .i64 0], [Value.int .i64 0], [Value.int .i64 0]]) (parts := [(0, [Value.int .i64 0]), (4, [Value.int .i64 5])]) rfl rfl Tryz.underlying38 (by kernel_rfl) (by kernel_rfl) rfl (putSegs_step rfl ((rfl : [Value.int .i64 0].length = 1).trans (rfl : [Value.int .i64 0].length = 1).symm) (putSegs_step rfl ((rfl : [Value.int .i64 5].length = 1).trans (rfl : [Value.int .i64 0].length = 1).symm) putSegs_nil)) (OpT.eq (OpT.mk 0 0 0 0 5 ChangeT.zero 0 0 0)).symm) ?_
 refine TL.callR (A := [blkA r (RepT.cells ({ newRep 0 lg with replies := (.slice none 0 0) })) 104, lgP lg d ((([]).length : Nat) : Int) ((sizeS ([]) : Nat) : Int), dkL d ([]), own (.slice none 0 0) ((([] : List ReplyT)).length) (ints (List.flatMap ReplyT.flat (([] : List ReplyT)))) 92 3, outP b4 ([])]) (Want.plain rfl) rfl rfl rfl nm12 rfl (clientL_does r b4 lg d (newRep 0 lg) (.slice none 0 0) (OpT.mk 0 0 0 0 5 ChangeT.zero 0 0 0) ([]) (([] : List ReplyT)) ([]) hL0 (by decide) (by omega) (by decide) (by decide) (by omega) (fun _ => by decide)) (fun _ s => sep_selR [2, 2, 2, 1, 0] rfl s) (fun _ _ _ => trivial) (fun vR HR hR => ?_)
 obtain ⟨hvvc1, vc1, hvc1, rfl⟩ := hR
 rw [show (cN (newRep 0 lg) (OpT.mk 0 0 0 0 5 ChangeT.zero 0 0 0)).2.2 = 0 from by kernel_rfl] at hvvc1
 subst hvvc1
 change TL _ _ _ _ _ _ _ _ _ [blkA r (RepT.cells ({ clientX (newRep 0 lg) (OpT.mk 0 0 0 0 5 ChangeT.zero 0 0 0) with replies := vc1 })) 104, lgP lg d (((clientC (newRep 0 lg) (OpT.mk 0 0 0 0 5 ChangeT.zero 0 0 0) ([])).length : Nat) : Int) ((sizeS (clientC (newRep 0 lg) (OpT.mk 0 0 0 0 5 ChangeT.zero 0 0 0) ([])) : Nat) : Int), dkL d (clientC (newRep 0 lg) (OpT.mk 0 0 0 0 5 ChangeT.zero 0 0 0) ([])), own vc1 ((clientR (newRep 0 lg) (OpT.mk 0 0 0 0 5 ChangeT.zero 0 0 0) (([] : List ReplyT))).length) (ints (List.flatMap ReplyT.flat (clientR (newRep 0 lg) (OpT.mk 0 0 0 0 5 ChangeT.zero 0 0 0) (([] : List ReplyT))))) 92 3, outP b4 ([] ++ clientO (newRep 0 lg) (OpT.mk 0 0 0 0 5 ChangeT.zero 0 0 0))]
 have hLvc1 := hL0.client (by omega) (OpT.mk 0 0 0 0 5 ChangeT.zero 0 0 0)
 have hovc1 := clientO_len (newRep 0 lg) (OpT.mk 0 0 0 0 5 ChangeT.zero 0 0 0)
 have hrvc1 := clientR_len (newRep 0 lg) (OpT.mk 0 0 0 0 5 ChangeT.zero 0 0 0) (([] : List ReplyT))
 have hsvc1 := clientC_size (recs := []) hL0 (by omega) (OpT.mk 0 0 0 0 5 ChangeT.zero 0 0 0)
 refine sg' ?_
 refine nx J9 ?_
 refine sr fun _ J10 => ?_
 refine mv ?_
 refine TL.callR (A := [blkA r (RepT.cells ({ clientX (newRep 0 lg) (OpT.mk 0 0 0 0 5 ChangeT.zero 0 0 0) with replies := vc1 })) 104]) (Want.plain rfl) rfl rfl rfl nm14 rfl (rBusyL_does r (clientX (newRep 0 lg) (OpT.mk 0 0 0 0 5 ChangeT.zero 0 0 0)) vc1 ) (fun _ s => s) (fun _ _ _ => trivial) (fun vR HR hR => ?_)
 obtain ⟨hv, rfl⟩ := hR
 rw [show (clientX (newRep 0 lg) (OpT.mk 0 0 0 0 5 ChangeT.zero 0 0 0)).busy = true from by kernel_rfl] at hv
 subst hv
 change TL _ _ _ _ _ _ _ _ _ [blkA r (RepT.cells ({ clientX (newRep 0 lg) (OpT.mk 0 0 0 0 5 ChangeT.zero 0 0 0) with replies := vc1 })) 104, lgP lg d (((clientC (newRep 0 lg) (OpT.mk 0 0 0 0 5 ChangeT.zero 0 0 0) ([])).length : Nat) : Int) ((sizeS (clientC (newRep 0 lg) (OpT.mk 0 0 0 0 5 ChangeT.zero 0 0 0) ([])) : Nat) : Int), dkL d (clientC (newRep 0 lg) (OpT.mk 0 0 0 0 5 ChangeT.zero 0 0 0) ([])), own vc1 ((clientR (newRep 0 lg) (OpT.mk 0 0 0 0 5 ChangeT.zero 0 0 0) (([] : List ReplyT))).length) (ints (List.flatMap ReplyT.flat (clientR (newRep 0 lg) (OpT.mk 0 0 0 0 5 ChangeT.zero 0 0 0) (([] : List ReplyT))))) 92 3, outP b4 ([] ++ clientO (newRep 0 lg) (OpT.mk 0 0 0 0 5 ChangeT.zero 0 0 0))]
 refine sg' ?_
 refine nx J10 ?_
 refine sr fun _ J11 => ?_
 refine mv ?_
 refine tp (PV.mkIface rfl Tryz.underlying34 rfl rfl) ?_
 refine tp (PV.buildSegs (cs := ints (MsgT.mk 1 0 RowT.zero 1 0 BallotT.zero BallotT.zero ChangeT.zero ViewT.zero).flat) (segs := [[Value.int .i64 0], [Value.int .i64 0], ints RowT.zero.flat, [Value.int .i64 0], [Value.int .i64 0], ints BallotT.zero.flat, ints BallotT.zero.flat, ints ChangeT.zero.flat, ints ViewT.zero.flat]) (res := [[Value.int .i64 1], [Value.int .i64 0], ints RowT.zero.flat, [Value.int .i64 1], [Value.int .i64 0], ints BallotT.zero.flat, ints BallotT.zero.flat, ints ChangeT.zero.flat, ints ViewT.zero.flat]) (parts := [(0, [Value.int .i64 1]), (3, [Value.int .i64 1])]) rfl rfl Tryz.underlying54 (by kernel_rfl) (by kernel_rfl) rfl (putSegs_step rfl ((rfl : [Value.int .i64 1].length = 1).trans (rfl : [Value.int .i64 0].length = 1).symm) (putSegs_step rfl ((rfl : [Value.int .i64 1].length = 1).trans (rfl : [Value.int .i64 0].length = 1).symm) putSegs_nil)) (MsgT.eq (MsgT.mk 1 0 RowT.zero 1 0 BallotT.zero BallotT.zero ChangeT.zero ViewT.zero)).symm) ?_
 refine TL.callR (A := [blkA r (RepT.cells ({ clientX (newRep 0 lg) (OpT.mk 0 0 0 0 5 ChangeT.zero 0 0 0) with replies := vc1 })) 104, own vc1 ((clientR (newRep 0 lg) (OpT.mk 0 0 0 0 5 ChangeT.zero 0 0 0) (([] : List ReplyT))).length) (ints (List.flatMap ReplyT.flat (clientR (newRep 0 lg) (OpT.mk 0 0 0 0 5 ChangeT.zero 0 0 0) (([] : List ReplyT))))) 92 3, outP b4 ([] ++ clientO (newRep 0 lg) (OpT.mk 0 0 0 0 5 ChangeT.zero 0 0 0))]) (Want.plain rfl) rfl rfl rfl nm13 rfl (take1L_does r b4 lg (clientX (newRep 0 lg) (OpT.mk 0 0 0 0 5 ChangeT.zero 0 0 0)) vc1 1 (MsgT.mk 1 0 RowT.zero 1 0 BallotT.zero BallotT.zero ChangeT.zero ViewT.zero) 1 (clientR (newRep 0 lg) (OpT.mk 0 0 0 0 5 ChangeT.zero 0 0 0) (([] : List ReplyT))) ([] ++ clientO (newRep 0 lg) (OpT.mk 0 0 0 0 5 ChangeT.zero 0 0 0)) hLvc1 (by decide) (by omega) rfl rfl (by simp only [List.length_append, List.length_nil]; omega) (by omega)) (fun _ s => sep_selR [0, 2, 2] rfl s) (fun _ _ _ => trivial) (fun vR HR hR => ?_)
 obtain ⟨vk2, hvk2, rfl⟩ := hR
 change TL _ _ _ _ _ _ _ _ _ [blkA r (RepT.cells ({ keptS (clientX (newRep 0 lg) (OpT.mk 0 0 0 0 5 ChangeT.zero 0 0 0)) 1 1 with replies := vk2 })) 104, own vk2 ((keptR (clientX (newRep 0 lg) (OpT.mk 0 0 0 0 5 ChangeT.zero 0 0 0)) 1 1 (clientR (newRep 0 lg) (OpT.mk 0 0 0 0 5 ChangeT.zero 0 0 0) (([] : List ReplyT)))).length) (ints (List.flatMap ReplyT.flat (keptR (clientX (newRep 0 lg) (OpT.mk 0 0 0 0 5 ChangeT.zero 0 0 0)) 1 1 (clientR (newRep 0 lg) (OpT.mk 0 0 0 0 5 ChangeT.zero 0 0 0) (([] : List ReplyT)))))) 92 3, outP b4 ([] ++ clientO (newRep 0 lg) (OpT.mk 0 0 0 0 5 ChangeT.zero 0 0 0) ++ keptO (clientX (newRep 0 lg) (OpT.mk 0 0 0 0 5 ChangeT.zero 0 0 0)) 1 1), lgP lg d (((clientC (newRep 0 lg) (OpT.mk 0 0 0 0 5 ChangeT.zero 0 0 0) ([])).length : Nat) : Int) ((sizeS (clientC (newRep 0 lg) (OpT.mk 0 0 0 0 5 ChangeT.zero 0 0 0) ([])) : Nat) : Int), dkL d (clientC (newRep 0 lg) (OpT.mk 0 0 0 0 5 ChangeT.zero 0 0 0) ([]))]
 have hLvk2 := hLvc1.kept 1 1
 have hovk2 := keptO_len (clientX (newRep 0 lg) (OpT.mk 0 0 0 0 5 ChangeT.zero 0 0 0)) 1 1
 have hrvk2 := keptR_len (clientX (newRep 0 lg) (OpT.mk 0 0 0 0 5 ChangeT.zero 0 0 0)) 1 1 (clientR (newRep 0 lg) (OpT.mk 0 0 0 0 5 ChangeT.zero 0 0 0) (([] : List ReplyT)))
 refine nx J11 ?_
 refine sr fun _ J12 => ?_
 refine mv ?_
 refine TL.callR (A := [blkA r (RepT.cells ({ keptS (clientX (newRep 0 lg) (OpT.mk 0 0 0 0 5 ChangeT.zero 0 0 0)) 1 1 with replies := vk2 })) 104]) (Want.plain rfl) rfl rfl rfl nm14 rfl (rBusyL_does r (keptS (clientX (newRep 0 lg) (OpT.mk 0 0 0 0 5 ChangeT.zero 0 0 0)) 1 1) vk2 ) (fun _ s => s) (fun _ _ _ => trivial) (fun vR HR hR => ?_)
 obtain ⟨hv, rfl⟩ := hR
 rw [show (keptS (clientX (newRep 0 lg) (OpT.mk 0 0 0 0 5 ChangeT.zero 0 0 0)) 1 1).busy = true from by kernel_rfl] at hv
 subst hv
 change TL _ _ _ _ _ _ _ _ _ [blkA r (RepT.cells ({ keptS (clientX (newRep 0 lg) (OpT.mk 0 0 0 0 5 ChangeT.zero 0 0 0)) 1 1 with replies := vk2 })) 104, own vk2 ((keptR (clientX (newRep 0 lg) (OpT.mk 0 0 0 0 5 ChangeT.zero 0 0 0)) 1 1 (clientR (newRep 0 lg) (OpT.mk 0 0 0 0 5 ChangeT.zero 0 0 0) (([] : List ReplyT)))).length) (ints (List.flatMap ReplyT.flat (keptR (clientX (newRep 0 lg) (OpT.mk 0 0 0 0 5 ChangeT.zero 0 0 0)) 1 1 (clientR (newRep 0 lg) (OpT.mk 0 0 0 0 5 ChangeT.zero 0 0 0) (([] : List ReplyT)))))) 92 3, outP b4 ([] ++ clientO (newRep 0 lg) (OpT.mk 0 0 0 0 5 ChangeT.zero 0 0 0) ++ keptO (clientX (newRep 0 lg) (OpT.mk 0 0 0 0 5 ChangeT.zero 0 0 0)) 1 1), lgP lg d (((clientC (newRep 0 lg) (OpT.mk 0 0 0 0 5 ChangeT.zero 0 0 0) ([])).length : Nat) : Int) ((sizeS (clientC (newRep 0 lg) (OpT.mk 0 0 0 0 5 ChangeT.zero 0 0 0) ([])) : Nat) : Int), dkL d (clientC (newRep 0 lg) (OpT.mk 0 0 0 0 5 ChangeT.zero 0 0 0) ([]))]
 refine sg' ?_
 refine nx J12 ?_
 refine sr fun _ J13 => ?_
 refine mv ?_
 refine tp (PV.mkIface rfl Tryz.underlying34 rfl rfl) ?_
 refine tp (PV.buildSegs (cs := ints (MsgT.mk 1 0 RowT.zero 1 0 BallotT.zero BallotT.zero ChangeT.zero ViewT.zero).flat) (segs := [[Value.int .i64 0], [Value.int .i64 0], ints RowT.zero.flat, [Value.int .i64 0], [Value.int .i64 0], ints BallotT.zero.flat, ints BallotT.zero.flat, ints ChangeT.zero.flat, ints ViewT.zero.flat]) (res := [[Value.int .i64 1], [Value.int .i64 0], ints RowT.zero.flat, [Value.int .i64 1], [Value.int .i64 0], ints BallotT.zero.flat, ints BallotT.zero.flat, ints ChangeT.zero.flat, ints ViewT.zero.flat]) (parts := [(0, [Value.int .i64 1]), (3, [Value.int .i64 1])]) rfl rfl Tryz.underlying54 (by kernel_rfl) (by kernel_rfl) rfl (putSegs_step rfl ((rfl : [Value.int .i64 1].length = 1).trans (rfl : [Value.int .i64 0].length = 1).symm) (putSegs_step rfl ((rfl : [Value.int .i64 1].length = 1).trans (rfl : [Value.int .i64 0].length = 1).symm) putSegs_nil)) (MsgT.eq (MsgT.mk 1 0 RowT.zero 1 0 BallotT.zero BallotT.zero ChangeT.zero ViewT.zero)).symm) ?_
 refine TL.callR (A := [blkA r (RepT.cells ({ keptS (clientX (newRep 0 lg) (OpT.mk 0 0 0 0 5 ChangeT.zero 0 0 0)) 1 1 with replies := vk2 })) 104, own vk2 ((keptR (clientX (newRep 0 lg) (OpT.mk 0 0 0 0 5 ChangeT.zero 0 0 0)) 1 1 (clientR (newRep 0 lg) (OpT.mk 0 0 0 0 5 ChangeT.zero 0 0 0) (([] : List ReplyT)))).length) (ints (List.flatMap ReplyT.flat (keptR (clientX (newRep 0 lg) (OpT.mk 0 0 0 0 5 ChangeT.zero 0 0 0)) 1 1 (clientR (newRep 0 lg) (OpT.mk 0 0 0 0 5 ChangeT.zero 0 0 0) (([] : List ReplyT)))))) 92 3, outP b4 ([] ++ clientO (newRep 0 lg) (OpT.mk 0 0 0 0 5 ChangeT.zero 0 0 0) ++ keptO (clientX (newRep 0 lg) (OpT.mk 0 0 0 0 5 ChangeT.zero 0 0 0)) 1 1)]) (Want.plain rfl) rfl rfl rfl nm13 rfl (take1L_does r b4 lg (keptS (clientX (newRep 0 lg) (OpT.mk 0 0 0 0 5 ChangeT.zero 0 0 0)) 1 1) vk2 2 (MsgT.mk 1 0 RowT.zero 1 0 BallotT.zero BallotT.zero ChangeT.zero ViewT.zero) 1 (keptR (clientX (newRep 0 lg) (OpT.mk 0 0 0 0 5 ChangeT.zero 0 0 0)) 1 1 (clientR (newRep 0 lg) (OpT.mk 0 0 0 0 5 ChangeT.zero 0 0 0) (([] : List ReplyT)))) ([] ++ clientO (newRep 0 lg) (OpT.mk 0 0 0 0 5 ChangeT.zero 0 0 0) ++ keptO (clientX (newRep 0 lg) (OpT.mk 0 0 0 0 5 ChangeT.zero 0 0 0)) 1 1) hLvk2 (by decide) (by omega) rfl rfl (by simp only [List.length_append, List.length_nil]; omega) (by omega)) (fun _ s => s) (fun _ _ _ => trivial) (fun vR HR hR => ?_)
 obtain ⟨vk3, hvk3, rfl⟩ := hR
 change TL _ _ _ _ _ _ _ _ _ [blkA r (RepT.cells ({ keptS (keptS (clientX (newRep 0 lg) (OpT.mk 0 0 0 0 5 ChangeT.zero 0 0 0)) 1 1) 2 1 with replies := vk3 })) 104, own vk3 ((keptR (keptS (clientX (newRep 0 lg) (OpT.mk 0 0 0 0 5 ChangeT.zero 0 0 0)) 1 1) 2 1 (keptR (clientX (newRep 0 lg) (OpT.mk 0 0 0 0 5 ChangeT.zero 0 0 0)) 1 1 (clientR (newRep 0 lg) (OpT.mk 0 0 0 0 5 ChangeT.zero 0 0 0) (([] : List ReplyT))))).length) (ints (List.flatMap ReplyT.flat (keptR (keptS (clientX (newRep 0 lg) (OpT.mk 0 0 0 0 5 ChangeT.zero 0 0 0)) 1 1) 2 1 (keptR (clientX (newRep 0 lg) (OpT.mk 0 0 0 0 5 ChangeT.zero 0 0 0)) 1 1 (clientR (newRep 0 lg) (OpT.mk 0 0 0 0 5 ChangeT.zero 0 0 0) (([] : List ReplyT))))))) 92 3, outP b4 ([] ++ clientO (newRep 0 lg) (OpT.mk 0 0 0 0 5 ChangeT.zero 0 0 0) ++ keptO (clientX (newRep 0 lg) (OpT.mk 0 0 0 0 5 ChangeT.zero 0 0 0)) 1 1 ++ keptO (keptS (clientX (newRep 0 lg) (OpT.mk 0 0 0 0 5 ChangeT.zero 0 0 0)) 1 1) 2 1), lgP lg d (((clientC (newRep 0 lg) (OpT.mk 0 0 0 0 5 ChangeT.zero 0 0 0) ([])).length : Nat) : Int) ((sizeS (clientC (newRep 0 lg) (OpT.mk 0 0 0 0 5 ChangeT.zero 0 0 0) ([])) : Nat) : Int), dkL d (clientC (newRep 0 lg) (OpT.mk 0 0 0 0 5 ChangeT.zero 0 0 0) ([]))]
 have hLvk3 := hLvk2.kept 2 1
 have hovk3 := keptO_len (keptS (clientX (newRep 0 lg) (OpT.mk 0 0 0 0 5 ChangeT.zero 0 0 0)) 1 1) 2 1
 have hrvk3 := keptR_len (keptS (clientX (newRep 0 lg) (OpT.mk 0 0 0 0 5 ChangeT.zero 0 0 0)) 1 1) 2 1 (keptR (clientX (newRep 0 lg) (OpT.mk 0 0 0 0 5 ChangeT.zero 0 0 0)) 1 1 (clientR (newRep 0 lg) (OpT.mk 0 0 0 0 5 ChangeT.zero 0 0 0) (([] : List ReplyT))))
 refine nx J13 ?_
 refine sr fun _ J14 => ?_
 refine mv ?_
 refine tp (PV.eql rfl rfl rfl) ?_
 refine mv ?_
 refine tq (PV.move rfl rfl) ?_
 refine tp (PV.pick rfl rfl rfl) ?_
 refine mv ?_
 refine tq (PV.move rfl rfl) ?_
 refine tp (PV.pick rfl rfl rfl) ?_
 refine mv ?_
 refine tq (PV.move rfl rfl) ?_
 refine TL.callR (A := [blkA r (RepT.cells ({ keptS (keptS (clientX (newRep 0 lg) (OpT.mk 0 0 0 0 5 ChangeT.zero 0 0 0)) 1 1) 2 1 with replies := vk3 })) 104]) (Want.met rfl rfl rfl) rfl rfl rfl nm14 rfl (rBusyL_does r (keptS (keptS (clientX (newRep 0 lg) (OpT.mk 0 0 0 0 5 ChangeT.zero 0 0 0)) 1 1) 2 1) vk3 ) (fun _ s => s) (fun _ _ _ => trivial) (fun vR HR hR => ?_)
 obtain ⟨hv, rfl⟩ := hR
 rw [show (keptS (keptS (clientX (newRep 0 lg) (OpT.mk 0 0 0 0 5 ChangeT.zero 0 0 0)) 1 1) 2 1).busy = false from by kernel_rfl] at hv
 subst hv
 change TL _ _ _ _ _ _ _ _ _ [blkA r (RepT.cells ({ keptS (keptS (clientX (newRep 0 lg) (OpT.mk 0 0 0 0 5 ChangeT.zero 0 0 0)) 1 1) 2 1 with replies := vk3 })) 104, own vk3 ((keptR (keptS (clientX (newRep 0 lg) (OpT.mk 0 0 0 0 5 ChangeT.zero 0 0 0)) 1 1) 2 1 (keptR (clientX (newRep 0 lg) (OpT.mk 0 0 0 0 5 ChangeT.zero 0 0 0)) 1 1 (clientR (newRep 0 lg) (OpT.mk 0 0 0 0 5 ChangeT.zero 0 0 0) (([] : List ReplyT))))).length) (ints (List.flatMap ReplyT.flat (keptR (keptS (clientX (newRep 0 lg) (OpT.mk 0 0 0 0 5 ChangeT.zero 0 0 0)) 1 1) 2 1 (keptR (clientX (newRep 0 lg) (OpT.mk 0 0 0 0 5 ChangeT.zero 0 0 0)) 1 1 (clientR (newRep 0 lg) (OpT.mk 0 0 0 0 5 ChangeT.zero 0 0 0) (([] : List ReplyT))))))) 92 3, outP b4 ([] ++ clientO (newRep 0 lg) (OpT.mk 0 0 0 0 5 ChangeT.zero 0 0 0) ++ keptO (clientX (newRep 0 lg) (OpT.mk 0 0 0 0 5 ChangeT.zero 0 0 0)) 1 1 ++ keptO (keptS (clientX (newRep 0 lg) (OpT.mk 0 0 0 0 5 ChangeT.zero 0 0 0)) 1 1) 2 1), lgP lg d (((clientC (newRep 0 lg) (OpT.mk 0 0 0 0 5 ChangeT.zero 0 0 0) ([])).length : Nat) : Int) ((sizeS (clientC (newRep 0 lg) (OpT.mk 0 0 0 0 5 ChangeT.zero 0 0 0) ([])) : Nat) : Int), dkL d (clientC (newRep 0 lg) (OpT.mk 0 0 0 0 5 ChangeT.zero 0 0 0) ([]))]
 refine tq (PV.not (r := true) rfl rfl rfl) ?_
 refine tp (PV.pick rfl rfl rfl) ?_
 refine mv ?_
 refine tq (PV.move rfl rfl) ?_
 refine TL.callR (A := [blkA r (RepT.cells ({ keptS (keptS (clientX (newRep 0 lg) (OpT.mk 0 0 0 0 5 ChangeT.zero 0 0 0)) 1 1) 2 1 with replies := vk3 })) 104]) (Want.met rfl rfl rfl) rfl rfl rfl nm16 rfl (rValueL_does r (keptS (keptS (clientX (newRep 0 lg) (OpT.mk 0 0 0 0 5 ChangeT.zero 0 0 0)) 1 1) 2 1) vk3 0) (fun _ s => s) (fun _ _ _ => trivial) (fun vR HR hR => ?_)
 obtain ⟨hv, rfl⟩ := hR
 rw [show bookValue (keptS (keptS (clientX (newRep 0 lg) (OpT.mk 0 0 0 0 5 ChangeT.zero 0 0 0)) 1 1) 2 1).book 0 = 5 from by kernel_rfl] at hv
 subst hv
 change TL _ _ _ _ _ _ _ _ _ [blkA r (RepT.cells ({ keptS (keptS (clientX (newRep 0 lg) (OpT.mk 0 0 0 0 5 ChangeT.zero 0 0 0)) 1 1) 2 1 with replies := vk3 })) 104, own vk3 ((keptR (keptS (clientX (newRep 0 lg) (OpT.mk 0 0 0 0 5 ChangeT.zero 0 0 0)) 1 1) 2 1 (keptR (clientX (newRep 0 lg) (OpT.mk 0 0 0 0 5 ChangeT.zero 0 0 0)) 1 1 (clientR (newRep 0 lg) (OpT.mk 0 0 0 0 5 ChangeT.zero 0 0 0) (([] : List ReplyT))))).length) (ints (List.flatMap ReplyT.flat (keptR (keptS (clientX (newRep 0 lg) (OpT.mk 0 0 0 0 5 ChangeT.zero 0 0 0)) 1 1) 2 1 (keptR (clientX (newRep 0 lg) (OpT.mk 0 0 0 0 5 ChangeT.zero 0 0 0)) 1 1 (clientR (newRep 0 lg) (OpT.mk 0 0 0 0 5 ChangeT.zero 0 0 0) (([] : List ReplyT))))))) 92 3, outP b4 ([] ++ clientO (newRep 0 lg) (OpT.mk 0 0 0 0 5 ChangeT.zero 0 0 0) ++ keptO (clientX (newRep 0 lg) (OpT.mk 0 0 0 0 5 ChangeT.zero 0 0 0)) 1 1 ++ keptO (keptS (clientX (newRep 0 lg) (OpT.mk 0 0 0 0 5 ChangeT.zero 0 0 0)) 1 1) 2 1), lgP lg d (((clientC (newRep 0 lg) (OpT.mk 0 0 0 0 5 ChangeT.zero 0 0 0) ([])).length : Nat) : Int) ((sizeS (clientC (newRep 0 lg) (OpT.mk 0 0 0 0 5 ChangeT.zero 0 0 0) ([])) : Nat) : Int), dkL d (clientC (newRep 0 lg) (OpT.mk 0 0 0 0 5 ChangeT.zero 0 0 0) ([]))]
 refine tq (PV.eql rfl rfl rfl) ?_
 refine tp (PV.pick rfl rfl rfl) ?_
 refine mv ?_
 refine tq (PV.move rfl rfl) ?_
 refine TL.callR (A := [blkA r (RepT.cells ({ keptS (keptS (clientX (newRep 0 lg) (OpT.mk 0 0 0 0 5 ChangeT.zero 0 0 0)) 1 1) 2 1 with replies := vk3 })) 104, own vk3 ((keptR (keptS (clientX (newRep 0 lg) (OpT.mk 0 0 0 0 5 ChangeT.zero 0 0 0)) 1 1) 2 1 (keptR (clientX (newRep 0 lg) (OpT.mk 0 0 0 0 5 ChangeT.zero 0 0 0)) 1 1 (clientR (newRep 0 lg) (OpT.mk 0 0 0 0 5 ChangeT.zero 0 0 0) (([] : List ReplyT))))).length) (ints (List.flatMap ReplyT.flat (keptR (keptS (clientX (newRep 0 lg) (OpT.mk 0 0 0 0 5 ChangeT.zero 0 0 0)) 1 1) 2 1 (keptR (clientX (newRep 0 lg) (OpT.mk 0 0 0 0 5 ChangeT.zero 0 0 0)) 1 1 (clientR (newRep 0 lg) (OpT.mk 0 0 0 0 5 ChangeT.zero 0 0 0) (([] : List ReplyT))))))) 92 3]) (Want.met rfl rfl rfl) rfl rfl rfl nm15 rfl (replies_does r { (keptS (keptS (clientX (newRep 0 lg) (OpT.mk 0 0 0 0 5 ChangeT.zero 0 0 0)) 1 1) 2 1) with replies := vk3 } (keptR (keptS (clientX (newRep 0 lg) (OpT.mk 0 0 0 0 5 ChangeT.zero 0 0 0)) 1 1) 2 1 (keptR (clientX (newRep 0 lg) (OpT.mk 0 0 0 0 5 ChangeT.zero 0 0 0)) 1 1 (clientR (newRep 0 lg) (OpT.mk 0 0 0 0 5 ChangeT.zero 0 0 0) (([] : List ReplyT))))) (by omega)) (fun _ s => s) (fun _ _ _ => trivial) (fun vR HR hR => ?_)
 obtain ⟨_, rfl, rfl⟩ := hR
 revert vR
 intro uc4
 change TL _ _ _ _ _ _ _ _ _ [blkA r (RepT.cells ({ keptS (keptS (clientX (newRep 0 lg) (OpT.mk 0 0 0 0 5 ChangeT.zero 0 0 0)) 1 1) 2 1 with replies := vk3 })) 104, own vk3 ((keptR (keptS (clientX (newRep 0 lg) (OpT.mk 0 0 0 0 5 ChangeT.zero 0 0 0)) 1 1) 2 1 (keptR (clientX (newRep 0 lg) (OpT.mk 0 0 0 0 5 ChangeT.zero 0 0 0)) 1 1 (clientR (newRep 0 lg) (OpT.mk 0 0 0 0 5 ChangeT.zero 0 0 0) (([] : List ReplyT))))).length) (ints (List.flatMap ReplyT.flat (keptR (keptS (clientX (newRep 0 lg) (OpT.mk 0 0 0 0 5 ChangeT.zero 0 0 0)) 1 1) 2 1 (keptR (clientX (newRep 0 lg) (OpT.mk 0 0 0 0 5 ChangeT.zero 0 0 0)) 1 1 (clientR (newRep 0 lg) (OpT.mk 0 0 0 0 5 ChangeT.zero 0 0 0) (([] : List ReplyT))))))) 92 3, own uc4 ((keptR (keptS (clientX (newRep 0 lg) (OpT.mk 0 0 0 0 5 ChangeT.zero 0 0 0)) 1 1) 2 1 (keptR (clientX (newRep 0 lg) (OpT.mk 0 0 0 0 5 ChangeT.zero 0 0 0)) 1 1 (clientR (newRep 0 lg) (OpT.mk 0 0 0 0 5 ChangeT.zero 0 0 0) (([] : List ReplyT))))).length) (ints (List.flatMap ReplyT.flat (keptR (keptS (clientX (newRep 0 lg) (OpT.mk 0 0 0 0 5 ChangeT.zero 0 0 0)) 1 1) 2 1 (keptR (clientX (newRep 0 lg) (OpT.mk 0 0 0 0 5 ChangeT.zero 0 0 0)) 1 1 (clientR (newRep 0 lg) (OpT.mk 0 0 0 0 5 ChangeT.zero 0 0 0) (([] : List ReplyT))))))) 92 3, outP b4 ([] ++ clientO (newRep 0 lg) (OpT.mk 0 0 0 0 5 ChangeT.zero 0 0 0) ++ keptO (clientX (newRep 0 lg) (OpT.mk 0 0 0 0 5 ChangeT.zero 0 0 0)) 1 1 ++ keptO (keptS (clientX (newRep 0 lg) (OpT.mk 0 0 0 0 5 ChangeT.zero 0 0 0)) 1 1) 2 1), lgP lg d (((clientC (newRep 0 lg) (OpT.mk 0 0 0 0 5 ChangeT.zero 0 0 0) ([])).length : Nat) : Int) ((sizeS (clientC (newRep 0 lg) (OpT.mk 0 0 0 0 5 ChangeT.zero 0 0 0) ([])) : Nat) : Int), dkL d (clientC (newRep 0 lg) (OpT.mk 0 0 0 0 5 ChangeT.zero 0 0 0) ([]))]
 refine TL.ownLen 2 rfl rfl (fun hluc4 _ => ?_)
 refine tq (PV.lenV rfl Tryz.underlying55 rfl hluc4) ?_
 refine tq (PV.eql rfl rfl rfl) ?_
 refine TL.dec (fun h60 => ?_) (fun h60 => ?_)
 refine tp (PV.pick rfl rfl rfl) ?_
 refine mv ?_
 refine tq (PV.move rfl rfl) ?_
 refine TL.callR (A := [blkA r (RepT.cells ({ keptS (keptS (clientX (newRep 0 lg) (OpT.mk 0 0 0 0 5 ChangeT.zero 0 0 0)) 1 1) 2 1 with replies := vk3 })) 104]) (Want.met rfl rfl rfl) rfl rfl rfl nm18 rfl (rOwnL_does r (keptS (keptS (clientX (newRep 0 lg) (OpT.mk 0 0 0 0 5 ChangeT.zero 0 0 0)) 1 1) 2 1) vk3 ) (fun _ s => s) (fun _ _ _ => trivial) (fun vR HR hR => ?_)
 obtain ⟨rfl, rfl⟩ := hR
 change TL _ _ _ _ _ _ _ _ _ [blkA r (RepT.cells ({ keptS (keptS (clientX (newRep 0 lg) (OpT.mk 0 0 0 0 5 ChangeT.zero 0 0 0)) 1 1) 2 1 with replies := vk3 })) 104, own vk3 ((keptR (keptS (clientX (newRep 0 lg) (OpT.mk 0 0 0 0 5 ChangeT.zero 0 0 0)) 1 1) 2 1 (keptR (clientX (newRep 0 lg) (OpT.mk 0 0 0 0 5 ChangeT.zero 0 0 0)) 1 1 (clientR (newRep 0 lg) (OpT.mk 0 0 0 0 5 ChangeT.zero 0 0 0) (([] : List ReplyT))))).length) (ints (List.flatMap ReplyT.flat (keptR (keptS (clientX (newRep 0 lg) (OpT.mk 0 0 0 0 5 ChangeT.zero 0 0 0)) 1 1) 2 1 (keptR (clientX (newRep 0 lg) (OpT.mk 0 0 0 0 5 ChangeT.zero 0 0 0)) 1 1 (clientR (newRep 0 lg) (OpT.mk 0 0 0 0 5 ChangeT.zero 0 0 0) (([] : List ReplyT))))))) 92 3, own uc4 ((keptR (keptS (clientX (newRep 0 lg) (OpT.mk 0 0 0 0 5 ChangeT.zero 0 0 0)) 1 1) 2 1 (keptR (clientX (newRep 0 lg) (OpT.mk 0 0 0 0 5 ChangeT.zero 0 0 0)) 1 1 (clientR (newRep 0 lg) (OpT.mk 0 0 0 0 5 ChangeT.zero 0 0 0) (([] : List ReplyT))))).length) (ints (List.flatMap ReplyT.flat (keptR (keptS (clientX (newRep 0 lg) (OpT.mk 0 0 0 0 5 ChangeT.zero 0 0 0)) 1 1) 2 1 (keptR (clientX (newRep 0 lg) (OpT.mk 0 0 0 0 5 ChangeT.zero 0 0 0)) 1 1 (clientR (newRep 0 lg) (OpT.mk 0 0 0 0 5 ChangeT.zero 0 0 0) (([] : List ReplyT))))))) 92 3, outP b4 ([] ++ clientO (newRep 0 lg) (OpT.mk 0 0 0 0 5 ChangeT.zero 0 0 0) ++ keptO (clientX (newRep 0 lg) (OpT.mk 0 0 0 0 5 ChangeT.zero 0 0 0)) 1 1 ++ keptO (keptS (clientX (newRep 0 lg) (OpT.mk 0 0 0 0 5 ChangeT.zero 0 0 0)) 1 1) 2 1), lgP lg d (((clientC (newRep 0 lg) (OpT.mk 0 0 0 0 5 ChangeT.zero 0 0 0) ([])).length : Nat) : Int) ((sizeS (clientC (newRep 0 lg) (OpT.mk 0 0 0 0 5 ChangeT.zero 0 0 0) ([])) : Nat) : Int), dkL d (clientC (newRep 0 lg) (OpT.mk 0 0 0 0 5 ChangeT.zero 0 0 0) ([]))]
 refine TL.callR (A := []) (Want.met rfl rfl rfl) rfl rfl rfl nm33 rfl (rowRight_does ((keptS (keptS (clientX (newRep 0 lg) (OpT.mk 0 0 0 0 5 ChangeT.zero 0 0 0)) 1 1) 2 1).own) (hLvk3.wf (by omega))) (fun _ s => s) (fun _ _ _ => trivial) (fun vR HR hR => ?_)
 obtain ⟨hv, rfl⟩ := hR
 rw [hLvk3.own.right] at hv
 subst hv
 change TL _ _ _ _ _ _ _ _ _ [blkA r (RepT.cells ({ keptS (keptS (clientX (newRep 0 lg) (OpT.mk 0 0 0 0 5 ChangeT.zero 0 0 0)) 1 1) 2 1 with replies := vk3 })) 104, own vk3 ((keptR (keptS (clientX (newRep 0 lg) (OpT.mk 0 0 0 0 5 ChangeT.zero 0 0 0)) 1 1) 2 1 (keptR (clientX (newRep 0 lg) (OpT.mk 0 0 0 0 5 ChangeT.zero 0 0 0)) 1 1 (clientR (newRep 0 lg) (OpT.mk 0 0 0 0 5 ChangeT.zero 0 0 0) (([] : List ReplyT))))).length) (ints (List.flatMap ReplyT.flat (keptR (keptS (clientX (newRep 0 lg) (OpT.mk 0 0 0 0 5 ChangeT.zero 0 0 0)) 1 1) 2 1 (keptR (clientX (newRep 0 lg) (OpT.mk 0 0 0 0 5 ChangeT.zero 0 0 0)) 1 1 (clientR (newRep 0 lg) (OpT.mk 0 0 0 0 5 ChangeT.zero 0 0 0) (([] : List ReplyT))))))) 92 3, own uc4 ((keptR (keptS (clientX (newRep 0 lg) (OpT.mk 0 0 0 0 5 ChangeT.zero 0 0 0)) 1 1) 2 1 (keptR (clientX (newRep 0 lg) (OpT.mk 0 0 0 0 5 ChangeT.zero 0 0 0)) 1 1 (clientR (newRep 0 lg) (OpT.mk 0 0 0 0 5 ChangeT.zero 0 0 0) (([] : List ReplyT))))).length) (ints (List.flatMap ReplyT.flat (keptR (keptS (clientX (newRep 0 lg) (OpT.mk 0 0 0 0 5 ChangeT.zero 0 0 0)) 1 1) 2 1 (keptR (clientX (newRep 0 lg) (OpT.mk 0 0 0 0 5 ChangeT.zero 0 0 0)) 1 1 (clientR (newRep 0 lg) (OpT.mk 0 0 0 0 5 ChangeT.zero 0 0 0) (([] : List ReplyT))))))) 92 3, outP b4 ([] ++ clientO (newRep 0 lg) (OpT.mk 0 0 0 0 5 ChangeT.zero 0 0 0) ++ keptO (clientX (newRep 0 lg) (OpT.mk 0 0 0 0 5 ChangeT.zero 0 0 0)) 1 1 ++ keptO (keptS (clientX (newRep 0 lg) (OpT.mk 0 0 0 0 5 ChangeT.zero 0 0 0)) 1 1) 2 1), lgP lg d (((clientC (newRep 0 lg) (OpT.mk 0 0 0 0 5 ChangeT.zero 0 0 0) ([])).length : Nat) : Int) ((sizeS (clientC (newRep 0 lg) (OpT.mk 0 0 0 0 5 ChangeT.zero 0 0 0) ([])) : Nat) : Int), dkL d (clientC (newRep 0 lg) (OpT.mk 0 0 0 0 5 ChangeT.zero 0 0 0) ([]))]
 refine tp (PV.pick rfl rfl rfl) ?_
 refine sg' ?_
 refine nx J14 ?_
 refine TC.ret ?_
 refine TE.weak (Sub.refl _) (fun _ s => sep_keep [] rfl s) ?_
 refine TE.ret1 rfl rfl ?_
 exact ⟨rfl, rfl⟩
 · exact absurd (by kernel_rfl) h60
end Go.Proofs.YtfceaphohlbnbaaGreat
end

section
namespace Api
open Go Leg Codec Dsk Wal

def NoMem (id : Int) : Prop := memb firstV id = false ∧ machB id = true
theorem NoMem.of {id : Int} (h : id = 3 ∨ id = 4) : NoMem id := by
  rcases h with rfl | rfl
  · exact ⟨by kernel_rfl, by decide⟩
  · exact ⟨by kernel_rfl, by decide⟩
variable {id : Int} {lg i : Nat}
end Api
namespace Api
open Go Leg
theorem four {l : List Int} (h : l.length = 4) : ∃ a b c d, l = [a, b, c, d] := by
  match l, h with
  | [a, b, c, d], _ => exact ⟨a, b, c, d, rfl⟩
theorem two {l : List Int} (h : l.length = 2) : ∃ a b, l = [a, b] := by
  match l, h with
  | [a, b], _ => exact ⟨a, b, rfl⟩
end Api
namespace Api
open Go Leg
end Api
end

section
namespace Api
open Go Leg Codec Dsk Wal

def bookOf (c : RowT) : BookT := ⟨#v[c, RowT.zero, RowT.zero, RowT.zero, RowT.zero]⟩
theorem bookOf_zero : BookT.zero = bookOf RowT.zero := rfl
theorem cellAt_zero (key : Int) : cellAt RowT.zero key = CellT.zero := by
  unfold cellAt
  split
  · exact cell_z _ _
  · rfl
theorem heirz_at (n : Nat) (h : n < 5) : RowT.zero.heir[n] = (0 : Int) := by match n, h with | 0, _ | 1, _ | 2, _ | 3, _ | 4, _ => rfl
theorem heirAt_zero {y : RowT} (h : y.heir = RowT.zero.heir) (j : Int) : heirAt y j = 0 := by
  unfold heirAt
  split
  · simp only [h]
    exact heirz_at _ _
  · rfl
theorem rowCell_own {y : RowT} {i key : Int} (hi : machB i = true) (hk : keyB key = true) : rowCell y i i key = (cellAt y key, y.version) := by
  unfold rowCell
  rw [hi, hk]
  simp
theorem rowCell_oth {y : RowT} {i j key : Int} (h : y.heir = RowT.zero.heir) (hij : j ≠ i) : rowCell y i j key = (CellT.zero, -1) := by
  unfold rowCell
  split
  · rw [heirAt_zero h, if_neg (by decide)]
  · rfl
theorem bookCell_steps (b : BookT) (j key : Int) : bookTo b j key 5 = bookStep b j key (bookStep b j key (bookStep b j key (bookStep b j key (bookStep b j key (CellT.zero, -1) 0) 1) 2) 3) 4 := by
  simp only [bookTo_succ]
  rfl
theorem bookOf_row0 (c : RowT) : bookRow (bookOf c) ((0 : Nat) : Int) = c := by rw [bookRow_at _ (by decide)]; rfl
theorem bookOf_row1 (c : RowT) : bookRow (bookOf c) ((1 : Nat) : Int) = RowT.zero := by rw [bookRow_at _ (by decide)]; rfl
theorem bookOf_row2 (c : RowT) : bookRow (bookOf c) ((2 : Nat) : Int) = RowT.zero := by rw [bookRow_at _ (by decide)]; rfl
theorem bookOf_row3 (c : RowT) : bookRow (bookOf c) ((3 : Nat) : Int) = RowT.zero := by rw [bookRow_at _ (by decide)]; rfl
theorem bookOf_row4 (c : RowT) : bookRow (bookOf c) ((4 : Nat) : Int) = RowT.zero := by rw [bookRow_at _ (by decide)]; rfl
theorem bookCell_own {c : RowT} {key : Int} (hh : c.heir = RowT.zero.heir) (hv : 0 ≤ c.version) (hk : keyB key = true) : bookCell (bookOf c) ((0 : Nat) : Int) key = cellAt c key := by
  unfold bookCell
  rw [bookCell_steps]
  simp only [bookStep, bookOf_row0, bookOf_row1, bookOf_row2, bookOf_row3, bookOf_row4]
  rw [rowCell_own (y := c) (by decide) hk, rowCell_oth (y := RowT.zero) rfl (by decide), rowCell_oth (y := RowT.zero) rfl (by decide), rowCell_oth (y := RowT.zero) rfl (by decide), rowCell_oth (y := RowT.zero) rfl (by decide)]
  simp only []
  rw [if_pos (show c.version > -1 by omega)]
  simp only []
  rw [if_neg (show ¬ (-1 : Int) > c.version by omega)]
  simp only []
  rw [if_neg (show ¬ (-1 : Int) > c.version by omega)]
  simp only []
  rw [if_neg (show ¬ (-1 : Int) > c.version by omega)]
  simp only []
  rw [if_neg (show ¬ (-1 : Int) > c.version by omega)]
theorem bookCell_oth {c : RowT} {key : Int} {j : Nat} (hh : c.heir = RowT.zero.heir) (hj : 0 < j) (h5 : j < 5) (hk : keyB key = true) : bookCell (bookOf c) ((j : Nat) : Int) key = CellT.zero := by
  unfold bookCell
  rw [bookCell_steps]
  simp only [bookStep, bookOf_row0, bookOf_row1, bookOf_row2, bookOf_row3, bookOf_row4]
  rw [rowCell_oth (y := c) hh (by omega)]
  match j, hj, h5 with
  | 1, _, _ =>
    rw [rowCell_own (y := RowT.zero) (by decide) hk, rowCell_oth (y := RowT.zero) rfl (by decide), rowCell_oth (y := RowT.zero) rfl (by decide), rowCell_oth (y := RowT.zero) rfl (by decide), cellAt_zero]
    rfl
  | 2, _, _ =>
    rw [rowCell_own (y := RowT.zero) (by decide) hk, rowCell_oth (y := RowT.zero) rfl (by decide), rowCell_oth (y := RowT.zero) rfl (by decide), rowCell_oth (y := RowT.zero) rfl (by decide), cellAt_zero]
    rfl
  | 3, _, _ =>
    rw [rowCell_own (y := RowT.zero) (by decide) hk, rowCell_oth (y := RowT.zero) rfl (by decide), rowCell_oth (y := RowT.zero) rfl (by decide), rowCell_oth (y := RowT.zero) rfl (by decide), cellAt_zero]
    rfl
  | 4, _, _ =>
    rw [rowCell_own (y := RowT.zero) (by decide) hk, rowCell_oth (y := RowT.zero) rfl (by decide), rowCell_oth (y := RowT.zero) rfl (by decide), rowCell_oth (y := RowT.zero) rfl (by decide), cellAt_zero]
    rfl
def hasC (c : CellT) : Int := c.inn - c.out - (c.given[1] + c.given[2] + c.given[3] + c.given[4])
def valC (c : CellT) : Int := c.inn - c.out
def haveV (y : RowT) : Vector Int 4 := #v[hasC y.cells[0], hasC y.cells[1], hasC y.cells[2], hasC y.cells[3]]
def valV (y : RowT) : Vector Int 4 := #v[valC y.cells[0], valC y.cells[1], valC y.cells[2], valC y.cells[3]]
theorem haveV_at (y : RowT) {q : Nat} (h : q < 4) : (haveV y)[q] = hasC y.cells[q] := by match q, h with | 0, _ | 1, _ | 2, _ | 3, _ => rfl
theorem valV_at (y : RowT) {q : Nat} (h : q < 4) : (valV y)[q] = valC y.cells[q] := by match q, h with | 0, _ | 1, _ | 2, _ | 3, _ => rfl
theorem cellAt_nat (y : RowT) {q : Nat} (h : q < 4) : cellAt y ((q : Nat) : Int) = y.cells[q] := by rw [cellAt, dif_pos (show keyB ((q : Nat) : Int) = true from decide_eq_true ⟨by omega, by omega⟩)]; rfl
theorem keyB_nat {q : Nat} (h : q < 4) : keyB ((q : Nat) : Int) = true := decide_eq_true ⟨by omega, by omega⟩
structure RunOk (y : RowT) (k : Nat) : Prop where
  ok : OwnOk y k
  self : ∀ (i : Nat) (h : i < 4), y.cells[i].given[0] = (0 : Int)
theorem RunOk.zero (k : Nat) : RunOk .zero k := ⟨.zero k, fun i h => by rw [cell_z i h]; rfl⟩
theorem RunOk.more {y : RowT} {k m : Nat} (h : RunOk y k) (hm : k ≤ m) : RunOk y m := ⟨h.ok.more hm, h.self⟩
theorem RunOk.value {c : RowT} {k : Nat} (h : RunOk c k) {q : Nat} (hq : q < 4) : bookValue (bookOf c) ((q : Nat) : Int) = (valV c)[q] := by
  have hk := keyB_nat hq
  have hc := h.ok.cells q hq
  have h0 := bookCell_own h.ok.heir h.ok.ver.1 hk
  rw [cellAt_nat _ hq] at h0
  have e : bookValue (bookOf c) ((q : Nat) : Int) = w64 (w64 (w64 (w64 (w64 (0 + w64 ((bookCell (bookOf c) ((0 : Nat) : Int) q).inn - (bookCell (bookOf c) ((0 : Nat) : Int) q).out)) + w64 ((bookCell (bookOf c) ((1 : Nat) : Int) q).inn - (bookCell (bookOf c) ((1 : Nat) : Int) q).out)) + w64 ((bookCell (bookOf c) ((2 : Nat) : Int) q).inn - (bookCell (bookOf c) ((2 : Nat) : Int) q).out)) + w64 ((bookCell (bookOf c) ((3 : Nat) : Int) q).inn - (bookCell (bookOf c) ((3 : Nat) : Int) q).out)) + w64 ((bookCell (bookOf c) ((4 : Nat) : Int) q).inn - (bookCell (bookOf c) ((4 : Nat) : Int) q).out)) := by
    unfold bookValue
    simp only [valueTo_succ]
    rfl
  rw [e, h0, bookCell_oth h.ok.heir (by decide) (by decide) hk, bookCell_oth h.ok.heir (by decide) (by decide) hk, bookCell_oth h.ok.heir (by decide) (by decide) hk, bookCell_oth h.ok.heir (by decide) (by decide) hk, valV_at _ hq]
  have h1 := hc.inn
  have h2 := hc.out
  rw [show CellT.zero.inn - CellT.zero.out = (0 : Int) from rfl, show w64 (0 : Int) = 0 from by decide +kernel, w64_eq (n := c.cells[q].inn - c.cells[q].out) (by omega) (by omega), w64_eq (n := 0 + (c.cells[q].inn - c.cells[q].out)) (by omega) (by omega), w64_eq (n := 0 + (c.cells[q].inn - c.cells[q].out) + 0) (by omega) (by omega), w64_eq (n := 0 + (c.cells[q].inn - c.cells[q].out) + 0 + 0) (by omega) (by omega), w64_eq (n := 0 + (c.cells[q].inn - c.cells[q].out) + 0 + 0 + 0) (by omega) (by omega), w64_eq (by omega) (by omega)]
  unfold valC
  omega
theorem bookOf_merge {c y : RowT} {k : Nat} (h : OwnOk y k) (hv : c.version < y.version) : (bookMerge (bookOf c) 0 y).1 = bookOf y := by
  unfold bookMerge
  rw [show bookRow (bookOf c) 0 = c from bookOf_row0 c, h.right, show machB 0 = true by decide, decide_eq_true (show y.version > c.version from hv)]
  rfl
end Api
namespace Api
open Go Leg Codec Dsk Wal
/-! ### The machine -/
structure RunI (y : RepT) (lg k : Nat) (c : RowT) : Prop where
  lone : Lone y lg 0 k
  self : ∀ (i : Nat) (h : i < 4), y.own.cells[i].given[0] = (0 : Int)
  com : RunOk c k
  book : y.book = bookOf c
  free : y.busy = false → y.own = c
  bsy : y.busy = true → y.own.version = c.version + 1 ∧ (y.kept = 0 ∨ y.kept = 2) ∧ 0 < y.waits
  ops : 0 ≤ y.ops ∧ y.ops ≤ k
theorem RunI.new (lg : Nat) : RunI (newRep 0 lg) lg 0 RowT.zero :=
  ⟨Lone.new 0 lg 0, (RunOk.zero 0).self, RunOk.zero 0, bookOf_zero, fun _ => rfl, fun h => (nomatch (show false = true from h)), ⟨Int.le_refl 0, Int.le_refl 0⟩⟩
variable {y : RepT} {lg k : Nat} {c : RowT}
theorem RunI.own (h : RunI y lg k c) : RunOk y.own k := ⟨h.lone.own, h.self⟩
theorem RunI.value (h : RunI y lg k c) {q : Nat} (hq : q < 4) : bookValue y.book ((q : Nat) : Int) = (valV c)[q] := by rw [h.book]; exact h.com.value hq
theorem or2 (n : Int) (h : n = 0 ∨ n = 2) : orI .i64 n (IntKind.i64.wrap (1 * 2 ^ min (1 : Int).toNat IntKind.i64.bits)) = 2 := by rcases h with rfl | rfl <;> decide +kernel
theorem or6 : orI .i64 2 (IntKind.i64.wrap (1 * 2 ^ min (2 : Int).toNat IntKind.i64.bits)) = 6 := by decide +kernel
theorem wit0 : witL 0 = [1, 2] := by decide
theorem keptB_0 (h : y.id = 0) {w : Int} (hw : w = 1 ∨ w = 2) : keptB y w y.own.version = y.busy := by
  unfold keptB
  rw [h, wit0, decide_eq_true rfl, decide_eq_true (show w ∈ [(1 : Int), 2] by rcases hw with rfl | rfl <;> simp)]
  simp
theorem full1 (h : y.id = 0) (hk : y.kept = 0 ∨ y.kept = 2) : fullB (keptX y 1) = false := by
  unfold fullB
  rw [show (keptX y 1).id = 0 from h, wit0, show (keptX y 1).kept = 2 from or2 _ hk]
  decide +kernel
theorem keptS_one (h : y.id = 0) (hk : y.busy = true → y.kept = 0 ∨ y.kept = 2) : keptS y 1 y.own.version = if y.busy then keptX y 1 else y := by
  unfold keptS
  rw [keptB_0 h (Or.inl rfl)]
  by_cases hb : y.busy = true
  · rw [if_pos hb, if_pos hb, full1 h (hk hb)]; rfl
  · rw [if_neg hb, if_neg hb]
theorem keptR_one (h : y.id = 0) (hk : y.busy = true → y.kept = 0 ∨ y.kept = 2) (rs : List ReplyT) : keptR y 1 y.own.version rs = rs := by
  unfold keptR
  rw [keptB_0 h (Or.inl rfl)]
  by_cases hb : y.busy = true
  · rw [full1 h (hk hb), Bool.and_false]; rfl
  · rw [Bool.not_eq_true] at hb; rw [hb, Bool.false_and]; rfl
theorem RunI.one (h : RunI y lg k c) : RunI (keptS y 1 y.own.version) lg k c ∧ (keptS y 1 y.own.version).busy = y.busy ∧ (keptS y 1 y.own.version).own = y.own := by
  have hl := h.lone.kept 1 y.own.version
  rw [keptS_one h.lone.id fun q => (h.bsy q).2.1] at hl ⊢
  by_cases hb : y.busy = true
  · rw [if_pos hb] at hl ⊢
    have h3 := h.bsy hb
    exact ⟨⟨hl, h.self, h.com, h.book, fun q => (nomatch hb.symm.trans q), fun _ => ⟨h3.1, Or.inr (or2 _ h3.2.1), h3.2.2⟩, h.ops⟩, rfl, rfl⟩
  · rw [if_neg hb]; exact ⟨h, rfl, rfl⟩
theorem keep_free (h : y.id = 0) (hb : y.busy = false) (rs : List ReplyT) : keepX y 0 = y ∧ keepR y 0 rs = rs := by
  have e1 : keptS y 1 y.own.version = y := by rw [keptS_one h (fun q => nomatch hb.symm.trans q), hb]; rfl
  have e2 : keptS y 2 y.own.version = y := by unfold keptS; rw [keptB_0 h (Or.inr rfl), hb]; rfl
  have r1 := keptR_one h (fun q => nomatch hb.symm.trans q) rs
  have r2 : keptR y 2 y.own.version rs = rs := by unfold keptR; rw [keptB_0 h (Or.inr rfl), hb]; rfl
  constructor
  · show keptS (keptS y 1 y.own.version) 2 y.own.version = y
    rw [e1, e2]
  · show keptR (keptS y 1 y.own.version) 2 y.own.version (keptR y 1 y.own.version rs) = rs
    rw [e1, r1, r2]
theorem keep_busy (h : y.id = 0) (hb : y.busy = true) (hk : y.kept = 0 ∨ y.kept = 2) (rs : List ReplyT) : keepX y 0 = countF (keptX (keptX y 1) 2) ∧ keepR y 0 rs = countR (keptX (keptX y 1) 2) rs := by
  have e1 : keptS y 1 y.own.version = keptX y 1 := by rw [keptS_one h (fun _ => hk), if_pos hb]
  have hf : fullB (keptX (keptX y 1) 2) = true := by
    unfold fullB
    rw [show (keptX (keptX y 1) 2).id = 0 from h, wit0, show (keptX (keptX y 1) 2).kept = 6 by rw [show (keptX (keptX y 1) 2).kept = orI .i64 (keptX y 1).kept (IntKind.i64.wrap (1 * 2 ^ min (2 : Int).toNat IntKind.i64.bits)) from rfl, show (keptX y 1).kept = 2 from or2 _ hk, or6]]
    decide +kernel
  have hB : keptB (keptX y 1) 2 y.own.version = true := by rw [show keptB (keptX y 1) 2 y.own.version = keptB (keptX y 1) 2 (keptX y 1).own.version from rfl, keptB_0 (y := keptX y 1) h (Or.inr rfl)]; exact hb
  constructor
  · show keptS (keptS y 1 y.own.version) 2 y.own.version = _
    rw [e1]; unfold keptS; rw [hB, hf]; rfl
  · show keptR (keptS y 1 y.own.version) 2 y.own.version (keptR y 1 y.own.version rs) = _
    rw [e1, keptR_one h (fun _ => hk)]; unfold keptR; rw [hB, hf]; rfl
theorem RunI.keepB (h : RunI y lg k c) (hb : y.busy = true) (rs : List ReplyT) : RunI (keepX y 0) lg k y.own ∧ (keepX y 0).busy = false ∧ (keepX y 0).own = y.own ∧ (keepR y 0 rs).length = rs.length + 1 := by
  have h3 := h.bsy hb
  have hl := h.lone.keep
  obtain ⟨e1, e2⟩ := keep_busy h.lone.id hb h3.2.1 rs
  rw [e1] at hl ⊢
  rw [e2]
  refine ⟨⟨hl, h.self, h.own, ?_, fun _ => rfl, fun q => (nomatch (show false = true from q)), h.ops⟩, rfl, rfl, ?_⟩
  · show (bookMerge y.book y.id y.own).1 = bookOf y.own
    rw [h.book, h.lone.id]
    exact bookOf_merge h.lone.own (by omega)
  · unfold countR
    rw [if_pos (show (keptX (keptX y 1) 2).waits > 0 from h3.2.2), List.length_append]
    rfl
end Api
end
