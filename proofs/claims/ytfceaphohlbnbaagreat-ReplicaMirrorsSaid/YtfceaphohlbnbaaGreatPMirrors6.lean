/-
  Joined texts: what a statement's proof reaches.
-/
import Derived.Test.YtfceaphohlbnbaaGreatPMirrors5
set_option maxHeartbeats 8000000
section
namespace Go.Proofs.YtfceaphohlbnbaaGreat

open Go Leg Codec Api Dsk Wal

set_option linter.unusedSimpArgs false
set_option linter.unusedVariables false

set_option maxRecDepth 100000

set_option maxHeartbeats 8000000

theorem index_does (x : Value) (l : List Int) (v : Int) (hl : l.length ≤ 1000000) :
    Does Tryz.prog 114 #[x, (.int .i64 (v))] (IsI .i64 x l) [] (Ret (fun r' H => ∃ n : Int, r' = .int .i64 n ∧ (decide (n ≥ 0) = true ↔ v ∈ l) ∧ H = [])) := by
 refine Does.body (vs := [x, (.int .i64 (v))]) (n := 19) Tryz.func114 rfl rfl rfl (fun w0 F hF => ?_)
 refine sr fun _ J1 => ?_
 refine sg' ?_
 refine nx J1 ?_
 refine TC.seq fun _ J2 => ?_
 refine sr fun _ J3 => ?_
 refine mv ?_
 refine tp (PV.lenV rfl Tryz.underlying74 rfl hF.len) ?_
 refine mv ?_
 refine nx J3 ?_
 refine TC.block ?_
 refine TC.loop (α := (Nat)) (fun k => k ≤ l.length ∧ ∀ (j : Nat), j < k → l.getD j 0 ≠ v) (fun k => [(0, x), (1, (.int .i64 (v))), (7, (.int .i64 (((l.length : Nat) : Int)))), (8, (.int .i64 (((k : Nat) : Int))))]) (fun k => []) (fun k => l.length - k) 0
     ⟨Nat.zero_le _, fun j h => absurd h (by omega)⟩ (Sub.r (Sub.r (Sub.r (Sub.cons rfl (by congr 1) (Sub.nil _)))))
     (fun _ s => s) (fun k hinv => ?_)
 obtain ⟨hk, hv⟩ := hinv
 refine sr fun _ J4 => ?_
 refine tp (PV.lss rfl rfl rfl) ?_
 refine TL.dec (fun h9 => ?_) (fun h9 => ?_)
 obtain ⟨b_a, off_a, cap_a, cs_a, T_a, z_a, hv_a, hb_a, hcs_a, hcp_a⟩ := IsI.at hF (j := k) (by omega)
 refine nx J4 ?_
 refine TC.seq fun _ J5 => ?_
 refine TC.yes rfl ?_
 refine TC.skip ?_
 refine TE.next J5 ?_
 refine TC.seq fun _ J6 => ?_
 refine TC.block ?_
 refine sr fun _ J7 => ?_
 refine mv ?_
 refine sg' ?_
 refine nx J7 ?_
 refine sr fun _ J8 => ?_
 refine mv ?_
 refine mv ?_
 refine mv ?_
 refine tp (PV.indexSlV (r := off_a + k) hv_a rfl Tryz.underlying74 sz3 rfl rfl (by omega) (by omega) (by omega)) ?_
 refine tp (PV.load1X (v := (.int .i64 ((l.getD k 0)))) rfl Tryz.underlying3 rfl rfl (RdX.frm hb_a (fun _ h => Frm.of h)) hcs_a) ?_
 refine tp (PV.eql rfl rfl rfl) ?_
 refine TL.dec (fun h16 => ?_) (fun h16 => ?_)
 refine nx J8 ?_
 refine TC.yes rfl ?_
 refine sr fun _ J9 => ?_
 refine mv ?_
 refine sg' ?_
 refine nx J9 ?_
 refine TC.ret ?_
 refine TE.blockRet ?_
 refine TE.passRet ?_
 refine TE.passRet ?_
 refine TE.blockRet ?_
 refine TE.passRet ?_
 refine TE.weak (Sub.refl _) (fun _ s => sep_keep [] rfl s) ?_
 refine TE.ret1 rfl rfl ?_
 exact ⟨((k : Nat) : Int), rfl, by rw [decide_eq_true_iff]; exact ⟨fun _ => by rw [h16, List.getD_eq_getElem?_getD, List.getElem?_eq_getElem (by omega)]; exact List.getElem_mem _, fun _ => by omega⟩, rfl⟩
 refine nx J8 ?_
 refine TC.no rfl ?_
 refine TC.skip ?_
 refine TE.blockEnd ?_
 refine TE.next J6 ?_
 refine TC.region ?_
 refine tp (PV.add rfl rfl rfl (wrap_i64 (by omega) (by omega))) ?_
 refine mv ?_
 refine TL.nil ?_
 exact TE.round ((k + 1) : (Nat)) ⟨by omega, fun j hj => by
        by_cases q : j = k
        · subst q; exact fun e => h16 e.symm
        · exact hv j (by omega)⟩ (by show l.length - (k + 1) < l.length - k; omega)
   (Sub.r (Sub.r (Sub.r (Sub.cons rfl (by simp) (Sub.nil _)))))
   (fun _ s => s)
 refine nx J4 ?_
 refine TC.seq fun _ J10 => ?_
 refine TC.no rfl ?_
 refine TC.exit ?_
 refine TE.pass ?_
 refine TE.pass ?_
 refine TE.hit ?_
 refine TE.next J2 ?_
 refine sr fun _ J11 => ?_
 refine sg' ?_
 refine nx J11 ?_
 refine TC.ret ?_
 refine TE.weak (Sub.refl _) (fun _ s => sep_keep [] rfl s) ?_
 refine TE.ret1 rfl rfl ?_
 exact ⟨-1, rfl, by
      rw [decide_eq_true_iff]
      constructor
      · intro h; omega
      · intro h
        obtain ⟨j, hj, e⟩ := List.getElem_of_mem h
        have := hv j (by omega)
        rw [List.getD_eq_getElem?_getD, List.getElem?_eq_getElem hj] at this
        exact absurd e this, rfl⟩
theorem contains_does (x : Value) (l : List Int) (v : Int) (hl : l.length ≤ 1000000) :
    Does Tryz.prog 80 #[x, (.int .i64 (v))] (IsI .i64 x l) [] (Ret (fun r' H => r' = .bool (decide (v ∈ l)) ∧ H = [])) := by
 refine Does.body (vs := [x, (.int .i64 (v))]) (n := 9) Tryz.func80 rfl rfl rfl (fun w0 F hF => ?_)
 refine sr fun _ J1 => ?_
 refine sg' ?_
 refine nx J1 ?_
 refine sr fun _ J2 => ?_
 refine mv ?_
 refine mv ?_
 refine TL.callR (A := []) (Want.plain rfl) rfl rfl rfl nm114 rfl (index_does x l v hl) (fun _ s => s) (fun _ d _ => IsI.more hF d) (fun vR HR hR => ?_)
 obtain ⟨n, rfl, hn, rfl⟩ := hR
 change TL _ _ _ _ _ _ _ _ _ []
 refine tp (PV.geq rfl rfl rfl) ?_
 refine sg' ?_
 refine nx J2 ?_
 refine TC.ret ?_
 refine TE.weak (Sub.refl _) (fun _ s => sep_keep [] rfl s) ?_
 refine TE.ret1 rfl rfl ?_
 exact ⟨congrArg Value.bool (by rw [Bool.eq_iff_iff, hn, decide_eq_true_iff]), rfl⟩
theorem counted_does (r ob : Nat) (x : RepT) (rs : List ReplyT) (l : List SaidT) (hwo : WF x.own.flat) (hal : Alone x) (hl : l.length ≤ 900000) (hrs : rs.length ≤ 1000000) :
    Does Tryz.prog 81 #[(.pointer (some ⟨r, 0, none⟩)), (.iface 34 (.pointer (some ⟨ob, 0, none⟩)))] (fun _ => True) [blkA r (RepT.cells x) 104, own x.replies ((rs).length) (ints (List.flatMap ReplyT.flat (rs))) 92 3, outP ob (l)] (Ret (fun _ H => ∃ v', v'.oneCell' = true ∧ H = [blkA r (RepT.cells { countF x with replies := v' }) 104, own v' (countR x rs).length (ints (List.flatMap ReplyT.flat (countR x rs))) 92 3, outP ob (l ++ newsL x.id x.own)])) := by
 refine Does.body (vs := [(.pointer (some ⟨r, 0, none⟩)), (.iface 34 (.pointer (some ⟨ob, 0, none⟩)))]) (n := 43) Tryz.func81 rfl rfl rfl (fun w0 F hF => ?_)
 refine sr fun _ J1 => ?_
 refine TL.ownLen 1 rfl rfl (fun _ hone => ?_)
 refine mv ?_
 refine tp (PV.nilCheck rfl rfl) ?_
 refine tp (PV.fieldAddr (r := 1938) rfl Tryz.underlying104 rfl sz4 rfl rfl) ?_
 refine TL.store1 (i := 0) (H' := [blkA r (RepT.cells (RepT.mk x.id x.log x.view x.own x.mirror x.acc x.round x.vote x.book false x.kept x.waits x.ops x.replies x.told x.last)) 104, own x.replies ((rs).length) (ints (List.flatMap ReplyT.flat (rs))) 92 3, outP ob (l)]) (Want.plain rfl) rfl rfl rfl rfl rfl sz4 rfl rfl (by have h0 := (RepT.len x); omega) (RepT.set_busy x rfl _) rfl ?_
 refine nx J1 ?_
 refine TC.seq fun _ J2 => ?_
 refine TC.draw (fun w => Frm F w ∧ True) mixed rfl (fun _ s => ⟨Frm.of s, trivial⟩) ?_
 refine ta 0 rfl (PV.move rfl rfl) ?_
 refine ta 1 rfl (PV.nilCheck rfl rfl) ?_
 refine ta 2 rfl (PV.fieldAddr (r := 1068) rfl Tryz.underlying104 rfl sz71 rfl rfl) ?_
 refine ta 3 rfl (PV.move rfl rfl) ?_
 refine ta 4 rfl (PV.nilCheck rfl rfl) ?_
 refine ta 5 rfl (PV.fieldAddr (r := 0) rfl Tryz.underlying104 rfl sz3 rfl rfl) ?_
 refine ta 7 rfl (PV.move rfl rfl) ?_
 refine ta 8 rfl (PV.nilCheck rfl rfl) ?_
 refine ta 9 rfl (PV.fieldAddr (r := 9) rfl Tryz.underlying104 rfl sz48 rfl rfl) ?_
 refine TD.all [6, 10] (by kernel_rfl) rfl ?_
 refine AllT.cons rfl ?_ ?_
 refine tp (PV.load1 (v := (.int .i64 (x.id))) rfl Tryz.underlying3 rfl rfl (Rd.own 0 rfl rfl) (RepT.at_id (RepT.mk x.id x.log x.view x.own x.mirror x.acc x.round x.vote x.book false x.kept x.waits x.ops x.replies x.told x.last) rfl)) ?_
 refine TL.nil ?_
 refine TE.draw (fun _ s => ⟨Frm.of s, trivial⟩) ?_
 refine TD.all [10] (by kernel_rfl) rfl ?_
 refine AllT.cons rfl ?_ ?_
 refine tp (PV.loadN (vs := ints x.own.flat) rfl Tryz.underlying48 rfl sz48 rfl (Rd.own 0 rfl rfl) (RowT.len x.own) (RepT.sub_own (RepT.mk x.id x.log x.view x.own x.mirror x.acc x.round x.vote x.book false x.kept x.waits x.ops x.replies x.told x.last) 0 rfl (by decide) (whole (RowT.len x.own)))) ?_
 refine TL.nil ?_
 refine TE.draw (fun _ s => ⟨Frm.of s, trivial⟩) ?_
 refine TD.all [11] (by kernel_rfl) rfl ?_
 refine AllT.cons rfl ?_ ?_
 refine TL.callR (A := [blkA r (RepT.cells (RepT.mk x.id x.log x.view x.own x.mirror x.acc x.round x.vote x.book false x.kept x.waits x.ops x.replies x.told x.last)) 104]) (Want.plain rfl) rfl rfl rfl nm20 rfl (bookMerge_does r 1068 104 (fun u => RepT.cells { (RepT.mk x.id x.log x.view x.own x.mirror x.acc x.round x.vote x.book false x.kept x.waits x.ops x.replies x.told x.last) with book := u }) (RepT.arnd_book (RepT.mk x.id x.log x.view x.own x.mirror x.acc x.round x.vote x.book false x.kept x.waits x.ops x.replies x.told x.last)) x.book x.id x.own hwo) (fun _ s => s) (fun _ _ _ => trivial) (fun vR HR hR => ?_)
 obtain ⟨rfl, rfl⟩ := hR
 change TL _ _ _ _ _ _ _ _ _ [blkA r (RepT.cells (RepT.mk x.id x.log x.view x.own x.mirror x.acc x.round x.vote ((bookMerge x.book x.id x.own).1) false x.kept x.waits x.ops x.replies x.told x.last)) 104, own x.replies ((rs).length) (ints (List.flatMap ReplyT.flat (rs))) 92 3, outP ob (l)]
 refine TL.nil ?_
 refine TE.draw (fun _ s => ⟨Frm.of s, trivial⟩) ?_
 refine TD.done (by kernel_rfl) ?_
 refine TE.next J2 ?_
 refine TC.seq fun _ J3 => ?_
 refine sr fun _ J4 => ?_
 refine mv ?_
 refine tp (PV.nilCheck rfl rfl) ?_
 refine tp (PV.fieldAddr (r := 1940) rfl Tryz.underlying104 rfl sz3 rfl rfl) ?_
 refine tp (PV.load1 (v := (.int .i64 (x.waits))) rfl Tryz.underlying3 rfl rfl (Rd.own 0 rfl rfl) (RepT.at_waits (RepT.mk x.id x.log x.view x.own x.mirror x.acc x.round x.vote ((bookMerge x.book x.id x.own).1) false x.kept x.waits x.ops x.replies x.told x.last) rfl)) ?_
 refine tp (PV.gtr rfl rfl rfl) ?_
 refine TL.dec (fun h23 => ?_) (fun h23 => ?_)
 refine nx J4 ?_
 refine TC.yes rfl ?_
 refine sr fun _ J5 => ?_
 refine mv ?_
 refine mv ?_
 refine tp (PV.nilCheck rfl rfl) ?_
 refine tp (PV.fieldAddr (r := 1940) rfl Tryz.underlying104 rfl sz3 rfl rfl) ?_
 refine tp (PV.load1 (v := (.int .i64 (x.waits))) rfl Tryz.underlying3 rfl rfl (Rd.own 0 rfl rfl) (RepT.at_waits (RepT.mk x.id x.log x.view x.own x.mirror x.acc x.round x.vote ((bookMerge x.book x.id x.own).1) false x.kept x.waits x.ops x.replies x.told x.last) rfl)) ?_
 refine TL.callR (A := [blkA r (RepT.cells (RepT.mk x.id x.log x.view x.own x.mirror x.acc x.round x.vote ((bookMerge x.book x.id x.own).1) false x.kept x.waits x.ops x.replies x.told x.last)) 104, own x.replies ((rs).length) (ints (List.flatMap ReplyT.flat (rs))) 92 3]) (Want.plain rfl) rfl rfl rfl nm41 rfl (reply_does r (RepT.mk x.id x.log x.view x.own x.mirror x.acc x.round x.vote ((bookMerge x.book x.id x.own).1) false x.kept x.waits x.ops x.replies x.told x.last) x.waits 0 0 (rs) hrs) (fun _ s => s) (fun _ _ _ => trivial) (fun vR HR hR => ?_)
 obtain ⟨vr1, hovr1, rfl⟩ := hR
 change TL _ _ _ _ _ _ _ _ _ [blkA r (RepT.cells (RepT.mk x.id x.log x.view x.own x.mirror x.acc x.round x.vote ((bookMerge x.book x.id x.own).1) false x.kept x.waits x.ops vr1 x.told x.last)) 104, own vr1 ((rs ++ [ReplyT.mk x.waits 0 0]).length) (ints (List.flatMap ReplyT.flat (rs ++ [ReplyT.mk x.waits 0 0]))) 92 3, outP ob (l)]
 refine nx J5 ?_
 refine TC.region ?_
 refine mv ?_
 refine tp (PV.nilCheck rfl rfl) ?_
 refine tp (PV.fieldAddr (r := 1940) rfl Tryz.underlying104 rfl sz3 rfl rfl) ?_
 refine TL.store1 (i := 0) (H' := [blkA r (RepT.cells (RepT.mk x.id x.log x.view x.own x.mirror x.acc x.round x.vote ((bookMerge x.book x.id x.own).1) false x.kept 0 x.ops vr1 x.told x.last)) 104, own vr1 ((rs ++ [ReplyT.mk x.waits 0 0]).length) (ints (List.flatMap ReplyT.flat (rs ++ [ReplyT.mk x.waits 0 0]))) 92 3, outP ob (l)]) (Want.plain rfl) rfl rfl rfl rfl rfl sz3 rfl rfl (by have h0 := (RepT.len (RepT.mk x.id x.log x.view x.own x.mirror x.acc x.round x.vote ((bookMerge x.book x.id x.own).1) false x.kept x.waits x.ops vr1 x.told x.last)); omega) (RepT.set_waits (RepT.mk x.id x.log x.view x.own x.mirror x.acc x.round x.vote ((bookMerge x.book x.id x.own).1) false x.kept x.waits x.ops vr1 x.told x.last) rfl _) rfl ?_
 refine nx J3 ?_
 refine sr fun _ J6 => ?_
 refine mv ?_
 refine mv ?_
 refine mv ?_
 refine tp (PV.nilCheck rfl rfl) ?_
 refine tp (PV.fieldAddr (r := 9) rfl Tryz.underlying104 rfl sz48 rfl rfl) ?_
 refine tp (PV.loadN (vs := ints x.own.flat) rfl Tryz.underlying48 rfl sz48 rfl (Rd.own 0 rfl rfl) (RowT.len x.own) (RepT.sub_own (RepT.mk x.id x.log x.view x.own x.mirror x.acc x.round x.vote ((bookMerge x.book x.id x.own).1) false x.kept 0 x.ops vr1 x.told x.last) 0 rfl (by decide) (whole (RowT.len x.own)))) ?_
 refine TL.callR (A := [blkA r (RepT.cells (RepT.mk x.id x.log x.view x.own x.mirror x.acc x.round x.vote ((bookMerge x.book x.id x.own).1) false x.kept 0 x.ops vr1 x.told x.last)) 104, outP ob (l)]) (Want.plain rfl) rfl rfl rfl nm63 rfl (tellNews_does r ob (RepT.mk x.id x.log x.view x.own x.mirror x.acc x.round x.vote ((bookMerge x.book x.id x.own).1) false x.kept 0 x.ops vr1 x.told x.last) x.own (l) hl) (fun _ s => sep_selR [0, 1] rfl s) (fun _ _ _ => trivial) (fun vR HR hR => ?_)
 obtain rfl := hR
 change TL _ _ _ _ _ _ _ _ _ [blkA r (RepT.cells (RepT.mk x.id x.log x.view x.own x.mirror x.acc x.round x.vote ((bookMerge x.book x.id x.own).1) false x.kept 0 x.ops vr1 x.told x.last)) 104, outP ob (l ++ newsL (RepT.mk x.id x.log x.view x.own x.mirror x.acc x.round x.vote ((bookMerge x.book x.id x.own).1) false x.kept 0 x.ops vr1 x.told x.last).id x.own), own vr1 ((rs ++ [ReplyT.mk x.waits 0 0]).length) (ints (List.flatMap ReplyT.flat (rs ++ [ReplyT.mk x.waits 0 0]))) 92 3]
 refine nx J6 ?_
 refine TC.region ?_
 refine mv ?_
 refine mv ?_
 refine TL.callR (A := [blkA r (RepT.cells (RepT.mk x.id x.log x.view x.own x.mirror x.acc x.round x.vote ((bookMerge x.book x.id x.own).1) false x.kept 0 x.ops vr1 x.told x.last)) 104, outP ob (l ++ newsL (RepT.mk x.id x.log x.view x.own x.mirror x.acc x.round x.vote ((bookMerge x.book x.id x.own).1) false x.kept 0 x.ops vr1 x.told x.last).id x.own)]) (Want.plain rfl) rfl rfl rfl nm59 rfl (comeInto0_does r ob (RepT.mk x.id x.log x.view x.own x.mirror x.acc x.round x.vote ((bookMerge x.book x.id x.own).1) false x.kept 0 x.ops vr1 x.told x.last) (l ++ newsL (RepT.mk x.id x.log x.view x.own x.mirror x.acc x.round x.vote ((bookMerge x.book x.id x.own).1) false x.kept 0 x.ops vr1 x.told x.last).id x.own) hal) (fun _ s => s) (fun _ _ _ => trivial) (fun vR HR hR => ?_)
 obtain rfl := hR
 change TL _ _ _ _ _ _ _ _ _ [blkA r (RepT.cells (RepT.mk x.id x.log x.view x.own x.mirror x.acc x.round x.vote ((bookMerge x.book x.id x.own).1) false x.kept 0 x.ops vr1 x.told x.last)) 104, outP ob (l ++ newsL (RepT.mk x.id x.log x.view x.own x.mirror x.acc x.round x.vote ((bookMerge x.book x.id x.own).1) false x.kept 0 x.ops vr1 x.told x.last).id x.own), own vr1 ((rs ++ [ReplyT.mk x.waits 0 0]).length) (ints (List.flatMap ReplyT.flat (rs ++ [ReplyT.mk x.waits 0 0]))) 92 3]
 refine TL.nil ?_
 refine TE.weak (Sub.refl _) (fun _ s => sep_keep [0, 1, 0] rfl s) ?_
 refine TE.end0 rfl ?_
 exact ⟨_, hovr1, by rw [countR, if_pos h23, show countF x = { x with busy := false, book := (bookMerge x.book x.id x.own).1, waits := 0 } by rw [countF, if_pos h23]]; rfl⟩
 refine nx J4 ?_
 refine TC.no rfl ?_
 refine TC.skip ?_
 refine TE.next J3 ?_
 refine sr fun _ J7 => ?_
 refine mv ?_
 refine mv ?_
 refine mv ?_
 refine tp (PV.nilCheck rfl rfl) ?_
 refine tp (PV.fieldAddr (r := 9) rfl Tryz.underlying104 rfl sz48 rfl rfl) ?_
 refine tp (PV.loadN (vs := ints x.own.flat) rfl Tryz.underlying48 rfl sz48 rfl (Rd.own 0 rfl rfl) (RowT.len x.own) (RepT.sub_own (RepT.mk x.id x.log x.view x.own x.mirror x.acc x.round x.vote ((bookMerge x.book x.id x.own).1) false x.kept x.waits x.ops x.replies x.told x.last) 0 rfl (by decide) (whole (RowT.len x.own)))) ?_
 refine TL.callR (A := [blkA r (RepT.cells (RepT.mk x.id x.log x.view x.own x.mirror x.acc x.round x.vote ((bookMerge x.book x.id x.own).1) false x.kept x.waits x.ops x.replies x.told x.last)) 104, outP ob (l)]) (Want.plain rfl) rfl rfl rfl nm63 rfl (tellNews_does r ob (RepT.mk x.id x.log x.view x.own x.mirror x.acc x.round x.vote ((bookMerge x.book x.id x.own).1) false x.kept x.waits x.ops x.replies x.told x.last) x.own (l) hl) (fun _ s => sep_selR [0, 1] rfl s) (fun _ _ _ => trivial) (fun vR HR hR => ?_)
 obtain rfl := hR
 change TL _ _ _ _ _ _ _ _ _ [blkA r (RepT.cells (RepT.mk x.id x.log x.view x.own x.mirror x.acc x.round x.vote ((bookMerge x.book x.id x.own).1) false x.kept x.waits x.ops x.replies x.told x.last)) 104, outP ob (l ++ newsL (RepT.mk x.id x.log x.view x.own x.mirror x.acc x.round x.vote ((bookMerge x.book x.id x.own).1) false x.kept x.waits x.ops x.replies x.told x.last).id x.own), own x.replies ((rs).length) (ints (List.flatMap ReplyT.flat (rs))) 92 3]
 refine nx J7 ?_
 refine TC.region ?_
 refine mv ?_
 refine mv ?_
 refine TL.callR (A := [blkA r (RepT.cells (RepT.mk x.id x.log x.view x.own x.mirror x.acc x.round x.vote ((bookMerge x.book x.id x.own).1) false x.kept x.waits x.ops x.replies x.told x.last)) 104, outP ob (l ++ newsL (RepT.mk x.id x.log x.view x.own x.mirror x.acc x.round x.vote ((bookMerge x.book x.id x.own).1) false x.kept x.waits x.ops x.replies x.told x.last).id x.own)]) (Want.plain rfl) rfl rfl rfl nm59 rfl (comeInto0_does r ob (RepT.mk x.id x.log x.view x.own x.mirror x.acc x.round x.vote ((bookMerge x.book x.id x.own).1) false x.kept x.waits x.ops x.replies x.told x.last) (l ++ newsL (RepT.mk x.id x.log x.view x.own x.mirror x.acc x.round x.vote ((bookMerge x.book x.id x.own).1) false x.kept x.waits x.ops x.replies x.told x.last).id x.own) hal) (fun _ s => s) (fun _ _ _ => trivial) (fun vR HR hR => ?_)
 obtain rfl := hR
 change TL _ _ _ _ _ _ _ _ _ [blkA r (RepT.cells (RepT.mk x.id x.log x.view x.own x.mirror x.acc x.round x.vote ((bookMerge x.book x.id x.own).1) false x.kept x.waits x.ops x.replies x.told x.last)) 104, outP ob (l ++ newsL (RepT.mk x.id x.log x.view x.own x.mirror x.acc x.round x.vote ((bookMerge x.book x.id x.own).1) false x.kept x.waits x.ops x.replies x.told x.last).id x.own), own x.replies ((rs).length) (ints (List.flatMap ReplyT.flat (rs))) 92 3]
 refine TL.nil ?_
 refine TE.weak (Sub.refl _) (fun _ s => sep_keep [0, 1, 0] rfl s) ?_
 refine TE.end0 rfl ?_
 exact ⟨x.replies, hone, by rw [countR, if_neg h23, show countF x = { x with busy := false, book := (bookMerge x.book x.id x.own).1 } by rw [countF, if_neg h23]]; rfl⟩
 exact AllT.nil
 exact AllT.nil
 refine AllT.cons rfl ?_ ?_
 refine tp (PV.loadN (vs := ints x.own.flat) rfl Tryz.underlying48 rfl sz48 rfl (Rd.own 0 rfl rfl) (RowT.len x.own) (RepT.sub_own (RepT.mk x.id x.log x.view x.own x.mirror x.acc x.round x.vote x.book false x.kept x.waits x.ops x.replies x.told x.last) 0 rfl (by decide) (whole (RowT.len x.own)))) ?_
 refine TL.nil ?_
 refine TE.draw (fun _ s => ⟨Frm.of s, trivial⟩) ?_
 refine TD.all [6] (by kernel_rfl) rfl ?_
 refine AllT.cons rfl ?_ ?_
 refine tp (PV.load1 (v := (.int .i64 (x.id))) rfl Tryz.underlying3 rfl rfl (Rd.own 0 rfl rfl) (RepT.at_id (RepT.mk x.id x.log x.view x.own x.mirror x.acc x.round x.vote x.book false x.kept x.waits x.ops x.replies x.told x.last) rfl)) ?_
 refine TL.nil ?_
 refine TE.draw (fun _ s => ⟨Frm.of s, trivial⟩) ?_
 refine TD.all [11] (by kernel_rfl) rfl ?_
 refine AllT.cons rfl ?_ ?_
 refine TL.callR (A := [blkA r (RepT.cells (RepT.mk x.id x.log x.view x.own x.mirror x.acc x.round x.vote x.book false x.kept x.waits x.ops x.replies x.told x.last)) 104]) (Want.plain rfl) rfl rfl rfl nm20 rfl (bookMerge_does r 1068 104 (fun u => RepT.cells { (RepT.mk x.id x.log x.view x.own x.mirror x.acc x.round x.vote x.book false x.kept x.waits x.ops x.replies x.told x.last) with book := u }) (RepT.arnd_book (RepT.mk x.id x.log x.view x.own x.mirror x.acc x.round x.vote x.book false x.kept x.waits x.ops x.replies x.told x.last)) x.book x.id x.own hwo) (fun _ s => s) (fun _ _ _ => trivial) (fun vR HR hR => ?_)
 obtain ⟨rfl, rfl⟩ := hR
 change TL _ _ _ _ _ _ _ _ _ [blkA r (RepT.cells (RepT.mk x.id x.log x.view x.own x.mirror x.acc x.round x.vote ((bookMerge x.book x.id x.own).1) false x.kept x.waits x.ops x.replies x.told x.last)) 104, own x.replies ((rs).length) (ints (List.flatMap ReplyT.flat (rs))) 92 3, outP ob (l)]
 refine TL.nil ?_
 refine TE.draw (fun _ s => ⟨Frm.of s, trivial⟩) ?_
 refine TD.done (by kernel_rfl) ?_
 refine TE.next J2 ?_
 refine TC.seq fun _ J8 => ?_
 refine sr fun _ J9 => ?_
 refine mv ?_
 refine tp (PV.nilCheck rfl rfl) ?_
 refine tp (PV.fieldAddr (r := 1940) rfl Tryz.underlying104 rfl sz3 rfl rfl) ?_
 refine tp (PV.load1 (v := (.int .i64 (x.waits))) rfl Tryz.underlying3 rfl rfl (Rd.own 0 rfl rfl) (RepT.at_waits (RepT.mk x.id x.log x.view x.own x.mirror x.acc x.round x.vote ((bookMerge x.book x.id x.own).1) false x.kept x.waits x.ops x.replies x.told x.last) rfl)) ?_
 refine tp (PV.gtr rfl rfl rfl) ?_
 refine TL.dec (fun h23 => ?_) (fun h23 => ?_)
 refine nx J9 ?_
 refine TC.yes rfl ?_
 refine sr fun _ J10 => ?_
 refine mv ?_
 refine mv ?_
 refine tp (PV.nilCheck rfl rfl) ?_
 refine tp (PV.fieldAddr (r := 1940) rfl Tryz.underlying104 rfl sz3 rfl rfl) ?_
 refine tp (PV.load1 (v := (.int .i64 (x.waits))) rfl Tryz.underlying3 rfl rfl (Rd.own 0 rfl rfl) (RepT.at_waits (RepT.mk x.id x.log x.view x.own x.mirror x.acc x.round x.vote ((bookMerge x.book x.id x.own).1) false x.kept x.waits x.ops x.replies x.told x.last) rfl)) ?_
 refine TL.callR (A := [blkA r (RepT.cells (RepT.mk x.id x.log x.view x.own x.mirror x.acc x.round x.vote ((bookMerge x.book x.id x.own).1) false x.kept x.waits x.ops x.replies x.told x.last)) 104, own x.replies ((rs).length) (ints (List.flatMap ReplyT.flat (rs))) 92 3]) (Want.plain rfl) rfl rfl rfl nm41 rfl (reply_does r (RepT.mk x.id x.log x.view x.own x.mirror x.acc x.round x.vote ((bookMerge x.book x.id x.own).1) false x.kept x.waits x.ops x.replies x.told x.last) x.waits 0 0 (rs) hrs) (fun _ s => s) (fun _ _ _ => trivial) (fun vR HR hR => ?_)
 obtain ⟨vr1, hovr1, rfl⟩ := hR
 change TL _ _ _ _ _ _ _ _ _ [blkA r (RepT.cells (RepT.mk x.id x.log x.view x.own x.mirror x.acc x.round x.vote ((bookMerge x.book x.id x.own).1) false x.kept x.waits x.ops vr1 x.told x.last)) 104, own vr1 ((rs ++ [ReplyT.mk x.waits 0 0]).length) (ints (List.flatMap ReplyT.flat (rs ++ [ReplyT.mk x.waits 0 0]))) 92 3, outP ob (l)]
 refine nx J10 ?_
 refine TC.region ?_
 refine mv ?_
 refine tp (PV.nilCheck rfl rfl) ?_
 refine tp (PV.fieldAddr (r := 1940) rfl Tryz.underlying104 rfl sz3 rfl rfl) ?_
 refine TL.store1 (i := 0) (H' := [blkA r (RepT.cells (RepT.mk x.id x.log x.view x.own x.mirror x.acc x.round x.vote ((bookMerge x.book x.id x.own).1) false x.kept 0 x.ops vr1 x.told x.last)) 104, own vr1 ((rs ++ [ReplyT.mk x.waits 0 0]).length) (ints (List.flatMap ReplyT.flat (rs ++ [ReplyT.mk x.waits 0 0]))) 92 3, outP ob (l)]) (Want.plain rfl) rfl rfl rfl rfl rfl sz3 rfl rfl (by have h0 := (RepT.len (RepT.mk x.id x.log x.view x.own x.mirror x.acc x.round x.vote ((bookMerge x.book x.id x.own).1) false x.kept x.waits x.ops vr1 x.told x.last)); omega) (RepT.set_waits (RepT.mk x.id x.log x.view x.own x.mirror x.acc x.round x.vote ((bookMerge x.book x.id x.own).1) false x.kept x.waits x.ops vr1 x.told x.last) rfl _) rfl ?_
 refine nx J8 ?_
 refine sr fun _ J11 => ?_
 refine mv ?_
 refine mv ?_
 refine mv ?_
 refine tp (PV.nilCheck rfl rfl) ?_
 refine tp (PV.fieldAddr (r := 9) rfl Tryz.underlying104 rfl sz48 rfl rfl) ?_
 refine tp (PV.loadN (vs := ints x.own.flat) rfl Tryz.underlying48 rfl sz48 rfl (Rd.own 0 rfl rfl) (RowT.len x.own) (RepT.sub_own (RepT.mk x.id x.log x.view x.own x.mirror x.acc x.round x.vote ((bookMerge x.book x.id x.own).1) false x.kept 0 x.ops vr1 x.told x.last) 0 rfl (by decide) (whole (RowT.len x.own)))) ?_
 refine TL.callR (A := [blkA r (RepT.cells (RepT.mk x.id x.log x.view x.own x.mirror x.acc x.round x.vote ((bookMerge x.book x.id x.own).1) false x.kept 0 x.ops vr1 x.told x.last)) 104, outP ob (l)]) (Want.plain rfl) rfl rfl rfl nm63 rfl (tellNews_does r ob (RepT.mk x.id x.log x.view x.own x.mirror x.acc x.round x.vote ((bookMerge x.book x.id x.own).1) false x.kept 0 x.ops vr1 x.told x.last) x.own (l) hl) (fun _ s => sep_selR [0, 1] rfl s) (fun _ _ _ => trivial) (fun vR HR hR => ?_)
 obtain rfl := hR
 change TL _ _ _ _ _ _ _ _ _ [blkA r (RepT.cells (RepT.mk x.id x.log x.view x.own x.mirror x.acc x.round x.vote ((bookMerge x.book x.id x.own).1) false x.kept 0 x.ops vr1 x.told x.last)) 104, outP ob (l ++ newsL (RepT.mk x.id x.log x.view x.own x.mirror x.acc x.round x.vote ((bookMerge x.book x.id x.own).1) false x.kept 0 x.ops vr1 x.told x.last).id x.own), own vr1 ((rs ++ [ReplyT.mk x.waits 0 0]).length) (ints (List.flatMap ReplyT.flat (rs ++ [ReplyT.mk x.waits 0 0]))) 92 3]
 refine nx J11 ?_
 refine TC.region ?_
 refine mv ?_
 refine mv ?_
 refine TL.callR (A := [blkA r (RepT.cells (RepT.mk x.id x.log x.view x.own x.mirror x.acc x.round x.vote ((bookMerge x.book x.id x.own).1) false x.kept 0 x.ops vr1 x.told x.last)) 104, outP ob (l ++ newsL (RepT.mk x.id x.log x.view x.own x.mirror x.acc x.round x.vote ((bookMerge x.book x.id x.own).1) false x.kept 0 x.ops vr1 x.told x.last).id x.own)]) (Want.plain rfl) rfl rfl rfl nm59 rfl (comeInto0_does r ob (RepT.mk x.id x.log x.view x.own x.mirror x.acc x.round x.vote ((bookMerge x.book x.id x.own).1) false x.kept 0 x.ops vr1 x.told x.last) (l ++ newsL (RepT.mk x.id x.log x.view x.own x.mirror x.acc x.round x.vote ((bookMerge x.book x.id x.own).1) false x.kept 0 x.ops vr1 x.told x.last).id x.own) hal) (fun _ s => s) (fun _ _ _ => trivial) (fun vR HR hR => ?_)
 obtain rfl := hR
 change TL _ _ _ _ _ _ _ _ _ [blkA r (RepT.cells (RepT.mk x.id x.log x.view x.own x.mirror x.acc x.round x.vote ((bookMerge x.book x.id x.own).1) false x.kept 0 x.ops vr1 x.told x.last)) 104, outP ob (l ++ newsL (RepT.mk x.id x.log x.view x.own x.mirror x.acc x.round x.vote ((bookMerge x.book x.id x.own).1) false x.kept 0 x.ops vr1 x.told x.last).id x.own), own vr1 ((rs ++ [ReplyT.mk x.waits 0 0]).length) (ints (List.flatMap ReplyT.flat (rs ++ [ReplyT.mk x.waits 0 0]))) 92 3]
 refine TL.nil ?_
 refine TE.weak (Sub.refl _) (fun _ s => sep_keep [0, 1, 0] rfl s) ?_
 refine TE.end0 rfl ?_
 exact ⟨_, hovr1, by rw [countR, if_pos h23, show countF x = { x with busy := false, book := (bookMerge x.book x.id x.own).1, waits := 0 } by rw [countF, if_pos h23]]; rfl⟩
 refine nx J9 ?_
 refine TC.no rfl ?_
 refine TC.skip ?_
 refine TE.next J8 ?_
 refine sr fun _ J12 => ?_
 refine mv ?_
 refine mv ?_
 refine mv ?_
 refine tp (PV.nilCheck rfl rfl) ?_
 refine tp (PV.fieldAddr (r := 9) rfl Tryz.underlying104 rfl sz48 rfl rfl) ?_
 refine tp (PV.loadN (vs := ints x.own.flat) rfl Tryz.underlying48 rfl sz48 rfl (Rd.own 0 rfl rfl) (RowT.len x.own) (RepT.sub_own (RepT.mk x.id x.log x.view x.own x.mirror x.acc x.round x.vote ((bookMerge x.book x.id x.own).1) false x.kept x.waits x.ops x.replies x.told x.last) 0 rfl (by decide) (whole (RowT.len x.own)))) ?_
 refine TL.callR (A := [blkA r (RepT.cells (RepT.mk x.id x.log x.view x.own x.mirror x.acc x.round x.vote ((bookMerge x.book x.id x.own).1) false x.kept x.waits x.ops x.replies x.told x.last)) 104, outP ob (l)]) (Want.plain rfl) rfl rfl rfl nm63 rfl (tellNews_does r ob (RepT.mk x.id x.log x.view x.own x.mirror x.acc x.round x.vote ((bookMerge x.book x.id x.own).1) false x.kept x.waits x.ops x.replies x.told x.last) x.own (l) hl) (fun _ s => sep_selR [0, 1] rfl s) (fun _ _ _ => trivial) (fun vR HR hR => ?_)
 obtain rfl := hR
 change TL _ _ _ _ _ _ _ _ _ [blkA r (RepT.cells (RepT.mk x.id x.log x.view x.own x.mirror x.acc x.round x.vote ((bookMerge x.book x.id x.own).1) false x.kept x.waits x.ops x.replies x.told x.last)) 104, outP ob (l ++ newsL (RepT.mk x.id x.log x.view x.own x.mirror x.acc x.round x.vote ((bookMerge x.book x.id x.own).1) false x.kept x.waits x.ops x.replies x.told x.last).id x.own), own x.replies ((rs).length) (ints (List.flatMap ReplyT.flat (rs))) 92 3]
 refine nx J12 ?_
 refine TC.region ?_
 refine mv ?_
 refine mv ?_
 refine TL.callR (A := [blkA r (RepT.cells (RepT.mk x.id x.log x.view x.own x.mirror x.acc x.round x.vote ((bookMerge x.book x.id x.own).1) false x.kept x.waits x.ops x.replies x.told x.last)) 104, outP ob (l ++ newsL (RepT.mk x.id x.log x.view x.own x.mirror x.acc x.round x.vote ((bookMerge x.book x.id x.own).1) false x.kept x.waits x.ops x.replies x.told x.last).id x.own)]) (Want.plain rfl) rfl rfl rfl nm59 rfl (comeInto0_does r ob (RepT.mk x.id x.log x.view x.own x.mirror x.acc x.round x.vote ((bookMerge x.book x.id x.own).1) false x.kept x.waits x.ops x.replies x.told x.last) (l ++ newsL (RepT.mk x.id x.log x.view x.own x.mirror x.acc x.round x.vote ((bookMerge x.book x.id x.own).1) false x.kept x.waits x.ops x.replies x.told x.last).id x.own) hal) (fun _ s => s) (fun _ _ _ => trivial) (fun vR HR hR => ?_)
 obtain rfl := hR
 change TL _ _ _ _ _ _ _ _ _ [blkA r (RepT.cells (RepT.mk x.id x.log x.view x.own x.mirror x.acc x.round x.vote ((bookMerge x.book x.id x.own).1) false x.kept x.waits x.ops x.replies x.told x.last)) 104, outP ob (l ++ newsL (RepT.mk x.id x.log x.view x.own x.mirror x.acc x.round x.vote ((bookMerge x.book x.id x.own).1) false x.kept x.waits x.ops x.replies x.told x.last).id x.own), own x.replies ((rs).length) (ints (List.flatMap ReplyT.flat (rs))) 92 3]
 refine TL.nil ?_
 refine TE.weak (Sub.refl _) (fun _ s => sep_keep [0, 1, 0] rfl s) ?_
 refine TE.end0 rfl ?_
 exact ⟨x.replies, hone, by rw [countR, if_neg h23, show countF x = { x with busy := false, book := (bookMerge x.book x.id x.own).1 } by rw [countF, if_neg h23]]; rfl⟩
 exact AllT.nil
 exact AllT.nil
 exact AllT.nil
theorem takeKept_does (r ob : Nat) (x : RepT) (from' : Int) (m : MsgT) (rs : List ReplyT) (l : List SaidT) (hid : machB x.id = true) (hwo : WF x.own.flat) (hal : Alone x) (hl : l.length ≤ 900000) (hrs : rs.length ≤ 1000000) :
    Does Tryz.prog 44 #[(.pointer (some ⟨r, 0, none⟩)), (.iface 34 (.pointer (some ⟨ob, 0, none⟩))), (.int .i64 (from')), (.agg (ints m.flat).toArray)] (fun _ => True) [blkA r (RepT.cells x) 104, own x.replies ((rs).length) (ints (List.flatMap ReplyT.flat (rs))) 92 3, outP ob (l)] (Ret (fun _ H => ∃ v', v'.oneCell' = true ∧ H = [blkA r (RepT.cells { keptS x from' m.version with replies := v' }) 104, own v' (keptR x from' m.version rs).length (ints (List.flatMap ReplyT.flat (keptR x from' m.version rs))) 92 3, outP ob (l ++ keptO x from' m.version)])) := by
 refine Does.body (vs := [(.pointer (some ⟨r, 0, none⟩)), (.iface 34 (.pointer (some ⟨ob, 0, none⟩))), (.int .i64 (from')), (.agg (ints m.flat).toArray)]) (n := 64) Tryz.func44 rfl rfl rfl (fun w0 F hF => ?_)
 have hid2 : 0 ≤ x.id ∧ x.id < 5 := of_decide_eq_true hid
 refine sr fun _ J1 => ?_
 refine TL.ownLen 1 rfl rfl (fun _ hone => ?_)
 refine TL.box (Want.plain rfl) rfl rfl rfl rfl (fun b7 => ?_)
 change TL _ _ _ _ _ _ _ _ _ [blkA b7 (ints m.flat) 54, blkA r (RepT.cells x) 104, own x.replies ((rs).length) (ints (List.flatMap ReplyT.flat (rs))) 92 3, outP ob (l)]
 refine nx J1 ?_
 refine sr fun _ J2 => ?_
 refine mv ?_
 refine tp (PV.nilCheck rfl rfl) ?_
 refine tp (PV.fieldAddr (r := 0) rfl Tryz.underlying104 rfl sz3 rfl rfl) ?_
 refine tp (PV.load1 (v := (.int .i64 (x.id))) rfl Tryz.underlying3 rfl rfl (Rd.own 1 rfl rfl) (RepT.at_id x rfl)) ?_
 refine TL.callR (A := []) (Want.plain rfl) rfl rfl rfl nm49 rfl (wit2_does x.id hid) (fun _ s => s) (fun _ _ _ => trivial) (fun vR HR hR => ?_)
 obtain ⟨_, rfl, rfl⟩ := hR
 revert vR
 intro uw
 change TL _ _ _ _ _ _ _ _ _ [own uw (2) ([.int .i64 ((x.id + 1) % 5), .int .i64 ((x.id + 2) % 5)]) 3 1, blkA b7 (ints m.flat) 54, blkA r (RepT.cells x) 104, own x.replies ((rs).length) (ints (List.flatMap ReplyT.flat (rs))) 92 3, outP ob (l)]
 refine TL.ownLen 0 rfl rfl (fun hluw _ => ?_)
 refine TL.ownAt 0 rfl rfl (by omega) (fun gw capw hvw hcapw => ?_)
 refine sg' ?_
 refine nx J2 ?_
 refine TC.seq fun _ J3 => ?_
 refine TC.seq fun _ J4 => ?_
 refine TC.draw (fun w => Frm F w ∧ w.heap[r]? = some (.cells (RepT.cells x).toArray 104 (0, 0)) ∧ w.heap[b7]? = some (.cells (ints m.flat).toArray 54 (0, 0)) ∧ True) mixed rfl (fun _ s => ⟨Frm.of s, s.block 2 (lb rfl) rfl, s.block 1 (lb rfl) rfl, trivial⟩) ?_
 refine ta 0 rfl (PV.move rfl rfl) ?_
 refine ta 1 rfl (PV.nilCheck rfl rfl) ?_
 refine ta 2 rfl (PV.fieldAddr (r := 1938) rfl Tryz.underlying104 rfl sz4 rfl rfl) ?_
 refine ta 3 rfl (PV.load1 (v := (.bool (x.busy))) rfl Tryz.underlying4 rfl rfl (fun _ h => h.2.1) (RepT.at_busy x rfl)) ?_
 refine TD.decB (fun h19 => ?_) (fun h19 => ?_)
 refine ta 4 rfl (PV.not (r := false) rfl rfl rfl) ?_
 refine ta 5 rfl (PV.move rfl rfl) ?_
 refine tb 6 rfl (PV.fieldAddr (r := 176) rfl Tryz.underlying54 rfl sz3 rfl rfl) ?_
 refine tb 7 rfl (PV.load1 (v := (.int .i64 (m.version))) rfl Tryz.underlying3 rfl rfl (fun _ h => h.2.2.1) (MsgT.at_version m rfl)) ?_
 refine tb 8 rfl (PV.move rfl rfl) ?_
 refine tb 9 rfl (PV.nilCheck rfl rfl) ?_
 refine tb 10 rfl (PV.fieldAddr (r := 9) rfl Tryz.underlying104 rfl sz48 rfl rfl) ?_
 refine tb 11 rfl (PV.fieldAddr (r := 9) rfl Tryz.underlying48 rfl sz3 rfl rfl) ?_
 refine tb 12 rfl (PV.load1 (v := (.int .i64 (x.own.version))) rfl Tryz.underlying3 rfl rfl (fun _ h => h.2.1) (RepT.pt_own x 0 rfl (by decide) (RowT.at_version x.own rfl))) ?_
 refine tb 13 rfl (PV.neq rfl rfl rfl) ?_
 refine TD.dec (fun h29 => ?_) (fun h29 => ?_)
 refine ta 14 rfl (PV.pick rfl rfl rfl) ?_
 refine ta 15 rfl (PV.move rfl rfl) ?_
 refine TD.takeNot (i := 16) (b := true) rfl (by kernel_rfl) (by kernel_rfl) (by kernel_rfl) (fun _ _ _ _ h => h) rfl rfl rfl rfl rfl ?_
 refine TD.takeNot (i := 17) (b := true) rfl (by kernel_rfl) (by kernel_rfl) (by kernel_rfl) (fun _ _ _ _ h => h) rfl rfl rfl rfl rfl ?_
 refine TD.takeNot (i := 18) (b := true) rfl (by kernel_rfl) (by kernel_rfl) (by kernel_rfl) (fun _ _ _ _ h => h) rfl rfl rfl rfl rfl ?_
 refine TD.takeNot (i := 19) (b := true) rfl (by kernel_rfl) (by kernel_rfl) (by kernel_rfl) (fun _ _ _ _ h => h) rfl rfl rfl rfl rfl ?_
 refine ta 20 rfl (PV.pick rfl rfl rfl) ?_
 refine TD.done (by kernel_rfl) ?_
 refine TE.next J4 ?_
 refine TC.yes rfl ?_
 refine TC.ret ?_
 refine TE.passRet ?_
 refine TE.weak (Sub.refl _) (fun _ s => sep_keep [2, 2, 2] rfl s) ?_
 refine TE.ret0 rfl ?_
 have ew : witL x.id = [(x.id + 1) % 5, (x.id + 2) % 5] := by rw [witL, if_pos hid]
 have e : keptB x from' m.version = false := by rw [keptB, ew, decide_eq_false h29]; simp
 exact ⟨x.replies, hone, by rw [show keptS x from' m.version = x by rw [keptS, e]; rfl, show keptR x from' m.version rs = rs by rw [keptR, e]; rfl, show keptO x from' m.version = [] by rw [keptO, e]; rfl, List.append_nil]; rfl⟩
 refine ta 14 rfl (PV.pick rfl rfl rfl) ?_
 refine ta 15 rfl (PV.move rfl rfl) ?_
 refine tb 16 rfl (PV.move rfl rfl) ?_
 refine tb 17 rfl (PV.move rfl rfl) ?_
 refine TD.all [18] (by kernel_rfl) rfl ?_
 refine AllT.cons rfl ?_ ?_
 refine TL.callR (A := []) (Want.met rfl rfl rfl) rfl rfl rfl nm80 rfl (contains_does uw [(x.id + 1) % 5, (x.id + 2) % 5] from' (by decide : 2 ≤ 1000000)) (fun _ s => s) (isI_own (l := [(x.id + 1) % 5, (x.id + 2) % 5]) 0 rfl rfl) (fun vR HR hR => ?_)
 obtain ⟨rfl, rfl⟩ := hR
 change TL _ _ _ _ _ _ _ _ _ [own uw (2) ([.int .i64 ((x.id + 1) % 5), .int .i64 ((x.id + 2) % 5)]) 3 1, blkA b7 (ints m.flat) 54, blkA r (RepT.cells x) 104, own x.replies ((rs).length) (ints (List.flatMap ReplyT.flat (rs))) 92 3, outP ob (l)]
 refine TL.dec (fun h34 => ?_) (fun h34 => ?_)
 have hmem := h34
 simp only [List.mem_cons, List.not_mem_nil, or_false] at hmem
 have hfr : 0 ≤ from' ∧ from' < 5 := by omega
 refine TL.nil ?_
 refine TE.draw (fun _ s => ⟨Frm.of s, s.block 2 (lb rfl) rfl, s.block 1 (lb rfl) rfl, trivial⟩) ?_
 refine tb 19 rfl (PV.not (r := false) rfl rfl rfl) ?_
 refine ta 20 rfl (PV.pick rfl rfl rfl) ?_
 refine TD.done (by kernel_rfl) ?_
 refine TE.next J4 ?_
 refine TC.no rfl ?_
 refine TC.skip ?_
 refine TE.next J3 ?_
 refine TC.seq fun _ J5 => ?_
 refine TC.draw (fun w => Frm F w ∧ True) mixed rfl (fun _ s => ⟨Frm.of s, trivial⟩) ?_
 refine ta 0 rfl (PV.move rfl rfl) ?_
 refine ta 1 rfl (PV.nilCheck rfl rfl) ?_
 refine ta 2 rfl (PV.fieldAddr (r := 1939) rfl Tryz.underlying104 rfl sz3 rfl rfl) ?_
 refine ta 4 rfl (PV.move rfl rfl) ?_
 refine ta 5 rfl (PV.shl (r := (IntKind.i64.wrap (1 * 2 ^ min from'.toNat IntKind.i64.bits))) rfl rfl rfl (by omega) rfl) ?_
 refine TD.all [3] (by kernel_rfl) rfl ?_
 refine AllT.cons rfl ?_ ?_
 refine tp (PV.load1 (v := (.int .i64 (x.kept))) rfl Tryz.underlying3 rfl rfl (Rd.own 2 rfl rfl) (RepT.at_kept x rfl)) ?_
 refine TL.nil ?_
 refine TE.draw (fun _ s => ⟨Frm.of s, trivial⟩) ?_
 refine ta 6 rfl (PV.or (r := (orI .i64 x.kept (IntKind.i64.wrap (1 * 2 ^ min from'.toNat IntKind.i64.bits)))) rfl rfl rfl rfl) ?_
 refine ta 7 rfl (PV.nilCheck rfl rfl) ?_
 refine ta 8 rfl (PV.fieldAddr (r := 1939) rfl Tryz.underlying104 rfl sz3 rfl rfl) ?_
 refine TD.all [9] (by kernel_rfl) rfl ?_
 refine AllT.cons rfl ?_ ?_
 refine TL.store1 (i := 2) (H' := [own uw (2) ([.int .i64 ((x.id + 1) % 5), .int .i64 ((x.id + 2) % 5)]) 3 1, blkA b7 (ints m.flat) 54, blkA r (RepT.cells (RepT.mk x.id x.log x.view x.own x.mirror x.acc x.round x.vote x.book x.busy (orI .i64 x.kept (IntKind.i64.wrap (1 * 2 ^ min from'.toNat IntKind.i64.bits))) x.waits x.ops x.replies x.told x.last)) 104, own x.replies ((rs).length) (ints (List.flatMap ReplyT.flat (rs))) 92 3, outP ob (l)]) (Want.plain rfl) rfl rfl rfl rfl rfl sz3 rfl rfl (by have h0 := (RepT.len x); omega) (RepT.set_kept x rfl _) rfl ?_
 refine TL.nil ?_
 refine TE.draw (fun _ s => ⟨Frm.of s, trivial⟩) ?_
 refine TD.done (by kernel_rfl) ?_
 refine TE.next J5 ?_
 refine TC.seq fun _ J6 => ?_
 refine sr fun _ J7 => ?_
 refine mv ?_
 refine tp (PV.lenV rfl Tryz.underlying74 rfl hluw) ?_
 refine mv ?_
 refine nx J7 ?_
 refine TC.block ?_
 refine TC.unroll 2 ?_
 refine sr fun _ J8 => ?_
 refine tp (PV.lss rfl rfl rfl) ?_
 refine nx J8 ?_
 refine TC.seq fun _ J9 => ?_
 refine TC.yes rfl ?_
 refine TC.skip ?_
 refine TE.next J9 ?_
 refine TC.seq fun _ J10 => ?_
 refine TC.block ?_
 refine sr fun _ J11 => ?_
 refine tp (PV.indexSlV (r := 0) hvw rfl Tryz.underlying74 sz3 rfl rfl (by omega) (by omega) rfl) ?_
 refine tp (PV.load1X (v := (.int .i64 (((x.id + 1) % 5)))) rfl Tryz.underlying3 rfl rfl (RdX.own 0 rfl hvw rfl) rfl) ?_
 refine sg' ?_
 refine nx J11 ?_
 refine sr fun _ J12 => ?_
 refine mv ?_
 refine tp (PV.nilCheck rfl rfl) ?_
 refine tp (PV.fieldAddr (r := 1939) rfl Tryz.underlying104 rfl sz3 rfl rfl) ?_
 refine tp (PV.load1 (v := (.int .i64 ((orI .i64 x.kept (IntKind.i64.wrap (1 * 2 ^ min from'.toNat IntKind.i64.bits)))))) rfl Tryz.underlying3 rfl rfl (Rd.own 2 rfl rfl) (RepT.at_kept (RepT.mk x.id x.log x.view x.own x.mirror x.acc x.round x.vote x.book x.busy (orI .i64 x.kept (IntKind.i64.wrap (1 * 2 ^ min from'.toNat IntKind.i64.bits))) x.waits x.ops x.replies x.told x.last) rfl)) ?_
 refine mv ?_
 refine tp (PV.shr (r := ((orI .i64 x.kept (IntKind.i64.wrap (1 * 2 ^ min from'.toNat IntKind.i64.bits))).fdiv (2 ^ min (((x.id + 1) % 5)).toNat IntKind.i64.bits))) rfl rfl rfl (by omega) rfl) ?_
 refine tp (PV.and (r := (((orI .i64 x.kept (IntKind.i64.wrap (1 * 2 ^ min from'.toNat IntKind.i64.bits))).fdiv (2 ^ min (((x.id + 1) % 5)).toNat IntKind.i64.bits)) % 2)) rfl rfl rfl (mask (k := 1) (by decide) _)) ?_
 refine tp (PV.eql rfl rfl rfl) ?_
 refine TL.dec (fun h59 => ?_) (fun h59 => ?_)
 refine nx J12 ?_
 refine TC.yes rfl ?_
 refine TC.ret ?_
 refine TE.blockRet ?_
 refine TE.passRet ?_
 refine TE.passRet ?_
 refine TE.blockRet ?_
 refine TE.passRet ?_
 refine TE.weak (Sub.refl _) (fun _ s => sep_keep [2, 2, 2] rfl s) ?_
 refine TE.ret0 rfl ?_
 have ew : witL x.id = [(x.id + 1) % 5, (x.id + 2) % 5] := by rw [witL, if_pos hid]
 have e : keptB x from' m.version = true := by rw [keptB, h19, ew, decide_eq_true (show m.version = x.own.version by omega), decide_eq_true h34]; rfl
 have e2 : fullB (keptX x from') = false := by rw [fullB, show witL (keptX x from').id = [(x.id + 1) % 5, (x.id + 2) % 5] from ew]; simp only [List.all_cons, List.all_nil, bit0, keptX, *, decide_true, decide_false, Bool.not_true, Bool.not_false, Bool.and_true, Bool.true_and, Bool.false_and, Bool.and_false]
 exact ⟨x.replies, hone, by rw [show keptS x from' m.version = keptX x from' by rw [keptS, e, if_pos rfl, e2]; rfl, show keptR x from' m.version rs = rs by rw [keptR, e, e2]; rfl, show keptO x from' m.version = [] by rw [keptO, e, e2]; rfl, List.append_nil]; rfl⟩
 refine nx J12 ?_
 refine TC.no rfl ?_
 refine TC.skip ?_
 refine TE.blockEnd ?_
 refine TE.next J10 ?_
 refine TC.region ?_
 refine tp (PV.add (r := 1) rfl rfl rfl (by decide)) ?_
 refine mv ?_
 refine TL.nil ?_
 refine TE.again ?_
 refine sr fun _ J13 => ?_
 refine tp (PV.lss rfl rfl rfl) ?_
 refine nx J13 ?_
 refine TC.seq fun _ J14 => ?_
 refine TC.yes rfl ?_
 refine TC.skip ?_
 refine TE.next J14 ?_
 refine TC.seq fun _ J15 => ?_
 refine TC.block ?_
 refine sr fun _ J16 => ?_
 refine tp (PV.indexSlV (r := 1) hvw rfl Tryz.underlying74 sz3 rfl rfl (by omega) (by omega) rfl) ?_
 refine tp (PV.load1X (v := (.int .i64 (((x.id + 2) % 5)))) rfl Tryz.underlying3 rfl rfl (RdX.own 0 rfl hvw rfl) rfl) ?_
 refine sg' ?_
 refine nx J16 ?_
 refine sr fun _ J17 => ?_
 refine mv ?_
 refine tp (PV.nilCheck rfl rfl) ?_
 refine tp (PV.fieldAddr (r := 1939) rfl Tryz.underlying104 rfl sz3 rfl rfl) ?_
 refine tp (PV.load1 (v := (.int .i64 ((orI .i64 x.kept (IntKind.i64.wrap (1 * 2 ^ min from'.toNat IntKind.i64.bits)))))) rfl Tryz.underlying3 rfl rfl (Rd.own 2 rfl rfl) (RepT.at_kept (RepT.mk x.id x.log x.view x.own x.mirror x.acc x.round x.vote x.book x.busy (orI .i64 x.kept (IntKind.i64.wrap (1 * 2 ^ min from'.toNat IntKind.i64.bits))) x.waits x.ops x.replies x.told x.last) rfl)) ?_
 refine mv ?_
 refine tp (PV.shr (r := ((orI .i64 x.kept (IntKind.i64.wrap (1 * 2 ^ min from'.toNat IntKind.i64.bits))).fdiv (2 ^ min (((x.id + 2) % 5)).toNat IntKind.i64.bits))) rfl rfl rfl (by omega) rfl) ?_
 refine tp (PV.and (r := (((orI .i64 x.kept (IntKind.i64.wrap (1 * 2 ^ min from'.toNat IntKind.i64.bits))).fdiv (2 ^ min (((x.id + 2) % 5)).toNat IntKind.i64.bits)) % 2)) rfl rfl rfl (mask (k := 1) (by decide) _)) ?_
 refine tp (PV.eql rfl rfl rfl) ?_
 refine TL.dec (fun h59 => ?_) (fun h59 => ?_)
 refine nx J17 ?_
 refine TC.yes rfl ?_
 refine TC.ret ?_
 refine TE.blockRet ?_
 refine TE.passRet ?_
 refine TE.passRet ?_
 refine TE.blockRet ?_
 refine TE.passRet ?_
 refine TE.weak (Sub.refl _) (fun _ s => sep_keep [2, 2, 2] rfl s) ?_
 refine TE.ret0 rfl ?_
 have ew : witL x.id = [(x.id + 1) % 5, (x.id + 2) % 5] := by rw [witL, if_pos hid]
 have e : keptB x from' m.version = true := by rw [keptB, h19, ew, decide_eq_true (show m.version = x.own.version by omega), decide_eq_true h34]; rfl
 have e2 : fullB (keptX x from') = false := by rw [fullB, show witL (keptX x from').id = [(x.id + 1) % 5, (x.id + 2) % 5] from ew]; simp only [List.all_cons, List.all_nil, bit0, keptX, *, decide_true, decide_false, Bool.not_true, Bool.not_false, Bool.and_true, Bool.true_and, Bool.false_and, Bool.and_false]
 exact ⟨x.replies, hone, by rw [show keptS x from' m.version = keptX x from' by rw [keptS, e, if_pos rfl, e2]; rfl, show keptR x from' m.version rs = rs by rw [keptR, e, e2]; rfl, show keptO x from' m.version = [] by rw [keptO, e, e2]; rfl, List.append_nil]; rfl⟩
 refine nx J17 ?_
 refine TC.no rfl ?_
 refine TC.skip ?_
 refine TE.blockEnd ?_
 refine TE.next J15 ?_
 refine TC.region ?_
 refine tp (PV.add (r := 2) rfl rfl rfl (by decide)) ?_
 refine mv ?_
 refine TL.nil ?_
 refine TE.again ?_
 refine sr fun _ J18 => ?_
 refine tp (PV.lss rfl rfl rfl) ?_
 refine nx J18 ?_
 refine TC.seq fun _ J19 => ?_
 refine TC.no rfl ?_
 refine TC.exit ?_
 refine TE.pass ?_
 refine TE.pass ?_
 refine TE.hit ?_
 refine TE.next J6 ?_
 refine TC.region ?_
 refine mv ?_
 refine mv ?_
 refine TL.callR (A := [blkA r (RepT.cells (RepT.mk x.id x.log x.view x.own x.mirror x.acc x.round x.vote x.book x.busy (orI .i64 x.kept (IntKind.i64.wrap (1 * 2 ^ min from'.toNat IntKind.i64.bits))) x.waits x.ops x.replies x.told x.last)) 104, own x.replies ((rs).length) (ints (List.flatMap ReplyT.flat (rs))) 92 3, outP ob (l)]) (Want.plain rfl) rfl rfl rfl nm81 rfl (counted_does r ob (RepT.mk x.id x.log x.view x.own x.mirror x.acc x.round x.vote x.book x.busy (orI .i64 x.kept (IntKind.i64.wrap (1 * 2 ^ min from'.toNat IntKind.i64.bits))) x.waits x.ops x.replies x.told x.last) (rs) (l) hwo hal hl hrs) (fun _ s => sep_selR [2, 2, 2] rfl s) (fun _ _ _ => trivial) (fun vR HR hR => ?_)
 obtain ⟨vk, hvk, rfl⟩ := hR
 change TL _ _ _ _ _ _ _ _ _ [blkA r (RepT.cells ({ countF (RepT.mk x.id x.log x.view x.own x.mirror x.acc x.round x.vote x.book x.busy (orI .i64 x.kept (IntKind.i64.wrap (1 * 2 ^ min from'.toNat IntKind.i64.bits))) x.waits x.ops x.replies x.told x.last) with replies := vk })) 104, own vk ((countR (RepT.mk x.id x.log x.view x.own x.mirror x.acc x.round x.vote x.book x.busy (orI .i64 x.kept (IntKind.i64.wrap (1 * 2 ^ min from'.toNat IntKind.i64.bits))) x.waits x.ops x.replies x.told x.last) (rs)).length) (ints (List.flatMap ReplyT.flat (countR (RepT.mk x.id x.log x.view x.own x.mirror x.acc x.round x.vote x.book x.busy (orI .i64 x.kept (IntKind.i64.wrap (1 * 2 ^ min from'.toNat IntKind.i64.bits))) x.waits x.ops x.replies x.told x.last) (rs)))) 92 3, outP ob (l ++ newsL (RepT.mk x.id x.log x.view x.own x.mirror x.acc x.round x.vote x.book x.busy (orI .i64 x.kept (IntKind.i64.wrap (1 * 2 ^ min from'.toNat IntKind.i64.bits))) x.waits x.ops x.replies x.told x.last).id (RepT.mk x.id x.log x.view x.own x.mirror x.acc x.round x.vote x.book x.busy (orI .i64 x.kept (IntKind.i64.wrap (1 * 2 ^ min from'.toNat IntKind.i64.bits))) x.waits x.ops x.replies x.told x.last).own), own uw (2) ([.int .i64 ((x.id + 1) % 5), .int .i64 ((x.id + 2) % 5)]) 3 1, blkA b7 (ints m.flat) 54]
 refine TL.nil ?_
 refine TE.weak (Sub.refl _) (fun _ s => sep_keep [0, 0, 0] rfl s) ?_
 refine TE.end0 rfl ?_
 have ew : witL x.id = [(x.id + 1) % 5, (x.id + 2) % 5] := by rw [witL, if_pos hid]
 have e : keptB x from' m.version = true := by rw [keptB, h19, ew, decide_eq_true (show m.version = x.own.version by omega), decide_eq_true h34]; rfl
 have e2 : fullB (keptX x from') = true := by rw [fullB, show witL (keptX x from').id = [(x.id + 1) % 5, (x.id + 2) % 5] from ew]; simp only [List.all_cons, List.all_nil, bit0, keptX, *, decide_true, decide_false, Bool.not_true, Bool.not_false, Bool.and_true, Bool.true_and, Bool.false_and, Bool.and_false]
 exact ⟨vk, hvk, by rw [show keptS x from' m.version = countF (keptX x from') by rw [keptS, e, if_pos rfl, e2, if_pos rfl], show keptR x from' m.version rs = countR (keptX x from') rs by rw [keptR, e, e2]; rfl, show keptO x from' m.version = newsL x.id x.own by rw [keptO, e, e2]; rfl]; rfl⟩
 exact AllT.nil
 exact AllT.nil
 refine TL.nil ?_
 refine TE.draw (fun _ s => ⟨Frm.of s, s.block 2 (lb rfl) rfl, s.block 1 (lb rfl) rfl, trivial⟩) ?_
 refine tb 19 rfl (PV.not (r := true) rfl rfl rfl) ?_
 refine ta 20 rfl (PV.pick rfl rfl rfl) ?_
 refine TD.done (by kernel_rfl) ?_
 refine TE.next J4 ?_
 refine TC.yes rfl ?_
 refine TC.ret ?_
 refine TE.passRet ?_
 refine TE.weak (Sub.refl _) (fun _ s => sep_keep [2, 2, 2] rfl s) ?_
 refine TE.ret0 rfl ?_
 have ew : witL x.id = [(x.id + 1) % 5, (x.id + 2) % 5] := by rw [witL, if_pos hid]
 have e : keptB x from' m.version = false := by rw [keptB, ew, decide_eq_false h34]; simp
 exact ⟨x.replies, hone, by rw [show keptS x from' m.version = x by rw [keptS, e]; rfl, show keptR x from' m.version rs = rs by rw [keptR, e]; rfl, show keptO x from' m.version = [] by rw [keptO, e]; rfl, List.append_nil]; rfl⟩
 exact AllT.nil
 refine ta 4 rfl (PV.not (r := true) rfl rfl rfl) ?_
 refine ta 5 rfl (PV.move rfl rfl) ?_
 refine TD.takeNot (i := 6) (b := true) rfl (by kernel_rfl) (by kernel_rfl) (by kernel_rfl) (fun _ _ _ _ h => h) rfl rfl rfl rfl rfl ?_
 refine TD.takeNot (i := 7) (b := true) rfl (by kernel_rfl) (by kernel_rfl) (by kernel_rfl) (fun _ _ _ _ h => h) rfl rfl rfl rfl rfl ?_
 refine TD.takeNot (i := 8) (b := true) rfl (by kernel_rfl) (by kernel_rfl) (by kernel_rfl) (fun _ _ _ _ h => h) rfl rfl rfl rfl rfl ?_
 refine TD.takeNot (i := 9) (b := true) rfl (by kernel_rfl) (by kernel_rfl) (by kernel_rfl) (fun _ _ _ _ h => h) rfl rfl rfl rfl rfl ?_
 refine TD.takeNot (i := 10) (b := true) rfl (by kernel_rfl) (by kernel_rfl) (by kernel_rfl) (fun _ _ _ _ h => h) rfl rfl rfl rfl rfl ?_
 refine TD.takeNot (i := 11) (b := true) rfl (by kernel_rfl) (by kernel_rfl) (by kernel_rfl) (fun _ _ _ _ h => h) rfl rfl rfl rfl rfl ?_
 refine TD.takeNot (i := 12) (b := true) rfl (by kernel_rfl) (by kernel_rfl) (by kernel_rfl) (fun _ _ _ _ h => h) rfl rfl rfl rfl rfl ?_
 refine TD.takeNot (i := 13) (b := true) rfl (by kernel_rfl) (by kernel_rfl) (by kernel_rfl) (fun _ _ _ _ h => h) rfl rfl rfl rfl rfl ?_
 refine ta 14 rfl (PV.pick rfl rfl rfl) ?_
 refine ta 15 rfl (PV.move rfl rfl) ?_
 refine TD.takeNot (i := 16) (b := true) rfl (by kernel_rfl) (by kernel_rfl) (by kernel_rfl) (fun _ _ _ _ h => h) rfl rfl rfl rfl rfl ?_
 refine TD.takeNot (i := 17) (b := true) rfl (by kernel_rfl) (by kernel_rfl) (by kernel_rfl) (fun _ _ _ _ h => h) rfl rfl rfl rfl rfl ?_
 refine TD.takeNot (i := 18) (b := true) rfl (by kernel_rfl) (by kernel_rfl) (by kernel_rfl) (fun _ _ _ _ h => h) rfl rfl rfl rfl rfl ?_
 refine TD.takeNot (i := 19) (b := true) rfl (by kernel_rfl) (by kernel_rfl) (by kernel_rfl) (fun _ _ _ _ h => h) rfl rfl rfl rfl rfl ?_
 refine ta 20 rfl (PV.pick rfl rfl rfl) ?_
 refine TD.done (by kernel_rfl) ?_
 refine TE.next J4 ?_
 refine TC.yes rfl ?_
 refine TC.ret ?_
 refine TE.passRet ?_
 refine TE.weak (Sub.refl _) (fun _ s => sep_keep [2, 2, 2] rfl s) ?_
 refine TE.ret0 rfl ?_
 have ew : witL x.id = [(x.id + 1) % 5, (x.id + 2) % 5] := by rw [witL, if_pos hid]
 have e : keptB x from' m.version = false := by rw [keptB, ew, h19]; simp
 exact ⟨x.replies, hone, by rw [show keptS x from' m.version = x by rw [keptS, e]; rfl, show keptR x from' m.version rs = rs by rw [keptR, e]; rfl, show keptO x from' m.version = [] by rw [keptO, e]; rfl, List.append_nil]; rfl⟩
end Go.Proofs.YtfceaphohlbnbaaGreat
end

section
namespace Go.Proofs.YtfceaphohlbnbaaGreat

open Go Leg Codec Api Dsk Wal

set_option linter.unusedSimpArgs false
set_option linter.unusedVariables false

set_option maxRecDepth 100000

set_option maxHeartbeats 8000000

theorem enter_does (r : Nat) (x : RepT) (v : ViewT) :
    Does Tryz.prog 35 #[(.pointer (some ⟨r, 0, none⟩)), (.agg (ints v.flat).toArray)] (fun _ => True) [blkA r (RepT.cells x) 104] (Ret (fun _ H => H = [blkA r (RepT.cells (enterF x v)) 104])) := by
 refine Does.body (vs := [(.pointer (some ⟨r, 0, none⟩)), (.agg (ints v.flat).toArray)]) (n := 20) Tryz.func35 rfl rfl rfl (fun w0 F hF => ?_)
 refine sr fun _ J1 => ?_
 refine TL.box (Want.plain rfl) rfl rfl rfl rfl (fun b3 => ?_)
 change TL _ _ _ _ _ _ _ _ _ [blkA b3 (ints v.flat) 52, blkA r (RepT.cells x) 104]
 refine nx J1 ?_
 refine sr fun _ J2 => ?_
 refine mv ?_
 refine tp (PV.loadN (vs := ints v.flat) rfl Tryz.underlying52 rfl sz52 rfl (Rd.own 0 rfl rfl) (ViewT.len v) (whole (ViewT.len v))) ?_
 refine tp (PV.nilCheck rfl rfl) ?_
 refine tp (PV.fieldAddr (r := 2) rfl Tryz.underlying104 rfl sz52 rfl rfl) ?_
 refine TL.store (vs := ints v.flat) (i := 1) (H' := [blkA b3 (ints v.flat) 52, blkA r (RepT.cells (RepT.mk x.id x.log v x.own x.mirror x.acc x.round x.vote x.book x.busy x.kept x.waits x.ops x.replies x.told x.last)) 104]) (Want.plain rfl) rfl rfl rfl rfl rfl (by rw [(ViewT.len v)]; exact sz52) (ints_one _) rfl rfl (by have h0 := (RepT.len x); have h1 := (ViewT.len v); omega) (RepT.wr_view_ x 0 rfl (by have h1 := (ViewT.len v); omega) (wwhole ((ViewT.len x.view).trans (ViewT.len v).symm))) rfl ?_
 refine nx J2 ?_
 refine sr fun _ J3 => ?_
 refine mv ?_
 refine tp (PV.fieldAddr (r := 0) rfl Tryz.underlying52 rfl sz3 rfl rfl) ?_
 refine tp (PV.load1 (v := (.int .i64 (v.epoch))) rfl Tryz.underlying3 rfl rfl (Rd.own 0 rfl rfl) (ViewT.at_epoch v rfl)) ?_
 refine tp (PV.buildSegs (cs := ints (AccT.mk v.epoch BallotT.zero BallotT.zero ChangeT.zero).flat) (segs := [[Value.int .i64 0], ints BallotT.zero.flat, ints BallotT.zero.flat, ints ChangeT.zero.flat]) (res := [[Value.int .i64 v.epoch], ints BallotT.zero.flat, ints BallotT.zero.flat, ints ChangeT.zero.flat]) (parts := [(0, [Value.int .i64 v.epoch])]) rfl rfl Tryz.underlying101 (by kernel_rfl) (by kernel_rfl) rfl (putSegs_step rfl ((rfl : [Value.int .i64 v.epoch].length = 1).trans (rfl : [Value.int .i64 0].length = 1).symm) putSegs_nil) (AccT.eq (AccT.mk v.epoch BallotT.zero BallotT.zero ChangeT.zero)).symm) ?_
 refine tp (PV.nilCheck rfl rfl) ?_
 refine tp (PV.fieldAddr (r := 1058) rfl Tryz.underlying104 rfl sz101 rfl rfl) ?_
 refine TL.store (vs := ints (AccT.mk v.epoch BallotT.zero BallotT.zero ChangeT.zero).flat) (i := 1) (H' := [blkA b3 (ints v.flat) 52, blkA r (RepT.cells (RepT.mk x.id x.log v x.own x.mirror (AccT.mk v.epoch BallotT.zero BallotT.zero ChangeT.zero) x.round x.vote x.book x.busy x.kept x.waits x.ops x.replies x.told x.last)) 104]) (Want.plain rfl) rfl rfl rfl rfl rfl (by rw [(AccT.len (AccT.mk v.epoch BallotT.zero BallotT.zero ChangeT.zero))]; exact sz101) (ints_one _) rfl rfl (by have h0 := (RepT.len (RepT.mk x.id x.log v x.own x.mirror x.acc x.round x.vote x.book x.busy x.kept x.waits x.ops x.replies x.told x.last)); have h1 := (AccT.len (AccT.mk v.epoch BallotT.zero BallotT.zero ChangeT.zero)); omega) (RepT.wr_acc_ (RepT.mk x.id x.log v x.own x.mirror x.acc x.round x.vote x.book x.busy x.kept x.waits x.ops x.replies x.told x.last) 0 rfl (by have h1 := (AccT.len (AccT.mk v.epoch BallotT.zero BallotT.zero ChangeT.zero)); omega) (wwhole ((AccT.len x.acc).trans (AccT.len (AccT.mk v.epoch BallotT.zero BallotT.zero ChangeT.zero)).symm))) rfl ?_
 refine nx J3 ?_
 refine sr fun _ J4 => ?_
 refine mv ?_
 refine tp (PV.nilCheck rfl rfl) ?_
 refine tp (PV.fieldAddr (r := 1067) rfl Tryz.underlying104 rfl sz102 rfl rfl) ?_
 refine TL.store1 (i := 1) (H' := [blkA b3 (ints v.flat) 52, blkA r (RepT.cells (RepT.mk x.id x.log v x.own x.mirror (AccT.mk v.epoch BallotT.zero BallotT.zero ChangeT.zero) x.round (.pointer none) x.book x.busy x.kept x.waits x.ops x.replies x.told x.last)) 104]) (Want.plain rfl) rfl rfl rfl rfl rfl sz102 rfl rfl (by have h0 := (RepT.len (RepT.mk x.id x.log v x.own x.mirror (AccT.mk v.epoch BallotT.zero BallotT.zero ChangeT.zero) x.round x.vote x.book x.busy x.kept x.waits x.ops x.replies x.told x.last)); omega) (RepT.set_vote (RepT.mk x.id x.log v x.own x.mirror (AccT.mk v.epoch BallotT.zero BallotT.zero ChangeT.zero) x.round x.vote x.book x.busy x.kept x.waits x.ops x.replies x.told x.last) rfl _) rfl ?_
 refine nx J4 ?_
 refine TC.region ?_
 refine mv ?_
 refine tp (PV.nilCheck rfl rfl) ?_
 refine tp (PV.fieldAddr (r := 1066) rfl Tryz.underlying104 rfl sz3 rfl rfl) ?_
 refine TL.store1 (i := 1) (H' := [blkA b3 (ints v.flat) 52, blkA r (RepT.cells (RepT.mk x.id x.log v x.own x.mirror (AccT.mk v.epoch BallotT.zero BallotT.zero ChangeT.zero) 0 (.pointer none) x.book x.busy x.kept x.waits x.ops x.replies x.told x.last)) 104]) (Want.plain rfl) rfl rfl rfl rfl rfl sz3 rfl rfl (by have h0 := (RepT.len (RepT.mk x.id x.log v x.own x.mirror (AccT.mk v.epoch BallotT.zero BallotT.zero ChangeT.zero) x.round (.pointer none) x.book x.busy x.kept x.waits x.ops x.replies x.told x.last)); omega) (RepT.set_round (RepT.mk x.id x.log v x.own x.mirror (AccT.mk v.epoch BallotT.zero BallotT.zero ChangeT.zero) x.round (.pointer none) x.book x.busy x.kept x.waits x.ops x.replies x.told x.last) rfl _) rfl ?_
 refine TL.nil ?_
 refine TE.weak (Sub.refl _) (fun _ s => sep_keep [1] rfl s) ?_
 refine TE.end0 rfl ?_
 exact rfl
theorem openL_does (d : Nat) (recs : List (List UInt8)) : Does Tryz.prog 34 #[.pointer (some ⟨d, 0, none⟩)] (fun _ => True) [dkL d recs] (Ret (fun r' H => ∃ lg vr, r' = .tuple #[.pointer (some ⟨lg, 0, none⟩), vr, .int .i64 0] ∧ H = [lgL lg d recs, rcP vr recs, dkL d recs])) := by
  refine Does.ex (A' := fun D : { D : DS // LogD D recs ∧ D.dn = false ∧ D.ar = false } => [dk d D.1]) (fun h s => sep_open s) fun ⟨D, hD, hd, ha⟩ => ?_
  obtain ⟨D', ho, h1, h2, h3⟩ := LogD.open hD ha hd
  refine Does.fold (open_does d D hD.ok hD.inn (by rw [hD.ws]; decide)) fun e H hp => ?_
  cases e with
  | returned v =>
    rw [ho] at hp
    rcases hp with ⟨h, _⟩ | ⟨_, lg, vr, rfl, rfl⟩
    · exact absurd rfl h
    · refine ⟨_, fun g s => ?_, lg, vr, rfl, rfl⟩
      have s1 := sep_selR [2] rfl s
      have s2 := sep_close (p := fun D : { D : DS // LogD D recs ∧ D.dn = false ∧ D.ar = false } => [dk d D.1]) ⟨D', h1, h3, h2⟩ s1
      exact sep_perm (List.Perm.trans (List.Perm.swap _ _ _) (List.Perm.cons _ (List.Perm.swap _ _ _))) s2
  | panicked c => exact hp.elim
  | outgrown => exact hp.elim

theorem start0_does (i : Int) (d : Nat) :
    Does Tryz.prog 10 #[(.int .i64 (i)), (.pointer (some ⟨d, 0, none⟩))] (fun _ => True) [dkL d ([])] (Ret (fun r' H => ∃ r lg, r' = .tuple #[.pointer (some ⟨r, 0, none⟩), .int .i64 0] ∧ H = [blkA r (RepT.cells (newRep i lg)) 104, lgL lg d [], dkL d []])) := by
 refine Does.body (vs := [(.int .i64 (i)), (.pointer (some ⟨d, 0, none⟩))]) (n := 50) Tryz.func10 rfl rfl rfl (fun w0 F hF => ?_)
 refine sr fun _ J1 => ?_
 refine sg' ?_
 refine sg' ?_
 refine nx J1 ?_
 refine TC.seq fun _ J2 => ?_
 refine sr fun _ J3 => ?_
 refine mv ?_
 refine tp (PV.ptrNil rfl Tryz.underlying28 rfl rfl) ?_
 refine nx J3 ?_
 refine TC.no rfl ?_
 refine TC.skip ?_
 refine TE.next J2 ?_
 refine sr fun _ J4 => ?_
 refine mv ?_
 refine TL.callR (A := [dkL d ([])]) (Want.plain rfl) rfl rfl rfl nm34 rfl (openL_does d []) (fun _ s => s) (fun _ _ _ => trivial) (fun vR HR hR => ?_)
 obtain ⟨lg, vr, rfl, rfl⟩ := hR
 change TL _ _ _ _ _ _ _ _ _ [lgP lg d ((([]).length : Nat) : Int) ((sizeS ([]) : Nat) : Int), rcP vr [], dkL d ([])]
 refine TL.fact (p := SlLen vr 0 ∧ vr.oneCell' = true) (fun w m => by obtain ⟨h, _, _, hs⟩ := m; obtain ⟨_, _, _, _, a, _⟩ := sep_get 1 (lb rfl) hs; exact sep_recsLen a) (fun ⟨hsl, hvr⟩ => ?_)
 refine mv ?_
 refine tp (PV.extract (vs := [(.pointer (some ⟨lg, 0, none⟩)), vr, (.int .i64 0)]) rfl rfl rfl) ?_
 refine tp (PV.extract (vs := [(.pointer (some ⟨lg, 0, none⟩)), vr, (.int .i64 0)]) rfl rfl rfl) ?_
 refine tp (PV.extract (vs := [(.pointer (some ⟨lg, 0, none⟩)), vr, (.int .i64 0)]) rfl rfl rfl) ?_
 refine sg' ?_
 refine sg' ?_
 refine sg' ?_
 refine nx J4 ?_
 refine TC.seq fun _ J5 => ?_
 refine sr fun _ J6 => ?_
 refine mv ?_
 refine tp (PV.neq rfl rfl rfl) ?_
 refine nx J6 ?_
 refine TC.no rfl ?_
 refine TC.skip ?_
 refine TE.next J5 ?_
 refine sr fun _ J7 => ?_
 refine mv ?_
 refine mv ?_
 refine tp (PV.buildSegs (cs := RepT.cells (RepT.mk i (.pointer (some ⟨lg, 0, none⟩)) ViewT.zero RowT.zero MirT.zero AccT.zero 0 (.pointer none) BookT.zero false 0 0 0 (.slice none 0 0) (#v[0, 0, 0, 0, 0]) (#v[RowT.zero, RowT.zero, RowT.zero, RowT.zero, RowT.zero]))) (segs := [[Value.int .i64 0], [(.pointer none)], ints ViewT.zero.flat, ints RowT.zero.flat, MirT.cells MirT.zero, ints AccT.zero.flat, [Value.int .i64 0], [(.pointer none)], ints BookT.zero.flat, [Value.bool false], [Value.int .i64 0], [Value.int .i64 0], [Value.int .i64 0], [(.slice none 0 0)], ints (#v[0, 0, 0, 0, 0]).toList, ints ((#v[RowT.zero, RowT.zero, RowT.zero, RowT.zero, RowT.zero]).toList.flatMap RowT.flat)]) (res := [[Value.int .i64 i], [(.pointer (some ⟨lg, 0, none⟩))], ints ViewT.zero.flat, ints RowT.zero.flat, MirT.cells MirT.zero, ints AccT.zero.flat, [Value.int .i64 0], [(.pointer none)], ints BookT.zero.flat, [Value.bool false], [Value.int .i64 0], [Value.int .i64 0], [Value.int .i64 0], [(.slice none 0 0)], ints (#v[0, 0, 0, 0, 0]).toList, ints ((#v[RowT.zero, RowT.zero, RowT.zero, RowT.zero, RowT.zero]).toList.flatMap RowT.flat)]) (parts := [(0, [Value.int .i64 i]), (1, [(.pointer (some ⟨lg, 0, none⟩))])]) rfl rfl Tryz.underlying104 (by kernel_rfl) (by kernel_rfl) rfl (putSegs_step rfl ((rfl : [Value.int .i64 i].length = 1).trans (rfl : [Value.int .i64 0].length = 1).symm) (putSegs_step rfl ((rfl : [(.pointer (some ⟨lg, 0, none⟩))].length = 1).trans (rfl : [(.pointer none)].length = 1).symm) putSegs_nil)) (RepT.eq (RepT.mk i (.pointer (some ⟨lg, 0, none⟩)) ViewT.zero RowT.zero MirT.zero AccT.zero 0 (.pointer none) BookT.zero false 0 0 0 (.slice none 0 0) (#v[0, 0, 0, 0, 0]) (#v[RowT.zero, RowT.zero, RowT.zero, RowT.zero, RowT.zero]))).symm) ?_
 refine TL.box (Want.plain rfl) rfl rfl rfl rfl (fun b28 => ?_)
 change TL _ _ _ _ _ _ _ _ _ [blkA b28 (RepT.cells (RepT.mk i (.pointer (some ⟨lg, 0, none⟩)) ViewT.zero RowT.zero MirT.zero AccT.zero 0 (.pointer none) BookT.zero false 0 0 0 (.slice none 0 0) (#v[0, 0, 0, 0, 0]) (#v[RowT.zero, RowT.zero, RowT.zero, RowT.zero, RowT.zero]))) 104, lgP lg d ((([]).length : Nat) : Int) ((sizeS ([]) : Nat) : Int), rcP vr [], dkL d ([])]
 refine sg' ?_
 refine nx J7 ?_
 refine sr fun _ J8 => ?_
 refine mv ?_
 refine TL.callR (A := []) (Want.plain rfl) rfl rfl rfl nm24 rfl (first_does ) (fun _ s => s) (fun _ _ _ => trivial) (fun vR HR hR => ?_)
 obtain ⟨rfl, rfl⟩ := hR
 change TL _ _ _ _ _ _ _ _ _ [blkA b28 (RepT.cells (RepT.mk i (.pointer (some ⟨lg, 0, none⟩)) ViewT.zero RowT.zero MirT.zero AccT.zero 0 (.pointer none) BookT.zero false 0 0 0 (.slice none 0 0) (#v[0, 0, 0, 0, 0]) (#v[RowT.zero, RowT.zero, RowT.zero, RowT.zero, RowT.zero]))) 104, lgP lg d ((([]).length : Nat) : Int) ((sizeS ([]) : Nat) : Int), rcP vr [], dkL d ([])]
 refine TL.callR (A := [blkA b28 (RepT.cells (RepT.mk i (.pointer (some ⟨lg, 0, none⟩)) ViewT.zero RowT.zero MirT.zero AccT.zero 0 (.pointer none) BookT.zero false 0 0 0 (.slice none 0 0) (#v[0, 0, 0, 0, 0]) (#v[RowT.zero, RowT.zero, RowT.zero, RowT.zero, RowT.zero]))) 104]) (Want.plain rfl) rfl rfl rfl nm35 rfl (enter_does b28 (RepT.mk i (.pointer (some ⟨lg, 0, none⟩)) ViewT.zero RowT.zero MirT.zero AccT.zero 0 (.pointer none) BookT.zero false 0 0 0 (.slice none 0 0) (#v[0, 0, 0, 0, 0]) (#v[RowT.zero, RowT.zero, RowT.zero, RowT.zero, RowT.zero])) firstV) (fun _ s => s) (fun _ _ _ => trivial) (fun vR HR hR => ?_)
 obtain rfl := hR
 change TL _ _ _ _ _ _ _ _ _ [blkA b28 (RepT.cells (enterF (RepT.mk i (.pointer (some ⟨lg, 0, none⟩)) ViewT.zero RowT.zero MirT.zero AccT.zero 0 (.pointer none) BookT.zero false 0 0 0 (.slice none 0 0) (#v[0, 0, 0, 0, 0]) (#v[RowT.zero, RowT.zero, RowT.zero, RowT.zero, RowT.zero])) firstV)) 104, lgP lg d ((([]).length : Nat) : Int) ((sizeS ([]) : Nat) : Int), rcP vr [], dkL d ([])]
 refine nx J8 ?_
 refine TC.seq fun _ J9 => ?_
 refine sr fun _ J10 => ?_
 refine mv ?_
 refine tp (PV.lenV rfl Tryz.underlying97 rfl hsl) ?_
 refine mv ?_
 refine nx J10 ?_
 refine TC.block ?_
 refine TC.unroll 1 ?_
 refine sr fun _ J11 => ?_
 refine tp (PV.lss rfl rfl rfl) ?_
 refine nx J11 ?_
 refine TC.seq fun _ J12 => ?_
 refine TC.no rfl ?_
 refine TC.exit ?_
 refine TE.pass ?_
 refine TE.pass ?_
 refine TE.hit ?_
 refine TE.next J9 ?_
 refine sr fun _ J13 => ?_
 refine mv ?_
 refine sg' ?_
 refine sg' ?_
 refine nx J13 ?_
 refine TC.ret ?_
 refine TE.weak (Sub.refl _) (fun _ s => sep_keep [0, 0, 1] rfl s) ?_
 refine TE.ret2 rfl rfl rfl ?_
 exact ⟨b28, lg, rfl, rfl⟩
theorem outNew {P : Program} {w0 : World} {F : Hl} {n : Nat} {ops : Array Oper} {Q : QQ} {l : List Oper} {D : List Deferred} {L : List (Nat × Value)} {H : List HP} {b : Nat} (h : TL P w0 F n ops Q l D L (outP b [] :: H)) : TL P w0 F n ops Q l D L (blkA b [.slice none 0 0] 32 :: H) :=
  TL.ownNilI 84 193 (fun _ => TL.mono (fun _ s => sep_close (p := fun vs : Value => [blkA b [vs] 32, own vs 0 [] 84 193]) _ (sep_perm (List.Perm.swap _ _ _) s)) h)

theorem take1_does (r ob : Nat) (x : RepT) (from' : Int) (m : MsgT) (rs : List ReplyT) (l : List SaidT) (hk : m.kind = 1) (hid : machB x.id = true) (hwo : WF x.own.flat) (hal : Alone x) (hl : l.length ≤ 900000) (hrs : rs.length ≤ 1000000) :
    Does Tryz.prog 13 #[(.pointer (some ⟨r, 0, none⟩)), (.iface 34 (.pointer (some ⟨ob, 0, none⟩))), (.int .i64 (from')), (.agg (ints m.flat).toArray)] (fun _ => True) [blkA r (RepT.cells x) 104, own x.replies ((rs).length) (ints (List.flatMap ReplyT.flat (rs))) 92 3, outP ob (l)] (Ret (fun _ H => ∃ v', v'.oneCell' = true ∧ H = [blkA r (RepT.cells { keptS x from' m.version with replies := v' }) 104, own v' (keptR x from' m.version rs).length (ints (List.flatMap ReplyT.flat (keptR x from' m.version rs))) 92 3, outP ob (l ++ keptO x from' m.version)])) := by
 refine Does.body (vs := [(.pointer (some ⟨r, 0, none⟩)), (.iface 34 (.pointer (some ⟨ob, 0, none⟩))), (.int .i64 (from')), (.agg (ints m.flat).toArray)]) (n := 65) Tryz.func13 rfl rfl rfl (fun w0 F hF => ?_)
 refine sr fun _ J1 => ?_
 refine TL.box (Want.plain rfl) rfl rfl rfl rfl (fun b7 => ?_)
 change TL _ _ _ _ _ _ _ _ _ [blkA b7 (ints m.flat) 54, blkA r (RepT.cells x) 104, own x.replies ((rs).length) (ints (List.flatMap ReplyT.flat (rs))) 92 3, outP ob (l)]
 refine nx J1 ?_
 refine sr fun _ J2 => ?_
 refine tp (PV.fieldAddr (r := 0) rfl Tryz.underlying54 rfl sz3 rfl rfl) ?_
 refine tp (PV.load1 (v := (.int .i64 (m.kind))) rfl Tryz.underlying3 rfl rfl (Rd.own 0 rfl rfl) (MsgT.at_kind m rfl)) ?_
 refine nx J2 ?_
 refine TC.block ?_
 refine sr fun _ J3 => ?_
 refine tp (PV.eql rfl rfl rfl) ?_
 refine TL.dec (fun h11 => ?_) (fun h11 => ?_)
 · exact absurd h11 (by omega)
 refine sg' ?_
 refine nx J3 ?_
 refine TC.no rfl ?_
 refine sr fun _ J4 => ?_
 refine tp (PV.eql rfl rfl rfl) ?_
 refine TL.dec (fun h18 => ?_) (fun h18 => ?_)
 refine sg' ?_
 refine nx J4 ?_
 refine TC.yes rfl ?_
 refine TC.region ?_
 refine mv ?_
 refine mv ?_
 refine mv ?_
 refine tp (PV.loadN (vs := ints m.flat) rfl Tryz.underlying54 rfl sz54 rfl (Rd.own 0 rfl rfl) (MsgT.len m) (whole (MsgT.len m))) ?_
 refine TL.callR (A := [blkA r (RepT.cells x) 104, own x.replies ((rs).length) (ints (List.flatMap ReplyT.flat (rs))) 92 3, outP ob (l)]) (Want.plain rfl) rfl rfl rfl nm44 rfl (takeKept_does r ob x from' m (rs) (l) hid hwo hal hl hrs) (fun _ s => sep_selR [1, 1, 1] rfl s) (fun _ _ _ => trivial) (fun vR HR hR => ?_)
 obtain ⟨vk, hvk, rfl⟩ := hR
 change TL _ _ _ _ _ _ _ _ _ [blkA r (RepT.cells ({ keptS x from' m.version with replies := vk })) 104, own vk ((keptR x from' m.version rs).length) (ints (List.flatMap ReplyT.flat (keptR x from' m.version rs))) 92 3, outP ob (l ++ keptO x from' m.version), blkA b7 (ints m.flat) 54]
 refine TL.nil ?_
 refine TE.blockEnd ?_
 refine TE.weak (Sub.refl _) (fun _ s => sep_keep [0, 0, 0] rfl s) ?_
 refine TE.end0 rfl ?_
 exact ⟨vk, hvk, rfl⟩
 · exact absurd h18 (by omega)
theorem replies_does (r : Nat) (x : RepT) (rs : List ReplyT) (hrs : rs.length ≤ 1000000) :
    Does Tryz.prog 15 #[(.pointer (some ⟨r, 0, none⟩))] (fun _ => True) [blkA r (RepT.cells x) 104, own x.replies ((rs).length) (ints (List.flatMap ReplyT.flat (rs))) 92 3] (Ret (fun r' H => ∃ u, r' = u ∧ H = [blkA r (RepT.cells x) 104, own x.replies rs.length (ints (List.flatMap ReplyT.flat rs)) 92 3, own u rs.length (ints (List.flatMap ReplyT.flat rs)) 92 3])) := by
 refine Does.body (vs := [(.pointer (some ⟨r, 0, none⟩))]) (n := 8) Tryz.func15 rfl rfl rfl (fun w0 F hF => ?_)
 refine sr fun _ J1 => ?_
 refine TL.ownNilI 92 3 (fun _ => ?_)
 refine sg' ?_
 refine nx J1 ?_
 refine sr fun _ J2 => ?_
 refine mv ?_
 refine tp (PV.nilCheck rfl rfl) ?_
 refine tp (PV.fieldAddr (r := 1942) rfl Tryz.underlying104 rfl sz55 rfl rfl) ?_
 refine tp (PV.load1 (v := x.replies) rfl Tryz.underlying55 rfl rfl (Rd.own 1 rfl rfl) (RepT.at_replies x rfl)) ?_
 refine TL.append (k := 0) (news := ints (List.flatMap ReplyT.flat rs)) (nn' := rs.length) (xs' := ints (List.flatMap ReplyT.flat rs)) (Want.plain rfl) rfl rfl rfl Tryz.underlying55 in92 rfl rfl rfl rfl rfl rfl (fun _ s => Src.own 2 rfl rfl s) (ints_one _) (by simp only [maxLen]; omega) (by omega) (by simp) (by simp) (fun v7 ov7 => ?_)
 change TL _ _ _ _ _ _ _ _ _ [own v7 (rs.length) (ints (List.flatMap ReplyT.flat rs)) 92 3, blkA r (RepT.cells x) 104, own x.replies ((rs).length) (ints (List.flatMap ReplyT.flat (rs))) 92 3]
 refine sg' ?_
 refine nx J2 ?_
 refine TC.ret ?_
 refine TE.weak (Sub.refl _) (fun _ s => sep_keep [1, 1, 0] rfl s) ?_
 refine TE.ret1 rfl rfl ?_
 exact ⟨_, rfl, rfl⟩
theorem outOpen {P : Program} {w0 : World} {F : Hl} {n : Nat} {ops : Array Oper} {Q : QQ} {l : List Oper} {D : List Deferred} {L : List (Nat × Value)} {H : List HP} {b : Nat} {s : List SaidT} (h : ∀ vs, TL P w0 F n ops Q l D L (blkA b [vs] 32 :: own vs s.length (ints (s.flatMap SaidT.flat)) 84 193 :: H)) : TL P w0 F n ops Q l D L (outP b s :: H) :=
  TL.ex (fun _ s => sep_open s) h

end Go.Proofs.YtfceaphohlbnbaaGreat
end

section
namespace Api
open Go Leg Codec

def EC (us : List Value) (c : ChangeT) (_ : Hl) : Prop := us = ints c.flat
theorem EC.more (us : List Value) (c : ChangeT) (F g : Hl) (h : EC us c F) (_ : Dj g F) : EC us c (jn g F) := h
theorem addE_ok : ∀ (l : List Int) (s : Int), 0 ≤ s → (∀ n ∈ l, okN n = true) → s + l.sum ≤ 1099511627776 → (addE l s).2 = 0
  | [], _, _, _, _ => rfl
  | n :: l, s, h0, h, hs => by
    have hn : 0 ≤ n ∧ n ≤ 1099511627776 := of_decide_eq_true (h n (by simp))
    have hl : 0 ≤ l.sum := by
      have : ∀ l' : List Int, (∀ n ∈ l', okN n = true) → 0 ≤ l'.sum := fun l' => by
        induction l' with
        | nil => intro _; exact Int.le_refl _
        | cons a t ih => intro h; have h1 : 0 ≤ a ∧ a ≤ 1099511627776 := of_decide_eq_true (h a (by simp)); have := ih (fun n hn => h n (by simp [hn])); rw [List.sum_cons]; omega
      exact this l fun n hn => h n (by simp [hn])
    rw [List.sum_cons] at hs
    rw [addE, if_pos (h n (by simp)), if_neg (by omega)]
    exact addE_ok l (s + n) (by omega) (fun n hn => h n (by simp [hn])) (by omega)
def CellSo (c : CellT) (j : Nat) (sum : Int) : Prop := okN c.inn = true ∧ okN c.out = true ∧ (∀ (i : Nat) (h : i < 5), i < j → okN c.given[i] = true) ∧ sum = (c.given.toList.take j).sum
theorem CellSo.step {c : CellT} {j : Nat} {sum : Int} (h : CellSo c j sum) (hj : j < 5) (hg : 0 ≤ c.given[j] ∧ c.given[j] ≤ 1099511627776) : CellSo c (j + 1) (sum + c.given[j]) := by
  obtain ⟨h1, h2, h3, h4⟩ := h
  refine ⟨h1, h2, fun i hi hij => ?_, ?_⟩
  · by_cases q : i = j
    · subst q; exact decide_eq_true hg
    · exact h3 i hi (by omega)
  · rw [List.take_succ_eq_append_getElem (by simpa using hj), List.sum_append, ← h4]; simp
theorem CellSo.okC {c : CellT} {sum : Int} (h : CellSo c 5 sum) (hs : sum ≤ 1099511627776) : okC c = true := by
  obtain ⟨h1, h2, h3, h4⟩ := h
  rw [List.take_of_length_le (by simp)] at h4
  unfold Api.okC
  rw [h1, h2, Bool.true_and, Bool.true_and, decide_eq_true_iff]
  refine addE_ok _ 0 (by omega) (fun n hn => ?_) (by omega)
  obtain ⟨i, hi, rfl⟩ := List.getElem_of_mem hn
  have := h3 i (by simpa using hi) (by simpa using hi)
  simpa using this
end Api
end

section
namespace Api
open Go Leg Codec

theorem flatsL_inj : ∀ (a b : List CellT), a.length = b.length → flats a = flats b → a = b
  | [], [], _, _ => rfl
  | [], _ :: _, h, _ => by cases h
  | _ :: _, [], h, _ => by cases h
  | x :: a, y :: b, h, e => by
    simp only [flats, List.flatMap_cons] at e
    obtain ⟨h1, h2⟩ := List.append_inj e (by simp [CellT.flat])
    rw [flat7_inj h1, flatsL_inj a b (by simpa using h) h2]
theorem flats_inj {v w : Vector CellT 4} (h : flats v.toList = flats w.toList) : v = w := Vector.toList_inj.1 (flatsL_inj _ _ (by simp) h)
theorem wf_bd {n : Int} (h : (Lit.int .i64 n).wf = true) : -9223372036854775808 ≤ n ∧ n < 9223372036854775808 := by
  have m1 : IntKind.i64.min = -9223372036854775808 := by decide
  have m2 : IntKind.i64.max = 9223372036854775807 := by decide
  simp only [Lit.wf, m1, m2, Bool.and_eq_true, decide_eq_true_eq] at h
  omega
theorem addE_mem : ∀ (l : List Int) (s : Int), (addE l s).2 = 0 → ∀ n ∈ l, okN n = true
  | [], _, _, n, hn => by cases hn
  | a :: l, s, h, n, hn => by
    rw [addE] at h
    by_cases h1 : okN a = true
    · rw [if_pos h1] at h
      by_cases h2 : a > 1099511627776 - s
      · rw [if_pos h2] at h; cases h
      · rw [if_neg h2] at h
        rcases List.mem_cons.1 hn with rfl | hn
        · exact h1
        · exact addE_mem l _ h n hn
    · rw [if_neg h1] at h; cases h
theorem okN_small {n : Int} (h : okN n = true) : Small n := by
  have : 0 ≤ n ∧ n ≤ 1099511627776 := of_decide_eq_true h
  exact ⟨this.1, by omega⟩
theorem TameC.of {c : CellT} (h : okC c = true) : TameC c := by
  unfold okC at h
  rw [Bool.and_eq_true, Bool.and_eq_true, decide_eq_true_iff] at h
  refine ⟨okN_small h.1.1, okN_small h.1.2, fun j hj => okN_small (addE_mem _ _ h.2 _ ?_)⟩
  rw [← Vector.getElem_toList (h := by simpa using hj)]
  exact List.getElem_mem _
theorem okCs_tame {v : Vector CellT 4} (h : okCs v = true) (k : Nat) (hk : k < 4) : TameC v[k] := TameC.of (of_decide_eq_true h k hk)
theorem TameR.of {x : RowT} (hw : WF x.flat) (h : rightR x = true) : TameR x := by
  unfold rightR at h
  rw [Bool.and_eq_true, Bool.and_eq_true, decide_eq_true_iff, decide_eq_true_iff] at h
  obtain ⟨⟨h1, h2⟩, h3⟩ := h
  have hh : ∀ (j : Nat) (hj : j < 5), (0 : Int) ≤ x.heir[j] ∧ okCs x.left[j] = true ∧ (x.heir[j] = (0 : Int) → flats x.left[j].toList = flats RowT.zero.left[0].toList) := fun j hj => by
    have := h3 j hj
    unfold hokR at this
    rw [Bool.and_eq_true, Bool.and_eq_true, decide_eq_true_iff, decide_eq_true_iff] at this
    exact ⟨this.1.1, this.1.2, this.2⟩
  refine ⟨⟨h1, (wf_bd (hw _ (by simp [RowT.flat]))).2⟩, fun k hk => okCs_tame h2 k hk, fun j hj => ⟨(hh j hj).1, (wf_bd (hw _ ?_)).2⟩, fun j k hj hk => okCs_tame (hh j hj).2.1 k hk, fun j hj e => flats_inj ((hh j hj).2.2 e)⟩
  have : x.heir[j] ∈ x.heir.toList := by rw [← Vector.getElem_toList (h := by simpa using hj)]; exact List.getElem_mem _
  simp [RowT.flat, this]
theorem wf_cons {n : Int} {l : List Int} (h : 0 ≤ n ∧ n < 9223372036854775808) (hl : WF l) : WF (n :: l) := fun m hm => by
  rcases List.mem_cons.1 hm with rfl | hm
  · exact wf_small h
  · exact hl m hm
theorem wf_app {a b : List Int} (ha : WF a) (hb : WF b) : WF (a ++ b) := fun m hm => by
  rcases List.mem_append.1 hm with hm | hm
  · exact ha m hm
  · exact hb m hm
theorem wf_nil : WF [] := fun _ h => by cases h
theorem OkB.wf {b : BallotT} (h : OkB b) : WF b.flat := wf_cons h.1 (wf_cons ⟨h.2.1, by have := h.2.2; omega⟩ wf_nil)
theorem OkC.wf {c : ChangeT} (h : OkC c) : WF c.flat := wf_cons ⟨h.1.1, by have := h.1.2; omega⟩ (wf_cons ⟨h.2.1.1, by have := h.2.1.2; omega⟩ (wf_cons ⟨h.2.2.1, by have := h.2.2.2; omega⟩ wf_nil))
theorem OkV.wf {v : ViewT} (h : OkV v) : WF v.flat := wf_cons h.1 (wf_cons ⟨h.2.1.1, by have := h.2.1.2; omega⟩ fun n hn => by
  obtain ⟨j, hj, rfl⟩ := List.getElem_of_mem hn
  rw [Vector.length_toList] at hj
  have := h.2.2 j hj
  simpa using wf_small ⟨this.1, by omega⟩)
theorem nm_zero : Nm 0 := ⟨by decide, by decide⟩
theorem OkB.zero : OkB .zero := ⟨nm_zero, by decide, by decide⟩
theorem OkC.zero : OkC .zero := ⟨by decide, by decide, by decide⟩
theorem OkV.zero : OkV .zero := ⟨nm_zero, by decide, fun i h => by have := Rng.zero i h; omega⟩
theorem OkM.wf {m : MsgT} (h : OkM m) : WF m.flat := wf_cons ⟨h.kind.1, by have := h.kind.2; omega⟩ (wf_cons ⟨h.whose.1, by have := h.whose.2; omega⟩ (wf_app h.row.wf (wf_cons h.version (wf_cons h.epoch (wf_app h.ballot.wf (wf_app h.had.wf (wf_app h.change.wf h.view.wf)))))))
theorem OkM.zero : OkM .zero := ⟨by decide, by decide, tame_rzero, nm_zero, nm_zero, .zero, .zero, .zero, .zero⟩
theorem OkRc.wf {m : RecT} (h : OkRc m) : WF m.flat := wf_cons ⟨h.kind.1, by have := h.kind.2; omega⟩ (wf_cons ⟨h.whose.1, by have := h.whose.2; omega⟩ (wf_app h.row.wf (wf_cons h.epoch (wf_app h.ballot.wf (wf_app h.change.wf h.view.wf)))))
theorem OkRc.zero : OkRc .zero := ⟨by decide, by decide, tame_rzero, nm_zero, .zero, .zero, .zero⟩
theorem MsgT.of (l : List Int) (h : l.length = 192) : ∃ x : MsgT, x.flat = l := by
  match l, h with
  | a :: b :: l, h =>
    have h' : l.length = 190 := by simpa using h
    obtain ⟨x, hx⟩ := RowT.of (l.take 174) (by rw [List.length_take]; omega)
    have h2 : (l.drop 174).length = 16 := by rw [List.length_drop]; omega
    rw [← List.take_append_drop 174 l, ← hx]
    generalize l.drop 174 = r at h2
    match r, h2 with
    | [c, d, e1, e2, f1, f2, g1, g2, g3, v1, v2, h0, h1, h2, h3, h4], _ => exact ⟨⟨a, b, x, c, d, ⟨e1, e2⟩, ⟨f1, f2⟩, ⟨g1, g2, g3⟩, ⟨v1, v2, #v[h0, h1, h2, h3, h4]⟩⟩, by simp [MsgT.flat, BallotT.flat, ChangeT.flat, ViewT.flat]⟩
theorem ViewT.of (l : List Int) (h : l.length = 7) : ∃ x : ViewT, x.flat = l := by
  match l, h with
  | [v1, v2, h0, h1, h2, h3, h4], _ => exact ⟨⟨v1, v2, #v[h0, h1, h2, h3, h4]⟩, by simp [ViewT.flat]⟩
theorem ChangeT.of (l : List Int) (h : l.length = 3) : ∃ x : ChangeT, x.flat = l := by
  match l, h with
  | [a, b, c], _ => exact ⟨⟨a, b, c⟩, rfl⟩
end Api
end

section
namespace Api
open Go Leg Codec Dsk Wal

theorem v5_list (v : Vector Int 5) : v.toList = [v[0], v[1], v[2], v[3], v[4]] := by
  obtain ⟨⟨l⟩, h⟩ := v
  match l, h with
  | [a, b, c, d, e], _ => rfl
structure CellOk (c : CellT) : Prop where
  inn : 0 ≤ c.inn ∧ c.inn ≤ 1099511627776
  out : 0 ≤ c.out ∧ c.out ≤ 1099511627776
  given : (0 : Int) ≤ c.given[0] ∧ (0 : Int) ≤ c.given[1] ∧ (0 : Int) ≤ c.given[2] ∧ (0 : Int) ≤ c.given[3] ∧ (0 : Int) ≤ c.given[4]
  sum : c.given[0] + c.given[1] + c.given[2] + c.given[3] + c.given[4] ≤ 1099511627776
theorem CellOk.zero : CellOk .zero := ⟨by decide, by decide, by decide, by decide⟩
theorem okN_of {n : Int} (h : 0 ≤ n ∧ n ≤ 1099511627776) : okN n = true := decide_eq_true h
theorem CellOk.right {c : CellT} (h : CellOk c) : okC c = true := by
  obtain ⟨h1, h2, ⟨g0, g1, g2, g3, g4⟩, hs⟩ := h
  unfold okC
  rw [okN_of h1, okN_of h2, v5_list, Bool.true_and, Bool.true_and, decide_eq_true_iff]
  generalize c.given[0] = a at *
  generalize c.given[1] = b at *
  generalize c.given[2] = d at *
  generalize c.given[3] = e at *
  generalize c.given[4] = f at *
  rw [addE, if_pos (okN_of (by omega)), if_neg (by omega), addE, if_pos (okN_of (by omega)), if_neg (by omega), addE, if_pos (okN_of (by omega)), if_neg (by omega), addE, if_pos (okN_of (by omega)), if_neg (by omega), addE, if_pos (okN_of (by omega)), if_neg (by omega), addE]
theorem CellOk.sumG {c : CellT} (h : CellOk c) : sumG c = c.given[0] + c.given[1] + c.given[2] + c.given[3] + c.given[4] := by
  obtain ⟨h1, h2, ⟨g0, g1, g2, g3, g4⟩, hs⟩ := h
  unfold Api.sumG
  rw [v5_list]
  simp only [List.foldl_cons, List.foldl_nil]
  rw [w64_eq (n := (0 : Int) + c.given[0]) (by omega) (by omega), w64_eq (n := (0 : Int) + c.given[0] + c.given[1]) (by omega) (by omega), w64_eq (n := (0 : Int) + c.given[0] + c.given[1] + c.given[2]) (by omega) (by omega), w64_eq (n := (0 : Int) + c.given[0] + c.given[1] + c.given[2] + c.given[3]) (by omega) (by omega), w64_eq (by omega) (by omega)]
  omega
theorem CellOk.put {c : CellT} (h : CellOk c) {q : Nat} (hq : q < 5) {n : Int} (hn : 0 ≤ n) (hs : c.given[0] + c.given[1] + c.given[2] + c.given[3] + c.given[4] + n ≤ 1099511627776) : CellOk { c with given := c.given.set q (c.given[q] + n) hq } := by
  obtain ⟨h1, h2, ⟨g0, g1, g2, g3, g4⟩, _⟩ := h
  refine ⟨h1, h2, ?_, ?_⟩
  · match q, hq with
    | 0, _ | 1, _ | 2, _ | 3, _ | 4, _ => simp [Vector.getElem_set]; omega
  · match q, hq with
    | 0, _ | 1, _ | 2, _ | 3, _ | 4, _ => simp [Vector.getElem_set]; omega
structure OwnOk (y : RowT) (k : Nat) : Prop where
  ver : 0 ≤ y.version ∧ y.version ≤ k
  cells : ∀ (i : Nat) (h : i < 4), CellOk y.cells[i]
  heir : y.heir = RowT.zero.heir
  left : y.left = RowT.zero.left
theorem OwnOk.zero (k : Nat) : OwnOk .zero k := ⟨⟨by decide, by show (0 : Int) ≤ (k : Int); omega⟩, fun i h => by rw [cell_z i h]; exact .zero, rfl, rfl⟩
theorem OwnOk.more {y : RowT} {k m : Nat} (h : OwnOk y k) (hm : k ≤ m) : OwnOk y m := ⟨⟨h.ver.1, by have := h.ver.2; omega⟩, h.cells, h.heir, h.left⟩
theorem OwnOk.cellAt {y : RowT} {k : Nat} (h : OwnOk y k) (key : Int) : CellOk (cellAt y key) := by
  unfold Api.cellAt
  split
  · exact h.cells _ _
  · exact .zero
theorem OwnOk.moreR {y : RowT} {k : Nat} (h : OwnOk y k) (hk : k ≤ 1000000) {key n counts : Int} {c : CellT} (hc : counts ≤ 1099511627776 - n → CellOk c) : OwnOk (moreR y key n counts c).1 (k + 1) := by
  unfold Api.moreR
  split
  · exact .zero _
  · rename_i hn
    have hv := h.ver
    refine ⟨?_, fun i hi => ?_, ?_, ?_⟩
    · show 0 ≤ w64 (y.version + 1) ∧ w64 (y.version + 1) ≤ _
      rw [w64_eq (by omega) (by omega)]; omega
    · show CellOk (putCell y key c).cells[i]
      unfold putCell
      split
      · rename_i hkk
        show CellOk (y.cells.set key.toNat c (key_lt hkk))[i]
        rw [Vector.getElem_set]
        split
        · exact hc (by omega)
        · exact h.cells i hi
      · exact h.cells i hi
    · show (putCell y key c).heir = _
      unfold putCell; split <;> exact h.heir
    · show (putCell y key c).left = _
      unfold putCell; split <;> exact h.left
theorem askB_pos {key n : Int} (h : askB key n = true) : 1 ≤ n ∧ n ≤ 1099511627776 := by
  unfold askB at h
  rw [Bool.and_eq_true, Bool.and_eq_true] at h
  have h1 : 1 ≤ n := of_decide_eq_true h.1.2
  have h2 : 0 ≤ n ∧ n ≤ 1099511627776 := of_decide_eq_true h.2
  exact ⟨h1, h2.2⟩
theorem OwnOk.inc {y : RowT} {k : Nat} (h : OwnOk y k) (hk : k ≤ 1000000) (key n : Int) : OwnOk (rowInc y key n).1 (k + 1) := by
  unfold rowInc
  split
  · rename_i ha
    have hn := askB_pos ha
    have hc := h.cellAt key
    refine h.moreR hk fun hl => ⟨?_, hc.out, hc.given, hc.sum⟩
    have := hc.inn
    show 0 ≤ w64 _ ∧ w64 _ ≤ _
    rw [w64_eq (by omega) (by omega)]; omega
  · exact .zero _
theorem OwnOk.dec {y : RowT} {k : Nat} (h : OwnOk y k) (hk : k ≤ 1000000) (key n : Int) : OwnOk (rowDec y key n).1 (k + 1) := by
  unfold rowDec
  split
  · rename_i ha
    have hn := askB_pos ha
    have hc := h.cellAt key
    refine h.moreR hk fun hl => ⟨hc.inn, ?_, hc.given, hc.sum⟩
    have := hc.out
    show 0 ≤ w64 _ ∧ w64 _ ≤ _
    rw [w64_eq (by omega) (by omega)]; omega
  · exact .zero _
theorem OwnOk.give {y : RowT} {k : Nat} (h : OwnOk y k) (hk : k ≤ 1000000) (key n to' : Int) : OwnOk (rowGive y key n to').1 (k + 1) := by
  unfold rowGive
  split
  · rename_i ha
    rw [Bool.and_eq_true] at ha
    have hn := askB_pos ha.2
    have hc := h.cellAt key
    obtain ⟨q, hq, e⟩ : ∃ q : Nat, q < 5 ∧ to' = ((q : Nat) : Int) := by have h5 : 0 ≤ to' ∧ to' < 5 := of_decide_eq_true ha.1; exact ⟨to'.toNat, by omega, by omega⟩
    subst e
    refine h.moreR hk fun hl => ?_
    rw [hc.sumG] at hl
    rw [givenOf_at _ hq, giveTo, dif_pos ha.1]
    have hq2 : 0 ≤ (Api.cellAt y key).given[q] ∧ (Api.cellAt y key).given[q] ≤ (1099511627776 : Int) := by
      obtain ⟨h1, h2, ⟨g0, g1, g2, g3, g4⟩, hs⟩ := hc
      match q, hq with
      | 0, _ | 1, _ | 2, _ | 3, _ | 4, _ => exact ⟨by assumption, by omega⟩
    rw [w64_eq (by omega) (by omega)]
    exact hc.put hq (by omega) (by omega)
  · exact .zero _
theorem OwnOk.tame {y : RowT} {k : Nat} (h : OwnOk y k) (hk : k ≤ 1000000) : TameR y := ⟨⟨h.ver.1, by have := h.ver.2; omega⟩, fun i hi => TameC.of (h.cells i hi).right, fun i hi => by rw [show y.heir[i] = RowT.zero.heir[i] from by simp only [h.heir]]; exact tame_rzero.heir i hi,
  fun i k hi hk => by rw [show y.left[i][k] = RowT.zero.left[i][k] from by simp only [h.left]]; exact tame_rzero.left i k hi hk, fun i hi _ => by rw [show y.left[i] = RowT.zero.left[i] from by simp only [h.left]]; exact tame_rzero.none i hi (by match i, hi with | 0, _ | 1, _ | 2, _ | 3, _ | 4, _ => rfl)⟩
theorem right_rzero : rightR RowT.zero = true := by decide +kernel
theorem OwnOk.right {y : RowT} {k : Nat} (h : OwnOk y k) : rightR y = true := by
  have h0 := right_rzero
  unfold rightR at h0 ⊢
  rw [Bool.and_eq_true, Bool.and_eq_true] at h0 ⊢
  refine ⟨⟨decide_eq_true h.ver.1, decide_eq_true fun i hi => (h.cells i hi).right⟩, ?_⟩
  have := h0.2
  rw [decide_eq_true_iff] at this ⊢
  intro j hj
  have q := this j hj
  simp only [h.heir, h.left]
  exact q
theorem encHeirs_zero {y : RowT} (h : y.heir = RowT.zero.heir) : ∀ m i, (encHeirs y m i).length ≤ 10 * m
  | 0, _ => by simp [encHeirs]
  | m + 1, i => by
    have ih := encHeirs_zero h m (i + 1)
    simp only [encHeirs, List.length_append]
    by_cases hi : i < 5
    · have h0 : y.heir[i] = (0 : Int) := by
        have e : y.heir[i] = RowT.zero.heir[i] := by simp only [h]
        rw [e]
        match i, hi with
        | 0, _ | 1, _ | 2, _ | 3, _ | 4, _ => rfl
      rw [dif_pos hi, h0, if_neg (by decide), List.append_nil]
      have := encN_len 0
      omega
    · rw [dif_neg hi]; simp only [List.length_nil]; omega
theorem OwnOk.len {y : RowT} {k : Nat} (h : OwnOk y k) : piecesN (encR (rowRec y)).length ≤ 7 := by
  have h1 := encN_len y.version
  have h2 := encs_len (flats y.cells.toList)
  have h3 := encHeirs_zero h.heir 5 0
  have h4 := encs_len [(0 : Int)]
  rw [flats_length] at h2
  simp at h2
  have : (encR (rowRec y)).length ≤ 360 := by
    simp only [encR, rowRec, if_true, encRow, List.length_append, List.length_cons, List.length_nil] at *
    omega
  unfold piecesN
  split <;> omega
theorem OwnOk.plan {x : RepT} {k : Nat} (h : OwnOk x.own k) (hk : k ≤ 1000000) (o : OpT) : OwnOk (planF x o).1 (k + 1) := by
  unfold planF
  split
  · exact .zero _
  split
  · exact .zero _
  split
  · exact .zero _
  split
  · exact .zero _
  split
  · exact .zero _
  split
  · exact .zero _
  · show OwnOk (growOf x o).1 (k + 1)
    unfold growOf
    split
    · exact h.inc hk _ _
    split
    · exact h.dec hk _ _
    split
    · split
      · exact h.give hk _ _ _
      · exact .zero _
    · exact .zero _
end Api
end

section
namespace Api
open Go Leg Codec Dsk Wal

structure Lone (x : RepT) (lg : Nat) (id : Int) (k : Nat) : Prop where
  id : x.id = id
  view : x.view = firstV
  log : x.log = .pointer (some ⟨lg, 0, none⟩)
  own : OwnOk x.own k
theorem Lone.new (id : Int) (lg k : Nat) : Lone (newRep id lg) lg id k := ⟨rfl, rfl, rfl, OwnOk.zero k⟩
variable {x : RepT} {lg k : Nat} {id : Int}
theorem Lone.more (h : Lone x lg id k) {m : Nat} (hm : k ≤ m) : Lone x lg id m := ⟨h.id, h.view, h.log, h.own.more hm⟩
theorem Lone.rep (h : Lone x lg id k) (v : Value) : Lone { x with replies := v } lg id k := ⟨h.id, h.view, h.log, h.own⟩
theorem Lone.book (h : Lone x lg id k) (b : BookT) : Lone { x with book := b } lg id k := ⟨h.id, h.view, h.log, h.own⟩
theorem Lone.kept (h : Lone x lg id k) (w ver : Int) : Lone (keptS x w ver) lg id k := by
  obtain ⟨h1, h2, h3, h4, _⟩ := keptS_own x w ver
  exact ⟨h2.trans h.id, h3.trans h.view, h4.trans h.log, by rw [h1]; exact h.own⟩
theorem Lone.keep (h : Lone x lg id k) : Lone (keepX x id) lg id k := (h.kept _ _).kept _ _
theorem Lone.client (h : Lone x lg id k) (hk : k ≤ 1000000) (o : OpT) : Lone (clientX x o) lg id (k + 1) := by
  unfold clientX
  split
  · exact ⟨h.id, h.view, h.log, h.own.more (Nat.le_succ _)⟩
  · exact ⟨h.id, h.view, h.log, OwnOk.plan (x := opsF x) h.own hk o⟩
theorem Lone.alone (h : Lone x lg id k) : Alone x := alone_first h.view
theorem Lone.wf (h : Lone x lg id k) (hk : k ≤ 1000000) : WF x.own.flat := (h.own.tame hk).wf
theorem Lone.mach (h : Lone x lg id k) (hm : machB id = true) : machB x.id = true := by rw [h.id]; exact hm
theorem Lone.room (h : Lone x lg id k) (hk : k ≤ 1000000) (o : OpT) : piecesN (encR (rowRec (cN x o).1)).length ≤ 7 := (OwnOk.plan (x := opsF x) h.own hk o).len
theorem tellL_len (x : RepT) : (tellL x).length ≤ 2 := by
  unfold tellL
  rw [List.length_map]
  refine Nat.le_trans (List.length_filter_le _ _) ?_
  unfold witL
  split <;> simp
theorem clientO_len (x : RepT) (o : OpT) : (clientO x o).length ≤ 2 := by
  unfold clientO
  split
  · decide
  · exact tellL_len _
theorem clientR_len (x : RepT) (o : OpT) (rs : List ReplyT) : (clientR x o rs).length ≤ rs.length + 1 := by
  unfold clientR
  split <;> simp
theorem clientC_size {recs : List (List UInt8)} (h : Lone x lg id k) (hk : k ≤ 1000000) (o : OpT) : sizeS (clientC x o recs) ≤ sizeS recs + 7 := by
  unfold clientC
  split
  · omega
  · rw [sizeS_add]; have := h.room hk o; omega
end Api
namespace Api
open Go Leg Codec Dsk Wal
theorem clientX_rep (y : RepT) (v : Value) (o : OpT) : clientX { y with replies := v } o = { clientX y o with replies := v } := by
  unfold clientX
  rw [show doneB { y with replies := v } o = doneB y o from rfl]
  split <;> rfl
end Api
namespace Api
open Go Leg Codec Dsk Wal
def ER (us : List Value) (x : RowT) (_ : Hl) : Prop := us = ints x.flat ∧ WF x.flat
end Api
end

section
namespace Go.Proofs.YtfceaphohlbnbaaGreat

open Go Leg Codec Api Dsk Wal

set_option linter.unusedSimpArgs false
set_option linter.unusedVariables false

set_option maxRecDepth 100000

set_option maxHeartbeats 8000000

theorem dkNew_does : Does Tryz.prog 11 #[] (fun _ => True) [] (Ret (fun r' H => ∃ d, r' = .pointer (some ⟨d, 0, none⟩) ∧ H = [dkL d []])) :=
  Does.fold dk_new fun e H hp => by
    cases e with
    | returned v => obtain ⟨d, rfl, rfl⟩ := hp; exact ⟨_, fun _ s => sep_close (p := fun D : { D : DS // LogD D [] ∧ D.dn = false ∧ D.ar = false } => [dk d D.1]) ⟨DS.new, LogD.new, rfl, rfl⟩ s, d, rfl, rfl⟩
    | panicked c => exact hp.elim
    | outgrown => exact hp.elim

theorem clientL_does (r ob lg d : Nat) (y : RepT) (rv : Value) (o : OpT) (recs : List (List UInt8)) (rs : List ReplyT) (l : List SaidT) {id : Int} {k : Nat} (h : Lone y lg id k) (hm : machB id = true) (hk : k ≤ 1000000) (hroom : sizeS recs + 7 ≤ 2048) (hl : l.length ≤ 900000) (hrs : rs.length ≤ 1000000) (hkind : memb firstV id = true → o.kind ≠ 4) :
  Does Tryz.prog 12 #[.pointer (some ⟨r, 0, none⟩), .iface 34 (.pointer (some ⟨ob, 0, none⟩)), .agg (ints o.flat).toArray] (fun _ => True) [blkA r (RepT.cells { y with replies := rv }) 104, lgL lg d (recs), dkL d (recs), own rv (rs).length (ints (List.flatMap ReplyT.flat (rs))) 92 3, outP ob (l)] (Ret (fun r' H => r' = .int .i64 (cN y o).2.2 ∧ ∃ v', v'.oneCell' = true ∧ H = [blkA r (RepT.cells { clientX y o with replies := v' }) 104, lgL lg d (clientC y o recs), dkL d (clientC y o recs), own v' (clientR y o rs).length (ints (List.flatMap ReplyT.flat (clientR y o rs))) 92 3, outP ob (l ++ clientO y o)])) := by
  have := client_does r ob lg d { y with replies := rv } o recs rs l h.log (fun _ _ => by have := (h.rep rv).room hk o; omega) hl hrs (h.mach hm) (by show memb y.view y.id = true → _; rw [h.view, h.id]; exact hkind)
  rw [clientX_rep] at this
  exact this

theorem take1L_does (r ob lg : Nat) (y : RepT) (rv : Value) (from' : Int) (m : MsgT) (ver : Int) (rs : List ReplyT) (l : List SaidT) {id : Int} {k : Nat} (h : Lone y lg id k) (hm : machB id = true) (hk : k ≤ 1000000) (hkind : m.kind = 1) (hver : m.version = ver) (hl : l.length ≤ 900000) (hrs : rs.length ≤ 1000000) :
  Does Tryz.prog 13 #[.pointer (some ⟨r, 0, none⟩), .iface 34 (.pointer (some ⟨ob, 0, none⟩)), .int .i64 from', .agg (ints m.flat).toArray] (fun _ => True) [blkA r (RepT.cells { y with replies := rv }) 104, own rv (rs).length (ints (List.flatMap ReplyT.flat (rs))) 92 3, outP ob (l)] (Ret (fun _ H => ∃ v', v'.oneCell' = true ∧ H = [blkA r (RepT.cells { keptS y from' ver with replies := v' }) 104, own v' (keptR y from' ver rs).length (ints (List.flatMap ReplyT.flat (keptR y from' ver rs))) 92 3, outP ob (l ++ keptO y from' ver)])) := by
  have := take1_does r ob { y with replies := rv } from' m rs l hkind (h.mach hm) (h.wf hk) (h.rep rv).alone hl hrs
  rw [keptS_rep, hver] at this
  exact this

theorem rBusyL_does (r : Nat) (y : RepT) (rv : Value) : Does Tryz.prog 14 #[.pointer (some ⟨r, 0, none⟩)] (fun _ => True) [blkA r (RepT.cells { y with replies := rv }) 104] (Ret (fun r' H => r' = .bool y.busy ∧ H = [blkA r (RepT.cells { y with replies := rv }) 104])) := rBusy_does r { y with replies := rv }

theorem rOwnL_does (r : Nat) (y : RepT) (rv : Value) : Does Tryz.prog 18 #[.pointer (some ⟨r, 0, none⟩)] (fun _ => True) [blkA r (RepT.cells { y with replies := rv }) 104] (Ret (fun r' H => r' = .agg (ints y.own.flat).toArray ∧ H = [blkA r (RepT.cells { y with replies := rv }) 104])) := rOwn_does r { y with replies := rv }

theorem rValueL_does (r : Nat) (y : RepT) (rv : Value) (key : Int) : Does Tryz.prog 16 #[.pointer (some ⟨r, 0, none⟩), .int .i64 key] (fun _ => True) [blkA r (RepT.cells { y with replies := rv }) 104] (Ret (fun r' H => r' = .int .i64 (bookValue y.book key) ∧ H = [blkA r (RepT.cells { y with replies := rv }) 104])) := rValue_does r { y with replies := rv } key

end Go.Proofs.YtfceaphohlbnbaaGreat
end

section
namespace Go.Proofs.YtfceaphohlbnbaaGreat

open Go Leg Codec Api Dsk Wal

set_option linter.unusedSimpArgs false
set_option linter.unusedVariables false

set_option maxRecDepth 100000

set_option maxHeartbeats 8000000

theorem fit_does  :
    Does Tryz.prog 9 #[] (fun _ => True) [] (Ret (fun r' H => r' = .bool true ∧ H = [])) := by
 refine Does.body (vs := []) (n := 67) Tryz.func9 rfl rfl rfl (fun w0 F hF => ?_)
 refine sr fun _ J1 => ?_
 refine sg' ?_
 refine nx J1 ?_
 refine sr fun _ J2 => ?_
 refine TL.callR (A := []) (Want.plain rfl) rfl rfl rfl nm11 rfl (dkNew_does) (fun _ s => s) (fun _ _ _ => trivial) (fun vR HR hR => ?_)
 obtain ⟨d, rfl, rfl⟩ := hR
 change TL _ _ _ _ _ _ _ _ _ [dkL d ([])]
 refine sg' ?_
 refine nx J2 ?_
 refine TC.seq fun _ J3 => ?_
 refine sr fun _ J4 => ?_
 refine mv ?_
 refine tp (PV.ptrNil rfl Tryz.underlying28 rfl rfl) ?_
 refine nx J4 ?_
 refine TC.no rfl ?_
 refine TC.skip ?_
 refine TE.next J3 ?_
 refine sr fun _ J5 => ?_
 refine mv ?_
 refine TL.callR (A := [dkL d ([])]) (Want.plain rfl) rfl rfl rfl nm10 rfl (start0_does 0 d) (fun _ s => s) (fun _ _ _ => trivial) (fun vR HR hR => ?_)
 obtain ⟨r, lg, rfl, rfl⟩ := hR
 change TL _ _ _ _ _ _ _ _ _ [blkA r (RepT.cells ({ newRep 0 lg with replies := (.slice none 0 0) })) 104, lgP lg d ((([]).length : Nat) : Int) ((sizeS ([]) : Nat) : Int), dkL d ([])]
 have hL0 := Lone.new 0 lg 0
 have hrn : ([] : List ReplyT).length = 0 := rfl
 refine TL.ownNilI 92 3 (fun _ => ?_)
 change TL _ _ _ _ _ _ _ _ _ [own (.slice none 0 0) ((([] : List ReplyT)).length) (ints (List.flatMap ReplyT.flat (([] : List ReplyT)))) 92 3, blkA r (RepT.cells ({ newRep 0 lg with replies := (.slice none 0 0) })) 104, lgP lg d ((([]).length : Nat) : Int) ((sizeS ([]) : Nat) : Int), dkL d ([])]
 refine mv ?_
 refine tp (PV.extract (vs := [(.pointer (some ⟨r, 0, none⟩)), (.int .i64 0)]) rfl rfl rfl) ?_
 refine tp (PV.extract (vs := [(.pointer (some ⟨r, 0, none⟩)), (.int .i64 0)]) rfl rfl rfl) ?_
 refine sg' ?_
 refine sg' ?_
 refine nx J5 ?_
 refine TC.seq fun _ J6 => ?_
 refine sr fun _ J7 => ?_
 refine mv ?_
 refine tp (PV.neq rfl rfl rfl) ?_
 refine mv ?_
 refine tq (PV.move rfl rfl) ?_
 refine tq (PV.ptrNil rfl Tryz.underlying24 rfl rfl) ?_
 refine tp (PV.pick rfl rfl rfl) ?_
 refine nx J7 ?_
 refine TC.no rfl ?_
 refine TC.skip ?_
 refine TE.next J6 ?_
 refine sr fun _ J8 => ?_
 refine TL.alloc (Want.plain rfl) rfl rfl rfl z32 (fun b4 => ?_)
 change TL _ _ _ _ _ _ _ _ _ [blkA b4 [(.slice none 0 0)] 32, own (.slice none 0 0) ((([] : List ReplyT)).length) (ints (List.flatMap ReplyT.flat (([] : List ReplyT)))) 92 3, blkA r (RepT.cells ({ newRep 0 lg with replies := (.slice none 0 0) })) 104, lgP lg d ((([]).length : Nat) : Int) ((sizeS ([]) : Nat) : Int), dkL d ([])]
 refine nx J8 ?_
 refine sr fun _ J9 => ?_
 refine outNew ?_
 change TL _ _ _ _ _ _ _ _ _ [outP b4 ([]), own (.slice none 0 0) ((([] : List ReplyT)).length) (ints (List.flatMap ReplyT.flat (([] : List ReplyT)))) 92 3, blkA r (RepT.cells ({ newRep 0 lg with replies := (.slice none 0 0) })) 104, lgP lg d ((([]).length : Nat) : Int) ((sizeS ([]) : Nat) : Int), dkL d ([])]
 refine mv ?_
 refine tp (PV.mkIface rfl Tryz.underlying34 rfl rfl) ?_
 refine tp (PV.buildSegs (cs := ints (OpT.mk 0 0 0 0 5 ChangeT.zero 0 0 0).flat) (segs := [[Value.int .i64 0], [Value.int .i64 0], [Value.int .i64 0], [Value.int .i64 0], [Value.int .i64 0], ints ChangeT.zero.flat, [Value.int .i64 0], [Value.int .i64 0], [Value.int .i64 0]]) (res := [[Value.int .i64 0], [Value.int .i64 0], [Value.int .i64 0], [Value.int .i64 0], [Value.int .i64 5], ints ChangeT.zero.flat, [Value.int .i64 0], [Value.int .i64 0], [Value.int .i64 0]]) (parts := [(0, [Value.int .i64 0]), (4, [Value.int .i64 5])]) rfl rfl Tryz.underlying38 (by kernel_rfl) (by kernel_rfl) rfl (putSegs_step rfl ((rfl : [Value.int .i64 0].length = 1).trans (rfl : [Value.int .i64 0].length = 1).symm) (putSegs_step rfl ((rfl : [Value.int .i64 5].length = 1).trans (rfl : [Value.int .i64 0].length = 1).symm) putSegs_nil)) (OpT.eq (OpT.mk 0 0 0 0 5 ChangeT.zero 0 0 0)).symm) ?_
 refine TL.callR (A := [blkA r (RepT.cells ({ newRep 0 lg with replies := (.slice none 0 0) })) 104, lgP lg d ((([]).length : Nat) : Int) ((sizeS ([]) : Nat) : Int), dkL d ([]), own (.slice none 0 0) ((([] : List ReplyT)).length) (ints (List.flatMap ReplyT.flat (([] : List ReplyT)))) 92 3, outP b4 ([])]) (Want.plain rfl) rfl rfl rfl nm12 rfl (clientL_does r b4 lg d (newRep 0 lg) (.slice none 0 0) (OpT.mk 0 0 0 0 5 ChangeT.zero 0 0 0) ([]) (([] : List ReplyT)) ([]) hL0 (by decide) (by omega) (by decide) (by decide) (by omega) (fun _ => by decide)) (fun _ s => sep_selR [2, 2, 2, 1, 0] rfl s) (fun _ _ _ => trivial) (fun vR HR hR => ?_)
 obtain ⟨hvvc1, vc1, hvc1, rfl⟩ := hR
 rw [show (cN (newRep 0 lg) (OpT.mk 0 0 0 0 5 ChangeT.zero 0 0 0)).2.2 = 0 from by kernel_rfl] at hvvc1
 subst hvvc1
 change TL _ _ _ _ _ _ _ _ _ [blkA r (RepT.cells ({ clientX (newRep 0 lg) (OpT.mk 0 0 0 0 5 ChangeT.zero 0 0 0) with replies := vc1 })) 104, lgP lg d (((clientC (newRep 0 lg) (OpT.mk 0 0 0 0 5 ChangeT.zero 0 0 0) ([])).length : Nat) : Int) ((sizeS (clientC (newRep 0 lg) (OpT.mk 0 0 0 0 5 ChangeT.zero 0 0 0) ([])) : Nat) : Int), dkL d (clientC (newRep 0 lg) (OpT.mk 0 0 0 0 5 ChangeT.zero 0 0 0) ([])), own vc1 ((clientR (newRep 0 lg) (OpT.mk 0 0 0 0 5 ChangeT.zero 0 0 0) (([] : List ReplyT))).length) (ints (List.flatMap ReplyT.flat (clientR (newRep 0 lg) (OpT.mk 0 0 0 0 5 ChangeT.zero 0 0 0) (([] : List ReplyT))))) 92 3, outP b4 ([] ++ clientO (newRep 0 lg) (OpT.mk 0 0 0 0 5 ChangeT.zero 0 0 0))]
 have hLvc1 := hL0.client (by omega) (OpT.mk 0 0 0 0 5 ChangeT.zero 0 0 0)
 have hovc1 := clientO_len (newRep 0 lg) (OpT.mk 0 0 0 0 5 ChangeT.zero 0 0 0)
 have hrvc1 := clientR_len (newRep 0 lg) (OpT.mk 0 0 0 0 5 ChangeT.zero 0 0 0) (([] : List ReplyT))
 have hsvc1 := clientC_size (recs := []) hL0 (by omega) (OpT.mk 0 0 0 0 5 ChangeT.zero 0 0 0)
 refine sg' ?_
 refine nx J9 ?_
 refine sr fun _ J10 => ?_
 refine mv ?_
 refine TL.callR (A := [blkA r (RepT.cells ({ clientX (newRep 0 lg) (OpT.mk 0 0 0 0 5 ChangeT.zero 0 0 0) with replies := vc1 })) 104]) (Want.plain rfl) rfl rfl rfl nm14 rfl (rBusyL_does r (clientX (newRep 0 lg) (OpT.mk 0 0 0 0 5 ChangeT.zero 0 0 0)) vc1 ) (fun _ s => s) (fun _ _ _ => trivial) (fun vR HR hR => ?_)
 obtain ⟨hv, rfl⟩ := hR
 rw [show (clientX (newRep 0 lg) (OpT.mk 0 0 0 0 5 ChangeT.zero 0 0 0)).busy = true from by kernel_rfl] at hv
 subst hv
 change TL _ _ _ _ _ _ _ _ _ [blkA r (RepT.cells ({ clientX (newRep 0 lg) (OpT.mk 0 0 0 0 5 ChangeT.zero 0 0 0) with replies := vc1 })) 104, lgP lg d (((clientC (newRep 0 lg) (OpT.mk 0 0 0 0 5 ChangeT.zero 0 0 0) ([])).length : Nat) : Int) ((sizeS (clientC (newRep 0 lg) (OpT.mk 0 0 0 0 5 ChangeT.zero 0 0 0) ([])) : Nat) : Int), dkL d (clientC (newRep 0 lg) (OpT.mk 0 0 0 0 5 ChangeT.zero 0 0 0) ([])), own vc1 ((clientR (newRep 0 lg) (OpT.mk 0 0 0 0 5 ChangeT.zero 0 0 0) (([] : List ReplyT))).length) (ints (List.flatMap ReplyT.flat (clientR (newRep 0 lg) (OpT.mk 0 0 0 0 5 ChangeT.zero 0 0 0) (([] : List ReplyT))))) 92 3, outP b4 ([] ++ clientO (newRep 0 lg) (OpT.mk 0 0 0 0 5 ChangeT.zero 0 0 0))]
 refine sg' ?_
 refine nx J10 ?_
 refine sr fun _ J11 => ?_
 refine mv ?_
 refine tp (PV.mkIface rfl Tryz.underlying34 rfl rfl) ?_
 refine tp (PV.buildSegs (cs := ints (MsgT.mk 1 0 RowT.zero 1 0 BallotT.zero BallotT.zero ChangeT.zero ViewT.zero).flat) (segs := [[Value.int .i64 0], [Value.int .i64 0], ints RowT.zero.flat, [Value.int .i64 0], [Value.int .i64 0], ints BallotT.zero.flat, ints BallotT.zero.flat, ints ChangeT.zero.flat, ints ViewT.zero.flat]) (res := [[Value.int .i64 1], [Value.int .i64 0], ints RowT.zero.flat, [Value.int .i64 1], [Value.int .i64 0], ints BallotT.zero.flat, ints BallotT.zero.flat, ints ChangeT.zero.flat, ints ViewT.zero.flat]) (parts := [(0, [Value.int .i64 1]), (3, [Value.int .i64 1])]) rfl rfl Tryz.underlying54 (by kernel_rfl) (by kernel_rfl) rfl (putSegs_step rfl ((rfl : [Value.int .i64 1].length = 1).trans (rfl : [Value.int .i64 0].length = 1).symm) (putSegs_step rfl ((rfl : [Value.int .i64 1].length = 1).trans (rfl : [Value.int .i64 0].length = 1).symm) putSegs_nil)) (MsgT.eq (MsgT.mk 1 0 RowT.zero 1 0 BallotT.zero BallotT.zero ChangeT.zero ViewT.zero)).symm) ?_
 refine TL.callR (A := [blkA r (RepT.cells ({ clientX (newRep 0 lg) (OpT.mk 0 0 0 0 5 ChangeT.zero 0 0 0) with replies := vc1 })) 104, own vc1 ((clientR (newRep 0 lg) (OpT.mk 0 0 0 0 5 ChangeT.zero 0 0 0) (([] : List ReplyT))).length) (ints (List.flatMap ReplyT.flat (clientR (newRep 0 lg) (OpT.mk 0 0 0 0 5 ChangeT.zero 0 0 0) (([] : List ReplyT))))) 92 3, outP b4 ([] ++ clientO (newRep 0 lg) (OpT.mk 0 0 0 0 5 ChangeT.zero 0 0 0))]) (Want.plain rfl) rfl rfl rfl nm13 rfl (take1L_does r b4 lg (clientX (newRep 0 lg) (OpT.mk 0 0 0 0 5 ChangeT.zero 0 0 0)) vc1 1 (MsgT.mk 1 0 RowT.zero 1 0 BallotT.zero BallotT.zero ChangeT.zero ViewT.zero) 1 (clientR (newRep 0 lg) (OpT.mk 0 0 0 0 5 ChangeT.zero 0 0 0) (([] : List ReplyT))) ([] ++ clientO (newRep 0 lg) (OpT.mk 0 0 0 0 5 ChangeT.zero 0 0 0)) hLvc1 (by decide) (by omega) rfl rfl (by simp only [List.length_append, List.length_nil]; omega) (by omega)) (fun _ s => sep_selR [0, 2, 2] rfl s) (fun _ _ _ => trivial) (fun vR HR hR => ?_)
 obtain ⟨vk2, hvk2, rfl⟩ := hR
 change TL _ _ _ _ _ _ _ _ _ [blkA r (RepT.cells ({ keptS (clientX (newRep 0 lg) (OpT.mk 0 0 0 0 5 ChangeT.zero 0 0 0)) 1 1 with replies := vk2 })) 104, own vk2 ((keptR (clientX (newRep 0 lg) (OpT.mk 0 0 0 0 5 ChangeT.zero 0 0 0)) 1 1 (clientR (newRep 0 lg) (OpT.mk 0 0 0 0 5 ChangeT.zero 0 0 0) (([] : List ReplyT)))).length) (ints (List.flatMap ReplyT.flat (keptR (clientX (newRep 0 lg) (OpT.mk 0 0 0 0 5 ChangeT.zero 0 0 0)) 1 1 (clientR (newRep 0 lg) (OpT.mk 0 0 0 0 5 ChangeT.zero 0 0 0) (([] : List ReplyT)))))) 92 3, outP b4 ([] ++ clientO (newRep 0 lg) (OpT.mk 0 0 0 0 5 ChangeT.zero 0 0 0) ++ keptO (clientX (newRep 0 lg) (OpT.mk 0 0 0 0 5 ChangeT.zero 0 0 0)) 1 1), lgP lg d (((clientC (newRep 0 lg) (OpT.mk 0 0 0 0 5 ChangeT.zero 0 0 0) ([])).length : Nat) : Int) ((sizeS (clientC (newRep 0 lg) (OpT.mk 0 0 0 0 5 ChangeT.zero 0 0 0) ([])) : Nat) : Int), dkL d (clientC (newRep 0 lg) (OpT.mk 0 0 0 0 5 ChangeT.zero 0 0 0) ([]))]
 have hLvk2 := hLvc1.kept 1 1
 have hovk2 := keptO_len (clientX (newRep 0 lg) (OpT.mk 0 0 0 0 5 ChangeT.zero 0 0 0)) 1 1
 have hrvk2 := keptR_len (clientX (newRep 0 lg) (OpT.mk 0 0 0 0 5 ChangeT.zero 0 0 0)) 1 1 (clientR (newRep 0 lg) (OpT.mk 0 0 0 0 5 ChangeT.zero 0 0 0) (([] : List ReplyT)))
 refine nx J11 ?_
 refine sr fun _ J12 => ?_
 refine mv ?_
 refine TL.callR (A := [blkA r (RepT.cells ({ keptS (clientX (newRep 0 lg) (OpT.mk 0 0 0 0 5 ChangeT.zero 0 0 0)) 1 1 with replies := vk2 })) 104]) (Want.plain rfl) rfl rfl rfl nm14 rfl (rBusyL_does r (keptS (clientX (newRep 0 lg) (OpT.mk 0 0 0 0 5 ChangeT.zero 0 0 0)) 1 1) vk2 ) (fun _ s => s) (fun _ _ _ => trivial) (fun vR HR hR => ?_)
 obtain ⟨hv, rfl⟩ := hR
 rw [show (keptS (clientX (newRep 0 lg) (OpT.mk 0 0 0 0 5 ChangeT.zero 0 0 0)) 1 1).busy = true from by kernel_rfl] at hv
 subst hv
 change TL _ _ _ _ _ _ _ _ _ [blkA r (RepT.cells ({ keptS (clientX (newRep 0 lg) (OpT.mk 0 0 0 0 5 ChangeT.zero 0 0 0)) 1 1 with replies := vk2 })) 104, own vk2 ((keptR (clientX (newRep 0 lg) (OpT.mk 0 0 0 0 5 ChangeT.zero 0 0 0)) 1 1 (clientR (newRep 0 lg) (OpT.mk 0 0 0 0 5 ChangeT.zero 0 0 0) (([] : List ReplyT)))).length) (ints (List.flatMap ReplyT.flat (keptR (clientX (newRep 0 lg) (OpT.mk 0 0 0 0 5 ChangeT.zero 0 0 0)) 1 1 (clientR (newRep 0 lg) (OpT.mk 0 0 0 0 5 ChangeT.zero 0 0 0) (([] : List ReplyT)))))) 92 3, outP b4 ([] ++ clientO (newRep 0 lg) (OpT.mk 0 0 0 0 5 ChangeT.zero 0 0 0) ++ keptO (clientX (newRep 0 lg) (OpT.mk 0 0 0 0 5 ChangeT.zero 0 0 0)) 1 1), lgP lg d (((clientC (newRep 0 lg) (OpT.mk 0 0 0 0 5 ChangeT.zero 0 0 0) ([])).length : Nat) : Int) ((sizeS (clientC (newRep 0 lg) (OpT.mk 0 0 0 0 5 ChangeT.zero 0 0 0) ([])) : Nat) : Int), dkL d (clientC (newRep 0 lg) (OpT.mk 0 0 0 0 5 ChangeT.zero 0 0 0) ([]))]
 refine sg' ?_
 refine nx J12 ?_
 refine sr fun _ J13 => ?_
 refine mv ?_
 refine tp (PV.mkIface rfl Tryz.underlying34 rfl rfl) ?_
 refine tp (PV.buildSegs (cs := ints (MsgT.mk 1 0 RowT.zero 1 0 BallotT.zero BallotT.zero ChangeT.zero ViewT.zero).flat) (segs := [[Value.int .i64 0], [Value.int .i64 0], ints RowT.zero.flat, [Value.int .i64 0], [Value.int .i64 0], ints BallotT.zero.flat, ints BallotT.zero.flat, ints ChangeT.zero.flat, ints ViewT.zero.flat]) (res := [[Value.int .i64 1], [Value.int .i64 0], ints RowT.zero.flat, [Value.int .i64 1], [Value.int .i64 0], ints BallotT.zero.flat, ints BallotT.zero.flat, ints ChangeT.zero.flat, ints ViewT.zero.flat]) (parts := [(0, [Value.int .i64 1]), (3, [Value.int .i64 1])]) rfl rfl Tryz.underlying54 (by kernel_rfl) (by kernel_rfl) rfl (putSegs_step rfl ((rfl : [Value.int .i64 1].length = 1).trans (rfl : [Value.int .i64 0].length = 1).symm) (putSegs_step rfl ((rfl : [Value.int .i64 1].length = 1).trans (rfl : [Value.int .i64 0].length = 1).symm) putSegs_nil)) (MsgT.eq (MsgT.mk 1 0 RowT.zero 1 0 BallotT.zero BallotT.zero ChangeT.zero ViewT.zero)).symm) ?_
 refine TL.callR (A := [blkA r (RepT.cells ({ keptS (clientX (newRep 0 lg) (OpT.mk 0 0 0 0 5 ChangeT.zero 0 0 0)) 1 1 with replies := vk2 })) 104, own vk2 ((keptR (clientX (newRep 0 lg) (OpT.mk 0 0 0 0 5 ChangeT.zero 0 0 0)) 1 1 (clientR (newRep 0 lg) (OpT.mk 0 0 0 0 5 ChangeT.zero 0 0 0) (([] : List ReplyT)))).length) (ints (List.flatMap ReplyT.flat (keptR (clientX (newRep 0 lg) (OpT.mk 0 0 0 0 5 ChangeT.zero 0 0 0)) 1 1 (clientR (newRep 0 lg) (OpT.mk 0 0 0 0 5 ChangeT.zero 0 0 0) (([] : List ReplyT)))))) 92 3, outP b4 ([] ++ clientO (newRep 0 lg) (OpT.mk 0 0 0 0 5 ChangeT.zero 0 0 0) ++ keptO (clientX (newRep 0 lg) (OpT.mk 0 0 0 0 5 ChangeT.zero 0 0 0)) 1 1)]) (Want.plain rfl) rfl rfl rfl nm13 rfl (take1L_does r b4 lg (keptS (clientX (newRep 0 lg) (OpT.mk 0 0 0 0 5 ChangeT.zero 0 0 0)) 1 1) vk2 2 (MsgT.mk 1 0 RowT.zero 1 0 BallotT.zero BallotT.zero ChangeT.zero ViewT.zero) 1 (keptR (clientX (newRep 0 lg) (OpT.mk 0 0 0 0 5 ChangeT.zero 0 0 0)) 1 1 (clientR (newRep 0 lg) (OpT.mk 0 0 0 0 5 ChangeT.zero 0 0 0) (([] : List ReplyT)))) ([] ++ clientO (newRep 0 lg) (OpT.mk 0 0 0 0 5 ChangeT.zero 0 0 0) ++ keptO (clientX (newRep 0 lg) (OpT.mk 0 0 0 0 5 ChangeT.zero 0 0 0)) 1 1) hLvk2 (by decide) (by omega) rfl rfl (by simp only [List.length_append, List.length_nil]; omega) (by omega)) (fun _ s => s) (fun _ _ _ => trivial) (fun vR HR hR => ?_)
 obtain ⟨vk3, hvk3, rfl⟩ := hR
 change TL _ _ _ _ _ _ _ _ _ [blkA r (RepT.cells ({ keptS (keptS (clientX (newRep 0 lg) (OpT.mk 0 0 0 0 5 ChangeT.zero 0 0 0)) 1 1) 2 1 with replies := vk3 })) 104, own vk3 ((keptR (keptS (clientX (newRep 0 lg) (OpT.mk 0 0 0 0 5 ChangeT.zero 0 0 0)) 1 1) 2 1 (keptR (clientX (newRep 0 lg) (OpT.mk 0 0 0 0 5 ChangeT.zero 0 0 0)) 1 1 (clientR (newRep 0 lg) (OpT.mk 0 0 0 0 5 ChangeT.zero 0 0 0) (([] : List ReplyT))))).length) (ints (List.flatMap ReplyT.flat (keptR (keptS (clientX (newRep 0 lg) (OpT.mk 0 0 0 0 5 ChangeT.zero 0 0 0)) 1 1) 2 1 (keptR (clientX (newRep 0 lg) (OpT.mk 0 0 0 0 5 ChangeT.zero 0 0 0)) 1 1 (clientR (newRep 0 lg) (OpT.mk 0 0 0 0 5 ChangeT.zero 0 0 0) (([] : List ReplyT))))))) 92 3, outP b4 ([] ++ clientO (newRep 0 lg) (OpT.mk 0 0 0 0 5 ChangeT.zero 0 0 0) ++ keptO (clientX (newRep 0 lg) (OpT.mk 0 0 0 0 5 ChangeT.zero 0 0 0)) 1 1 ++ keptO (keptS (clientX (newRep 0 lg) (OpT.mk 0 0 0 0 5 ChangeT.zero 0 0 0)) 1 1) 2 1), lgP lg d (((clientC (newRep 0 lg) (OpT.mk 0 0 0 0 5 ChangeT.zero 0 0 0) ([])).length : Nat) : Int) ((sizeS (clientC (newRep 0 lg) (OpT.mk 0 0 0 0 5 ChangeT.zero 0 0 0) ([])) : Nat) : Int), dkL d (clientC (newRep 0 lg) (OpT.mk 0 0 0 0 5 ChangeT.zero 0 0 0) ([]))]
 have hLvk3 := hLvk2.kept 2 1
 have hovk3 := keptO_len (keptS (clientX (newRep 0 lg) (OpT.mk 0 0 0 0 5 ChangeT.zero 0 0 0)) 1 1) 2 1
 have hrvk3 := keptR_len (keptS (clientX (newRep 0 lg) (OpT.mk 0 0 0 0 5 ChangeT.zero 0 0 0)) 1 1) 2 1 (keptR (clientX (newRep 0 lg) (OpT.mk 0 0 0 0 5 ChangeT.zero 0 0 0)) 1 1 (clientR (newRep 0 lg) (OpT.mk 0 0 0 0 5 ChangeT.zero 0 0 0) (([] : List ReplyT))))
 refine nx J13 ?_
 refine sr fun _ J14 => ?_
 refine mv ?_
 refine tp (PV.eql rfl rfl rfl) ?_
 refine mv ?_
 refine tq (PV.move rfl rfl) ?_
 refine tp (PV.pick rfl rfl rfl) ?_
 refine mv ?_
 refine tq (PV.move rfl rfl) ?_
 refine tp (PV.pick rfl rfl rfl) ?_
 refine mv ?_
 refine tq (PV.move rfl rfl) ?_
 refine TL.callR (A := [blkA r (RepT.cells ({ keptS (keptS (clientX (newRep 0 lg) (OpT.mk 0 0 0 0 5 ChangeT.zero 0 0 0)) 1 1) 2 1 with replies := vk3 })) 104]) (Want.met rfl rfl rfl) rfl rfl rfl nm14 rfl (rBusyL_does r (keptS (keptS (clientX (newRep 0 lg) (OpT.mk 0 0 0 0 5 ChangeT.zero 0 0 0)) 1 1) 2 1) vk3 ) (fun _ s => s) (fun _ _ _ => trivial) (fun vR HR hR => ?_)
 obtain ⟨hv, rfl⟩ := hR
 rw [show (keptS (keptS (clientX (newRep 0 lg) (OpT.mk 0 0 0 0 5 ChangeT.zero 0 0 0)) 1 1) 2 1).busy = false from by kernel_rfl] at hv
 subst hv
 change TL _ _ _ _ _ _ _ _ _ [blkA r (RepT.cells ({ keptS (keptS (clientX (newRep 0 lg) (OpT.mk 0 0 0 0 5 ChangeT.zero 0 0 0)) 1 1) 2 1 with replies := vk3 })) 104, own vk3 ((keptR (keptS (clientX (newRep 0 lg) (OpT.mk 0 0 0 0 5 ChangeT.zero 0 0 0)) 1 1) 2 1 (keptR (clientX (newRep 0 lg) (OpT.mk 0 0 0 0 5 ChangeT.zero 0 0 0)) 1 1 (clientR (newRep 0 lg) (OpT.mk 0 0 0 0 5 ChangeT.zero 0 0 0) (([] : List ReplyT))))).length) (ints (List.flatMap ReplyT.flat (keptR (keptS (clientX (newRep 0 lg) (OpT.mk 0 0 0 0 5 ChangeT.zero 0 0 0)) 1 1) 2 1 (keptR (clientX (newRep 0 lg) (OpT.mk 0 0 0 0 5 ChangeT.zero 0 0 0)) 1 1 (clientR (newRep 0 lg) (OpT.mk 0 0 0 0 5 ChangeT.zero 0 0 0) (([] : List ReplyT))))))) 92 3, outP b4 ([] ++ clientO (newRep 0 lg) (OpT.mk 0 0 0 0 5 ChangeT.zero 0 0 0) ++ keptO (clientX (newRep 0 lg) (OpT.mk 0 0 0 0 5 ChangeT.zero 0 0 0)) 1 1 ++ keptO (keptS (clientX (newRep 0 lg) (OpT.mk 0 0 0 0 5 ChangeT.zero 0 0 0)) 1 1) 2 1), lgP lg d (((clientC (newRep 0 lg) (OpT.mk 0 0 0 0 5 ChangeT.zero 0 0 0) ([])).length : Nat) : Int) ((sizeS (clientC (newRep 0 lg) (OpT.mk 0 0 0 0 5 ChangeT.zero 0 0 0) ([])) : Nat) : Int), dkL d (clientC (newRep 0 lg) (OpT.mk 0 0 0 0 5 ChangeT.zero 0 0 0) ([]))]
 refine tq (PV.not (r := true) rfl rfl rfl) ?_
 refine tp (PV.pick rfl rfl rfl) ?_
 refine mv ?_
 refine tq (PV.move rfl rfl) ?_
 refine TL.callR (A := [blkA r (RepT.cells ({ keptS (keptS (clientX (newRep 0 lg) (OpT.mk 0 0 0 0 5 ChangeT.zero 0 0 0)) 1 1) 2 1 with replies := vk3 })) 104]) (Want.met rfl rfl rfl) rfl rfl rfl nm16 rfl (rValueL_does r (keptS (keptS (clientX (newRep 0 lg) (OpT.mk 0 0 0 0 5 ChangeT.zero 0 0 0)) 1 1) 2 1) vk3 0) (fun _ s => s) (fun _ _ _ => trivial) (fun vR HR hR => ?_)
 obtain ⟨hv, rfl⟩ := hR
 rw [show bookValue (keptS (keptS (clientX (newRep 0 lg) (OpT.mk 0 0 0 0 5 ChangeT.zero 0 0 0)) 1 1) 2 1).book 0 = 5 from by kernel_rfl] at hv
 subst hv
 change TL _ _ _ _ _ _ _ _ _ [blkA r (RepT.cells ({ keptS (keptS (clientX (newRep 0 lg) (OpT.mk 0 0 0 0 5 ChangeT.zero 0 0 0)) 1 1) 2 1 with replies := vk3 })) 104, own vk3 ((keptR (keptS (clientX (newRep 0 lg) (OpT.mk 0 0 0 0 5 ChangeT.zero 0 0 0)) 1 1) 2 1 (keptR (clientX (newRep 0 lg) (OpT.mk 0 0 0 0 5 ChangeT.zero 0 0 0)) 1 1 (clientR (newRep 0 lg) (OpT.mk 0 0 0 0 5 ChangeT.zero 0 0 0) (([] : List ReplyT))))).length) (ints (List.flatMap ReplyT.flat (keptR (keptS (clientX (newRep 0 lg) (OpT.mk 0 0 0 0 5 ChangeT.zero 0 0 0)) 1 1) 2 1 (keptR (clientX (newRep 0 lg) (OpT.mk 0 0 0 0 5 ChangeT.zero 0 0 0)) 1 1 (clientR (newRep 0 lg) (OpT.mk 0 0 0 0 5 ChangeT.zero 0 0 0) (([] : List ReplyT))))))) 92 3, outP b4 ([] ++ clientO (newRep 0 lg) (OpT.mk 0 0 0 0 5 ChangeT.zero 0 0 0) ++ keptO (clientX (newRep 0 lg) (OpT.mk 0 0 0 0 5 ChangeT.zero 0 0 0)) 1 1 ++ keptO (keptS (clientX (newRep 0 lg) (OpT.mk 0 0 0 0 5 ChangeT.zero 0 0 0)) 1 1) 2 1), lgP lg d (((clientC (newRep 0 lg) (OpT.mk 0 0 0 0 5 ChangeT.zero 0 0 0) ([])).length : Nat) : Int) ((sizeS (clientC (newRep 0 lg) (OpT.mk 0 0 0 0 5 ChangeT.zero 0 0 0) ([])) : Nat) : Int), dkL d (clientC (newRep 0 lg) (OpT.mk 0 0 0 0 5 ChangeT.zero 0 0 0) ([]))]
 refine tq (PV.eql rfl rfl rfl) ?_
 refine tp (PV.pick rfl rfl rfl) ?_
 refine mv ?_
 refine tq (PV.move rfl rfl) ?_
 refine TL.callR (A := [blkA r (RepT.cells ({ keptS (keptS (clientX (newRep 0 lg) (OpT.mk 0 0 0 0 5 ChangeT.zero 0 0 0)) 1 1) 2 1 with replies := vk3 })) 104, own vk3 ((keptR (keptS (clientX (newRep 0 lg) (OpT.mk 0 0 0 0 5 ChangeT.zero 0 0 0)) 1 1) 2 1 (keptR (clientX (newRep 0 lg) (OpT.mk 0 0 0 0 5 ChangeT.zero 0 0 0)) 1 1 (clientR (newRep 0 lg) (OpT.mk 0 0 0 0 5 ChangeT.zero 0 0 0) (([] : List ReplyT))))).length) (ints (List.flatMap ReplyT.flat (keptR (keptS (clientX (newRep 0 lg) (OpT.mk 0 0 0 0 5 ChangeT.zero 0 0 0)) 1 1) 2 1 (keptR (clientX (newRep 0 lg) (OpT.mk 0 0 0 0 5 ChangeT.zero 0 0 0)) 1 1 (clientR (newRep 0 lg) (OpT.mk 0 0 0 0 5 ChangeT.zero 0 0 0) (([] : List ReplyT))))))) 92 3]) (Want.met rfl rfl rfl) rfl rfl rfl nm15 rfl (replies_does r { (keptS (keptS (clientX (newRep 0 lg) (OpT.mk 0 0 0 0 5 ChangeT.zero 0 0 0)) 1 1) 2 1) with replies := vk3 } (keptR (keptS (clientX (newRep 0 lg) (OpT.mk 0 0 0 0 5 ChangeT.zero 0 0 0)) 1 1) 2 1 (keptR (clientX (newRep 0 lg) (OpT.mk 0 0 0 0 5 ChangeT.zero 0 0 0)) 1 1 (clientR (newRep 0 lg) (OpT.mk 0 0 0 0 5 ChangeT.zero 0 0 0) (([] : List ReplyT))))) (by omega)) (fun _ s => s) (fun _ _ _ => trivial) (fun vR HR hR => ?_)
 obtain ⟨_, rfl, rfl⟩ := hR
 revert vR
 intro uc4
 change TL _ _ _ _ _ _ _ _ _ [blkA r (RepT.cells ({ keptS (keptS (clientX (newRep 0 lg) (OpT.mk 0 0 0 0 5 ChangeT.zero 0 0 0)) 1 1) 2 1 with replies := vk3 })) 104, own vk3 ((keptR (keptS (clientX (newRep 0 lg) (OpT.mk 0 0 0 0 5 ChangeT.zero 0 0 0)) 1 1) 2 1 (keptR (clientX (newRep 0 lg) (OpT.mk 0 0 0 0 5 ChangeT.zero 0 0 0)) 1 1 (clientR (newRep 0 lg) (OpT.mk 0 0 0 0 5 ChangeT.zero 0 0 0) (([] : List ReplyT))))).length) (ints (List.flatMap ReplyT.flat (keptR (keptS (clientX (newRep 0 lg) (OpT.mk 0 0 0 0 5 ChangeT.zero 0 0 0)) 1 1) 2 1 (keptR (clientX (newRep 0 lg) (OpT.mk 0 0 0 0 5 ChangeT.zero 0 0 0)) 1 1 (clientR (newRep 0 lg) (OpT.mk 0 0 0 0 5 ChangeT.zero 0 0 0) (([] : List ReplyT))))))) 92 3, own uc4 ((keptR (keptS (clientX (newRep 0 lg) (OpT.mk 0 0 0 0 5 ChangeT.zero 0 0 0)) 1 1) 2 1 (keptR (clientX (newRep 0 lg) (OpT.mk 0 0 0 0 5 ChangeT.zero 0 0 0)) 1 1 (clientR (newRep 0 lg) (OpT.mk 0 0 0 0 5 ChangeT.zero 0 0 0) (([] : List ReplyT))))).length) (ints (List.flatMap ReplyT.flat (keptR (keptS (clientX (newRep 0 lg) (OpT.mk 0 0 0 0 5 ChangeT.zero 0 0 0)) 1 1) 2 1 (keptR (clientX (newRep 0 lg) (OpT.mk 0 0 0 0 5 ChangeT.zero 0 0 0)) 1 1 (clientR (newRep 0 lg) (OpT.mk 0 0 0 0 5 ChangeT.zero 0 0 0) (([] : List ReplyT))))))) 92 3, outP b4 ([] ++ clientO (newRep 0 lg) (OpT.mk 0 0 0 0 5 ChangeT.zero 0 0 0) ++ keptO (clientX (newRep 0 lg) (OpT.mk 0 0 0 0 5 ChangeT.zero 0 0 0)) 1 1 ++ keptO (keptS (clientX (newRep 0 lg) (OpT.mk 0 0 0 0 5 ChangeT.zero 0 0 0)) 1 1) 2 1), lgP lg d (((clientC (newRep 0 lg) (OpT.mk 0 0 0 0 5 ChangeT.zero 0 0 0) ([])).length : Nat) : Int) ((sizeS (clientC (newRep 0 lg) (OpT.mk 0 0 0 0 5 ChangeT.zero 0 0 0) ([])) : Nat) : Int), dkL d (clientC (newRep 0 lg) (OpT.mk 0 0 0 0 5 ChangeT.zero 0 0 0) ([]))]
 refine TL.ownLen 2 rfl rfl (fun hluc4 _ => ?_)
 refine tq (PV.lenV rfl Tryz.underlying55 rfl hluc4) ?_
 refine tq (PV.eql rfl rfl rfl) ?_
 refine TL.dec (fun h60 => ?_) (fun h60 => ?_)
 refine tp (PV.pick rfl rfl rfl) ?_
 refine mv ?_
 refine tq (PV.move rfl rfl) ?_
 refine TL.callR (A := [blkA r (RepT.cells ({ keptS (keptS (clientX (newRep 0 lg) (OpT.mk 0 0 0 0 5 ChangeT.zero 0 0 0)) 1 1) 2 1 with replies := vk3 })) 104]) (Want.met rfl rfl rfl) rfl rfl rfl nm18 rfl (rOwnL_does r (keptS (keptS (clientX (newRep 0 lg) (OpT.mk 0 0 0 0 5 ChangeT.zero 0 0 0)) 1 1) 2 1) vk3 ) (fun _ s => s) (fun _ _ _ => trivial) (fun vR HR hR => ?_)
 obtain ⟨rfl, rfl⟩ := hR
 change TL _ _ _ _ _ _ _ _ _ [blkA r (RepT.cells ({ keptS (keptS (clientX (newRep 0 lg) (OpT.mk 0 0 0 0 5 ChangeT.zero 0 0 0)) 1 1) 2 1 with replies := vk3 })) 104, own vk3 ((keptR (keptS (clientX (newRep 0 lg) (OpT.mk 0 0 0 0 5 ChangeT.zero 0 0 0)) 1 1) 2 1 (keptR (clientX (newRep 0 lg) (OpT.mk 0 0 0 0 5 ChangeT.zero 0 0 0)) 1 1 (clientR (newRep 0 lg) (OpT.mk 0 0 0 0 5 ChangeT.zero 0 0 0) (([] : List ReplyT))))).length) (ints (List.flatMap ReplyT.flat (keptR (keptS (clientX (newRep 0 lg) (OpT.mk 0 0 0 0 5 ChangeT.zero 0 0 0)) 1 1) 2 1 (keptR (clientX (newRep 0 lg) (OpT.mk 0 0 0 0 5 ChangeT.zero 0 0 0)) 1 1 (clientR (newRep 0 lg) (OpT.mk 0 0 0 0 5 ChangeT.zero 0 0 0) (([] : List ReplyT))))))) 92 3, own uc4 ((keptR (keptS (clientX (newRep 0 lg) (OpT.mk 0 0 0 0 5 ChangeT.zero 0 0 0)) 1 1) 2 1 (keptR (clientX (newRep 0 lg) (OpT.mk 0 0 0 0 5 ChangeT.zero 0 0 0)) 1 1 (clientR (newRep 0 lg) (OpT.mk 0 0 0 0 5 ChangeT.zero 0 0 0) (([] : List ReplyT))))).length) (ints (List.flatMap ReplyT.flat (keptR (keptS (clientX (newRep 0 lg) (OpT.mk 0 0 0 0 5 ChangeT.zero 0 0 0)) 1 1) 2 1 (keptR (clientX (newRep 0 lg) (OpT.mk 0 0 0 0 5 ChangeT.zero 0 0 0)) 1 1 (clientR (newRep 0 lg) (OpT.mk 0 0 0 0 5 ChangeT.zero 0 0 0) (([] : List ReplyT))))))) 92 3, outP b4 ([] ++ clientO (newRep 0 lg) (OpT.mk 0 0 0 0 5 ChangeT.zero 0 0 0) ++ keptO (clientX (newRep 0 lg) (OpT.mk 0 0 0 0 5 ChangeT.zero 0 0 0)) 1 1 ++ keptO (keptS (clientX (newRep 0 lg) (OpT.mk 0 0 0 0 5 ChangeT.zero 0 0 0)) 1 1) 2 1), lgP lg d (((clientC (newRep 0 lg) (OpT.mk 0 0 0 0 5 ChangeT.zero 0 0 0) ([])).length : Nat) : Int) ((sizeS (clientC (newRep 0 lg) (OpT.mk 0 0 0 0 5 ChangeT.zero 0 0 0) ([])) : Nat) : Int), dkL d (clientC (newRep 0 lg) (OpT.mk 0 0 0 0 5 ChangeT.zero 0 0 0) ([]))]
 refine TL.callR (A := []) (Want.met rfl rfl rfl) rfl rfl rfl nm33 rfl (rowRight_does ((keptS (keptS (clientX (newRep 0 lg) (OpT.mk 0 0 0 0 5 ChangeT.zero 0 0 0)) 1 1) 2 1).own) (hLvk3.wf (by omega))) (fun _ s => s) (fun _ _ _ => trivial) (fun vR HR hR => ?_)
 obtain ⟨hv, rfl⟩ := hR
 rw [hLvk3.own.right] at hv
 subst hv
 change TL _ _ _ _ _ _ _ _ _ [blkA r (RepT.cells ({ keptS (keptS (clientX (newRep 0 lg) (OpT.mk 0 0 0 0 5 ChangeT.zero 0 0 0)) 1 1) 2 1 with replies := vk3 })) 104, own vk3 ((keptR (keptS (clientX (newRep 0 lg) (OpT.mk 0 0 0 0 5 ChangeT.zero 0 0 0)) 1 1) 2 1 (keptR (clientX (newRep 0 lg) (OpT.mk 0 0 0 0 5 ChangeT.zero 0 0 0)) 1 1 (clientR (newRep 0 lg) (OpT.mk 0 0 0 0 5 ChangeT.zero 0 0 0) (([] : List ReplyT))))).length) (ints (List.flatMap ReplyT.flat (keptR (keptS (clientX (newRep 0 lg) (OpT.mk 0 0 0 0 5 ChangeT.zero 0 0 0)) 1 1) 2 1 (keptR (clientX (newRep 0 lg) (OpT.mk 0 0 0 0 5 ChangeT.zero 0 0 0)) 1 1 (clientR (newRep 0 lg) (OpT.mk 0 0 0 0 5 ChangeT.zero 0 0 0) (([] : List ReplyT))))))) 92 3, own uc4 ((keptR (keptS (clientX (newRep 0 lg) (OpT.mk 0 0 0 0 5 ChangeT.zero 0 0 0)) 1 1) 2 1 (keptR (clientX (newRep 0 lg) (OpT.mk 0 0 0 0 5 ChangeT.zero 0 0 0)) 1 1 (clientR (newRep 0 lg) (OpT.mk 0 0 0 0 5 ChangeT.zero 0 0 0) (([] : List ReplyT))))).length) (ints (List.flatMap ReplyT.flat (keptR (keptS (clientX (newRep 0 lg) (OpT.mk 0 0 0 0 5 ChangeT.zero 0 0 0)) 1 1) 2 1 (keptR (clientX (newRep 0 lg) (OpT.mk 0 0 0 0 5 ChangeT.zero 0 0 0)) 1 1 (clientR (newRep 0 lg) (OpT.mk 0 0 0 0 5 ChangeT.zero 0 0 0) (([] : List ReplyT))))))) 92 3, outP b4 ([] ++ clientO (newRep 0 lg) (OpT.mk 0 0 0 0 5 ChangeT.zero 0 0 0) ++ keptO (clientX (newRep 0 lg) (OpT.mk 0 0 0 0 5 ChangeT.zero 0 0 0)) 1 1 ++ keptO (keptS (clientX (newRep 0 lg) (OpT.mk 0 0 0 0 5 ChangeT.zero 0 0 0)) 1 1) 2 1), lgP lg d (((clientC (newRep 0 lg) (OpT.mk 0 0 0 0 5 ChangeT.zero 0 0 0) ([])).length : Nat) : Int) ((sizeS (clientC (newRep 0 lg) (OpT.mk 0 0 0 0 5 ChangeT.zero 0 0 0) ([])) : Nat) : Int), dkL d (clientC (newRep 0 lg) (OpT.mk 0 0 0 0 5 ChangeT.zero 0 0 0) ([]))]
 refine tp (PV.pick rfl rfl rfl) ?_
 refine sg' ?_
 refine nx J14 ?_
 refine TC.ret ?_
 refine TE.weak (Sub.refl _) (fun _ s => sep_keep [] rfl s) ?_
 refine TE.ret1 rfl rfl ?_
 exact ⟨rfl, rfl⟩
 · exact absurd (by kernel_rfl) h60
end Go.Proofs.YtfceaphohlbnbaaGreat
end

section
namespace Api
open Go Leg Codec Dsk Wal

def NoMem (id : Int) : Prop := memb firstV id = false ∧ machB id = true
theorem NoMem.of {id : Int} (h : id = 3 ∨ id = 4) : NoMem id := by
  rcases h with rfl | rfl
  · exact ⟨by kernel_rfl, by decide⟩
  · exact ⟨by kernel_rfl, by decide⟩
variable {id : Int} {lg i : Nat}
end Api
namespace Api
open Go Leg
theorem two {l : List Int} (h : l.length = 2) : ∃ a b, l = [a, b] := by
  match l, h with
  | [a, b], _ => exact ⟨a, b, rfl⟩
end Api
namespace Api
open Go Leg
end Api
end

section
namespace Api
open Go Leg Codec Dsk Wal
def mirRec (w : Int) (x : RowT) : RecT := { RecT.zero with kind := 1, whose := w, row := x }
def sealRec (w : Int) : RecT := { RecT.zero with kind := 2, whose := w }
def viewRec (v : ViewT) : RecT := { RecT.zero with kind := 5, view := v }
theorem mirRec_len (w : Int) (x : RowT) : (encR (mirRec w x)).length ≤ 1760 := by
  have h1 := encRow_len x
  have h2 := encs_len [(1 : Int), w]
  rw [show encR (mirRec w x) = encs [(1 : Int), w] ++ encRow x from rfl, List.length_append]
  simp only [List.length_cons, List.length_nil] at h2
  omega
theorem sealRec_len (w : Int) : (encR (sealRec w)).length ≤ 20 := by
  have h2 := encs_len [(2 : Int), w]
  rw [show encR (sealRec w) = encs [(2 : Int), w] from rfl]
  simp only [List.length_cons, List.length_nil] at h2
  omega
theorem viewRec_len (v : ViewT) : (encR (viewRec v)).length ≤ 80 := by
  have h1 := encs_len [(5 : Int)]
  have h2 := encs_len v.flat
  have h3 : v.flat.length = 7 := ints_len (ViewT.len v)
  rw [show encR (viewRec v) = encs [(5 : Int)] ++ encs v.flat from rfl, List.length_append]
  simp only [List.length_cons, List.length_nil] at h1
  omega
theorem pieces34 {n : Nat} (h : n ≤ 1760) : piecesN n ≤ 34 := by unfold piecesN; split <;> omega
theorem pieces2 {n : Nat} (h : n ≤ 80) : piecesN n ≤ 2 := by unfold piecesN; split <;> omega
def keptMsg (v : Int) : MsgT := { MsgT.zero with kind := 1, version := v }
def sealedMsg (w : Int) (x : RowT) : MsgT := { MsgT.zero with kind := 9, whose := w, row := x }
def rowB (x : RepT) (from' w : Int) : Bool := decide (w = from') && !mirSealed x.mirror w
def takeB (x : RepT) (from' w : Int) (y : RowT) : Bool := rowB x from' w && mirTakes x.mirror w y
def rowX (x : RepT) (from' w : Int) (y : RowT) : RepT := if takeB x from' w y then { x with mirror := (mirKeep x.mirror w y).1 } else x
def rowC (x : RepT) (from' w : Int) (y : RowT) (recs : List (List UInt8)) : List (List UInt8) := if takeB x from' w y then recs ++ [encR (mirRec w y)] else recs
def rowO (x : RepT) (from' w : Int) (y : RowT) : List SaidT := if rowB x from' w then [⟨from', keptMsg (mirRow (rowX x from' w y).mirror w).version⟩] else []
section
variable {x : RepT} {from' w : Int} {y : RowT} {recs : List (List UInt8)}
theorem row_no (h : rowB x from' w = false) : rowX x from' w y = x ∧ rowC x from' w y recs = recs ∧ rowO x from' w y = [] := by
  have e : takeB x from' w y = false := by unfold takeB; rw [h]; rfl
  unfold rowO rowX rowC
  rw [e, h]
  exact ⟨rfl, rfl, rfl⟩
theorem row_old (h : rowB x from' w = true) (t : mirTakes x.mirror w y = false) : rowX x from' w y = x ∧ rowC x from' w y recs = recs ∧ rowO x from' w y = [⟨from', keptMsg (mirRow x.mirror w).version⟩] := by
  have e : takeB x from' w y = false := by unfold takeB; rw [h, t]; rfl
  unfold rowO rowX rowC
  rw [e, h]
  exact ⟨rfl, rfl, rfl⟩
theorem row_yes (h : rowB x from' w = true) (t : mirTakes x.mirror w y = true) : rowX x from' w y = { x with mirror := (mirKeep x.mirror w y).1 } ∧ rowC x from' w y recs = recs ++ [encR (mirRec w y)] ∧ rowO x from' w y = [⟨from', keptMsg (mirRow (mirKeep x.mirror w y).1 w).version⟩] := by
  have e : takeB x from' w y = true := by unfold takeB; rw [h, t]; rfl
  unfold rowO rowX rowC
  rw [e, h]
  exact ⟨rfl, rfl, rfl⟩
end
def learnB (x : RepT) (v : ViewT) : Bool := decide (x.view.epoch < v.epoch)
def learnX (x : RepT) (v : ViewT) : RepT := if learnB x v then enterF x v else x
def learnC (x : RepT) (v : ViewT) (recs : List (List UInt8)) : List (List UInt8) := if learnB x v then recs ++ [encR (viewRec v)] else recs
def sealB (x : RepT) (from' w : Int) (v : ViewT) : Bool := decide (heirV (learnX x v).view w = some from')
def sealNew (x : RepT) (from' w : Int) (v : ViewT) : Bool := sealB x from' w v && !mirSealed x.mirror w
def sealX (x : RepT) (from' w : Int) (v : ViewT) : RepT := if sealNew x from' w v then { learnX x v with mirror := mirClose x.mirror w } else learnX x v
def sealC (x : RepT) (from' w : Int) (v : ViewT) (recs : List (List UInt8)) : List (List UInt8) := if sealNew x from' w v then learnC x v recs ++ [encR (sealRec w)] else learnC x v recs
def sealO (x : RepT) (from' w : Int) (v : ViewT) : List SaidT := if sealB x from' w v then [⟨from', sealedMsg w (mirRow (sealX x from' w v).mirror w)⟩] else []
section
variable {x : RepT} {from' w : Int} {v : ViewT} {recs : List (List UInt8)}
theorem learnX_mirror (x : RepT) (v : ViewT) : (learnX x v).mirror = x.mirror := by unfold learnX; split <;> rfl
theorem learnX_id (x : RepT) (v : ViewT) : (learnX x v).id = x.id := by unfold learnX; split <;> rfl
theorem learnX_log (x : RepT) (v : ViewT) : (learnX x v).log = x.log := by unfold learnX; split <;> rfl
theorem seal_no (h : sealB x from' w v = false) : sealX x from' w v = learnX x v ∧ sealC x from' w v recs = learnC x v recs ∧ sealO x from' w v = [] := by
  have e : sealNew x from' w v = false := by unfold sealNew; rw [h]; rfl
  unfold sealO sealX sealC
  rw [e, h]
  exact ⟨rfl, rfl, rfl⟩
theorem seal_old (h : sealB x from' w v = true) (t : mirSealed (learnX x v).mirror w = true) : sealX x from' w v = learnX x v ∧ sealC x from' w v recs = learnC x v recs ∧ sealO x from' w v = [⟨from', sealedMsg w (mirRow (learnX x v).mirror w)⟩] := by
  have e : sealNew x from' w v = false := by rw [learnX_mirror] at t; unfold sealNew; rw [h, t]; rfl
  unfold sealO sealX sealC
  rw [e, h]
  exact ⟨rfl, rfl, rfl⟩
theorem seal_yes (h : sealB x from' w v = true) (t : mirSealed (learnX x v).mirror w = false) : sealX x from' w v = { learnX x v with mirror := mirClose (learnX x v).mirror w } ∧ sealC x from' w v recs = learnC x v recs ++ [encR (sealRec w)] ∧ sealO x from' w v = [⟨from', sealedMsg w (mirRow (mirClose (learnX x v).mirror w) w)⟩] := by
  rw [learnX_mirror] at t ⊢
  have e : sealNew x from' w v = true := by unfold sealNew; rw [h, t]; rfl
  unfold sealO sealX sealC
  rw [e, h]
  exact ⟨rfl, rfl, rfl⟩
end
end Api
end

section
namespace Api
open Go Leg Codec Dsk Wal
def chS : ChangeT := ⟨1, 0, 1⟩
def viewS : ViewT := (nextV firstV chS).1
theorem nextS : nextV firstV chS = (viewS, 0) := by kernel_rfl
def mirY (lg : Nat) (sd : Bool) (M : MirT) : RepT := { (if sd then enterF (newRep 2 lg) viewS else newRep 2 lg) with mirror := M }
theorem mirY_zero (lg : Nat) : newRep 2 lg = mirY lg false MirT.zero := rfl
theorem mirY_id (lg : Nat) (sd : Bool) (M : MirT) : (mirY lg sd M).id = 2 := by cases sd <;> rfl
theorem mirY_log (lg : Nat) (sd : Bool) (M : MirT) : (mirY lg sd M).log = .pointer (some ⟨lg, 0, none⟩) := by cases sd <;> rfl
theorem mirY_view (lg : Nat) (M : MirT) : (mirY lg true M).view = viewS := rfl
theorem mirY_mirror (lg : Nat) (sd : Bool) (M : MirT) : (mirY lg sd M).mirror = M := rfl
theorem viewS_rng : Rng viewS := by
  have : ∀ i : Fin 5, 0 ≤ viewS.heirs[i.val] ∧ viewS.heirs[i.val] ≤ 5 := by decide +kernel
  exact fun i hi => this ⟨i, hi⟩
theorem viewS_heir : heirV viewS 0 = some 1 := by kernel_rfl
theorem viewS_wf : WF viewS.flat := by
  have : ∀ n ∈ viewS.flat, (Lit.int IntKind.i64 n).wf = true := by decide +kernel
  intro n hn; exact this n hn
theorem mirY_alone (lg : Nat) (sd : Bool) (M : MirT) : Alone (enterF (mirY lg sd M) viewS) := by
  refine ⟨viewS_rng, fun i hi => ?_⟩
  rw [show (enterF (mirY lg sd M) viewS).id = 2 from mirY_id lg sd M, show (enterF (mirY lg sd M) viewS).view = viewS from rfl]
  have : ∀ i : Fin 5, heirV viewS ((i.val : Nat) : Int) ≠ some 2 := by decide +kernel
  exact this ⟨i, hi⟩
theorem learn_mir (lg : Nat) (M : MirT) : learnX (mirY lg false M) viewS = mirY lg true M := by
  unfold learnX
  rw [show learnB (mirY lg false M) viewS = true from by
    unfold learnB
    rw [show (mirY lg false M).view = firstV from rfl]
    decide +kernel]
  rfl
theorem learn_rng (lg : Nat) (M : MirT) : Rng (learnX (mirY lg false M) viewS).view := by rw [learn_mir]; exact viewS_rng
theorem seal_mir (lg : Nat) (M : MirT) (h : mirSealed M 0 = false) (recs : List (List UInt8)) :
    sealX (mirY lg false M) 1 0 viewS = mirY lg true (mirClose M 0) ∧ sizeS (sealC (mirY lg false M) 1 0 viewS recs) ≤ sizeS recs + 4 ∧ sealO (mirY lg false M) 1 0 viewS = [⟨1, sealedMsg 0 (mirRow (mirClose M 0) 0)⟩] := by
  have hB : sealB (mirY lg false M) 1 0 viewS = true := by
    unfold sealB
    rw [learn_mir, mirY_view, viewS_heir]
    exact decide_eq_true rfl
  obtain ⟨e1, e2, e3⟩ := seal_yes (recs := recs) hB (by rw [learn_mir]; exact h)
  rw [e1, e2, e3, learn_mir]
  refine ⟨rfl, ?_, rfl⟩
  rw [sizeS_add]
  have h1 : sizeS (learnC (mirY lg false M) viewS recs) ≤ sizeS recs + 2 := by
    unfold learnC
    split
    · rw [sizeS_add]; have := pieces2 (viewRec_len viewS); omega
    · omega
  have h2 := pieces2 (Nat.le_trans (sealRec_len 0) (by decide))
  omega
theorem rowC_size (x : RepT) (f w : Int) (y : RowT) (recs : List (List UInt8)) : sizeS (rowC x f w y recs) ≤ sizeS recs + 34 := by
  unfold rowC
  split
  · rw [sizeS_add]; have := pieces34 (mirRec_len w y); omega
  · omega
theorem mirKeep_sealed (M : MirT) (w : Int) (y : RowT) (h : mirSealed M w = true) : mirKeep M w y = (M, false) := by
  unfold mirKeep
  rw [show mirTakes M w y = false from by unfold mirTakes; rw [h]; simp]
  rfl
theorem row_mir (lg : Nat) (sd : Bool) (M : MirT) (f : Int) (y : RowT) : rowX (mirY lg sd M) f f y = mirY lg sd (mirKeep M f y).1 ∧ rowO (mirY lg sd M) f f y = if mirSealed M f then [] else [⟨f, keptMsg (mirRow (mirKeep M f y).1 f).version⟩] := by
  have hB : rowB (mirY lg sd M) f f = !mirSealed M f := by unfold rowB; rw [decide_eq_true rfl, mirY_mirror, Bool.true_and]
  by_cases hs : mirSealed M f = true
  · obtain ⟨e1, _, e3⟩ := row_no (y := y) (recs := []) (hB.trans (by rw [hs]; rfl))
    rw [e1, e3, mirKeep_sealed M f y hs, if_pos hs]
    exact ⟨rfl, rfl⟩
  · rw [Bool.not_eq_true] at hs
    rw [hs, if_neg (by decide)]
    cases t : mirTakes M f y with
    | true =>
      obtain ⟨e1, _, e3⟩ := row_yes (y := y) (recs := []) (hB.trans (by rw [hs]; rfl)) (show mirTakes (mirY lg sd M).mirror f y = true from t)
      rw [e1, e3]
      exact ⟨rfl, rfl⟩
    | false =>
      obtain ⟨e1, _, e3⟩ := row_old (y := y) (recs := []) (hB.trans (by rw [hs]; rfl)) (show mirTakes (mirY lg sd M).mirror f y = false from t)
      have : mirKeep M f y = (M, false) := by unfold mirKeep; rw [t]; rfl
      rw [e1, e3, this]
      exact ⟨rfl, rfl⟩
theorem row_other (lg : Nat) (sd : Bool) (M : MirT) (f w : Int) (y : RowT) (recs : List (List UInt8)) (h : w ≠ f) : rowX (mirY lg sd M) f w y = mirY lg sd M ∧ rowC (mirY lg sd M) f w y recs = recs ∧ rowO (mirY lg sd M) f w y = [] :=
  row_no (by unfold rowB; rw [decide_eq_false h]; rfl)
def MirOk (M : MirT) : Prop := ∀ w : Int, WF (mirRow M w).flat
theorem mirRow_set (M : MirT) (w v : Int) (y : RowT) : mirRow (mirPut M w y) v = if machB w = true ∧ v = w then y else mirRow M v := by
  unfold mirPut
  by_cases hw : machB w = true
  · rw [dif_pos hw]
    unfold mirRow
    have h1 : 0 ≤ w ∧ w < 5 := of_decide_eq_true hw
    by_cases hv : machB v = true
    · have h2 : 0 ≤ v ∧ v < 5 := of_decide_eq_true hv
      rw [dif_pos hv, dif_pos hv]
      show (M.rows.set w.toNat y (mach_lt hw))[v.toNat]'(mach_lt hv) = _
      rw [Vector.getElem_set]
      by_cases e : v = w
      · rw [if_pos (by omega), if_pos ⟨hw, e⟩]
      · rw [if_neg (by omega), if_neg (fun q => e q.2)]
    · rw [dif_neg hv, dif_neg hv, if_neg (fun q : machB w = true ∧ v = w => hv (by rw [q.2]; exact q.1))]
  · rw [dif_neg hw, if_neg (fun q : machB w = true ∧ v = w => hw q.1)]
theorem mirSealed_put (M : MirT) (w v : Int) (y : RowT) : mirSealed (mirPut M w y) v = mirSealed M v := by
  unfold mirPut
  split <;> rfl
theorem MirOk.zero : MirOk MirT.zero := fun w => by
  have : mirRow MirT.zero w = RowT.zero := by
    unfold mirRow
    split
    · rename_i h
      have h5 := mach_lt h
      have : ∀ (n : Nat) (hn : n < 5), MirT.zero.rows[n] = RowT.zero := fun n hn => by match n, hn with | 0, _ | 1, _ | 2, _ | 3, _ | 4, _ => rfl
      exact this _ h5
    · rfl
  rw [this]; exact wf_zero
theorem MirOk.keep {M : MirT} (h : MirOk M) (w : Int) {y : RowT} (hy : WF y.flat) : MirOk (mirKeep M w y).1 := fun v => by
  unfold mirKeep
  split
  · show WF (mirRow (mirPut M w y) v).flat
    rw [mirRow_set]
    split
    · exact hy
    · exact h v
  · exact h v
theorem mirRow_close (M : MirT) (w v : Int) : mirRow (mirClose M w) v = mirRow M v := by unfold mirClose; split <;> rfl
theorem MirOk.close {M : MirT} (h : MirOk M) (w : Int) : MirOk (mirClose M w) := fun v => by rw [mirRow_close]; exact h v
theorem mirSealed_keep (M : MirT) (w v : Int) (y : RowT) : mirSealed (mirKeep M w y).1 v = mirSealed M v := by
  unfold mirKeep
  split
  · exact mirSealed_put M w v y
  · rfl
theorem mirSealed_close (M : MirT) : mirSealed (mirClose M 0) 0 = true := by
  unfold mirClose mirSealed
  rw [dif_pos (show machB 0 = true by decide), dif_pos (show machB 0 = true by decide)]
  show (M.sealed.set (0 : Int).toNat true (by decide))[(0 : Int).toNat]'(by decide) = true
  rw [Vector.getElem_set_self]
theorem mirSealed_zero (w : Int) : mirSealed MirT.zero w = false := by
  unfold mirSealed
  split
  · rename_i h
    have h5 := mach_lt h
    have : ∀ (n : Nat) (hn : n < 5), MirT.zero.sealed[n] = false := fun n hn => by match n, hn with | 0, _ | 1, _ | 2, _ | 3, _ | 4, _ => rfl
    exact this _ h5
  · rfl
def fromM (k : Nat) : Int := [(0 : Int), 1, 3, 4].getD k 0
theorem fromM_at {k : Nat} (h : k < 4) : [(.int .i64 0 : Value), .int .i64 1, .int .i64 3, .int .i64 4][k]? = some (.int .i64 (fromM k)) := by match k, h with | 0, _ | 1, _ | 2, _ | 3, _ => rfl
theorem fromM_is {k : Nat} (h : k < 4) : fromM k = 0 ∨ fromM k = 1 ∨ fromM k = 3 ∨ fromM k = 4 := by match k, h with | 0, _ | 1, _ | 2, _ | 3, _ => decide
theorem said_one (e : SaidT) : ints (List.flatMap SaidT.flat [e]) = ints e.flat := by rw [List.flatMap_cons, List.flatMap_nil, List.append_nil]
end Api
namespace Api
open Go Leg Codec Dsk Wal
def nineR : RowT := { RowT.zero with version := 9 }
theorem wf_nine : WF nineR.flat := by
  have : ∀ n ∈ nineR.flat, (Lit.int IntKind.i64 n).wf = true := by decide +kernel
  intro n hn; exact this n hn
end Api
end

section
namespace Go.Proofs.YtfceaphohlbnbaaGreat

open Go Leg Codec Api Dsk Wal

set_option linter.unusedSimpArgs false
set_option linter.unusedVariables false

set_option maxRecDepth 100000

set_option maxHeartbeats 8000000

theorem learn0_does (r ob lg d : Nat) (x : RepT) (v : ViewT) (recs : List (List UInt8)) (l : List SaidT) (hlog : x.log = .pointer (some ⟨lg, 0, none⟩)) (hroom : sizeS recs + 2 ≤ 2048) (hal : Alone (enterF x v)) :
    Does Tryz.prog 45 #[(.pointer (some ⟨r, 0, none⟩)), (.iface 34 (.pointer (some ⟨ob, 0, none⟩))), (.agg (ints v.flat).toArray)] (fun _ => True) [blkA r (RepT.cells x) 104, lgP lg d (((recs).length : Nat) : Int) ((sizeS (recs) : Nat) : Int), dkL d (recs), outP ob (l)] (Ret (fun r' H => r' = .bool (learnB x v) ∧ H = [blkA r (RepT.cells (learnX x v)) 104, lgL lg d (learnC x v recs), dkL d (learnC x v recs), outP ob (l)])) := by
 refine Does.body (vs := [(.pointer (some ⟨r, 0, none⟩)), (.iface 34 (.pointer (some ⟨ob, 0, none⟩))), (.agg (ints v.flat).toArray)]) (n := 28) Tryz.func45 rfl rfl rfl (fun w0 F hF => ?_)
 refine sr fun _ J1 => ?_
 refine TL.box (Want.plain rfl) rfl rfl rfl rfl (fun b5 => ?_)
 change TL _ _ _ _ _ _ _ _ _ [blkA b5 (ints v.flat) 52, blkA r (RepT.cells x) 104, lgP lg d (((recs).length : Nat) : Int) ((sizeS (recs) : Nat) : Int), dkL d (recs), outP ob (l)]
 refine sg' ?_
 refine nx J1 ?_
 refine TC.seq fun _ J2 => ?_
 refine TC.seq fun _ J3 => ?_
 refine TC.draw (fun w => Frm F w ∧ w.heap[b5]? = some (.cells (ints v.flat).toArray 52 (0, 0)) ∧ w.heap[r]? = some (.cells (RepT.cells x).toArray 104 (0, 0)) ∧ True) mixed rfl (fun _ s => ⟨Frm.of s, s.block 0 (lb rfl) rfl, s.block 1 (lb rfl) rfl, trivial⟩) ?_
 refine ta 0 rfl (PV.fieldAddr (r := 0) rfl Tryz.underlying52 rfl sz3 rfl rfl) ?_
 refine ta 1 rfl (PV.load1 (v := (.int .i64 (v.epoch))) rfl Tryz.underlying3 rfl rfl (fun _ h => h.2.1) (ViewT.at_epoch v rfl)) ?_
 refine ta 2 rfl (PV.move rfl rfl) ?_
 refine ta 3 rfl (PV.nilCheck rfl rfl) ?_
 refine ta 4 rfl (PV.fieldAddr (r := 2) rfl Tryz.underlying104 rfl sz52 rfl rfl) ?_
 refine ta 5 rfl (PV.fieldAddr (r := 2) rfl Tryz.underlying52 rfl sz3 rfl rfl) ?_
 refine ta 6 rfl (PV.load1 (v := (.int .i64 (x.view.epoch))) rfl Tryz.underlying3 rfl rfl (fun _ h => h.2.2.1) (RepT.pt_view x 0 rfl (by decide) (ViewT.at_epoch x.view rfl))) ?_
 refine ta 7 rfl (PV.leq rfl rfl rfl) ?_
 refine TD.dec (fun h14 => ?_) (fun h14 => ?_)
 refine ta 8 rfl (PV.move rfl rfl) ?_
 refine TD.takeNot (i := 9) (b := true) rfl (by kernel_rfl) (by kernel_rfl) (by kernel_rfl) (fun _ _ _ _ h => h) rfl rfl rfl rfl rfl ?_
 refine TD.takeNot (i := 10) (b := true) rfl (by kernel_rfl) (by kernel_rfl) (by kernel_rfl) (fun _ _ _ _ h => h) rfl rfl rfl rfl rfl ?_
 refine TD.takeNot (i := 11) (b := true) rfl (by kernel_rfl) (by kernel_rfl) (by kernel_rfl) (fun _ _ _ _ h => h) rfl rfl rfl rfl rfl ?_
 refine TD.takeNot (i := 12) (b := true) rfl (by kernel_rfl) (by kernel_rfl) (by kernel_rfl) (fun _ _ _ _ h => h) rfl rfl rfl rfl rfl ?_
 refine TD.takeNot (i := 13) (b := true) rfl (by kernel_rfl) (by kernel_rfl) (by kernel_rfl) (fun _ _ _ _ h => h) rfl rfl rfl rfl rfl ?_
 refine ta 14 rfl (PV.pick rfl rfl rfl) ?_
 refine TD.done (by kernel_rfl) ?_
 refine TE.next J3 ?_
 refine TC.yes rfl ?_
 refine sr fun _ J4 => ?_
 refine sg' ?_
 refine nx J4 ?_
 refine TC.ret ?_
 refine TE.passRet ?_
 refine TE.weak (Sub.refl _) (fun _ s => sep_keep [1, 1, 1, 1] rfl s) ?_
 refine TE.ret1 rfl rfl ?_
 have e : learnB x v = false := decide_eq_false (by omega)
 exact ⟨by rw [e], by rw [learnX, learnC, e]; rfl⟩
 refine ta 8 rfl (PV.move rfl rfl) ?_
 refine tb 9 rfl (PV.move rfl rfl) ?_
 refine tb 10 rfl (PV.loadN (vs := ints v.flat) rfl Tryz.underlying52 rfl sz52 rfl (fun _ h => h.2.1) (ViewT.len v) (whole (ViewT.len v))) ?_
 refine tb 11 rfl (PV.buildSegs (cs := ints (RecT.mk 5 0 RowT.zero 0 BallotT.zero ChangeT.zero v).flat) (segs := [[Value.int .i64 0], [Value.int .i64 0], ints RowT.zero.flat, [Value.int .i64 0], ints BallotT.zero.flat, ints ChangeT.zero.flat, ints ViewT.zero.flat]) (res := [[Value.int .i64 5], [Value.int .i64 0], ints RowT.zero.flat, [Value.int .i64 0], ints BallotT.zero.flat, ints ChangeT.zero.flat, ints v.flat]) (parts := [(0, [Value.int .i64 5]), (6, ints v.flat)]) rfl rfl Tryz.underlying108 (by kernel_rfl) (by kernel_rfl) rfl (putSegs_step rfl ((rfl : [Value.int .i64 5].length = 1).trans (rfl : [Value.int .i64 0].length = 1).symm) (putSegs_step rfl ((ViewT.len v).trans (ViewT.len ViewT.zero).symm) putSegs_nil)) (RecT.eq (RecT.mk 5 0 RowT.zero 0 BallotT.zero ChangeT.zero v)).symm) ?_
 refine TD.all [12] (by kernel_rfl) rfl ?_
 refine AllT.cons rfl ?_ ?_
 refine TL.callR (A := [blkA r (RepT.cells x) 104, lgP lg d (((recs).length : Nat) : Int) ((sizeS (recs) : Nat) : Int), dkL d (recs)]) (Want.met rfl rfl rfl) rfl rfl rfl nm78 rfl (put_does r lg d x (RecT.mk 5 0 RowT.zero 0 BallotT.zero ChangeT.zero v) (recs) hlog (by have := pieces2 (viewRec_len v); have := hroom; show sizeS recs + piecesN (encR (viewRec v)).length ≤ 2048; omega) (Nat.le_trans (viewRec_len v) (by decide))) (fun _ s => sep_selR [1, 1, 1] rfl s) (fun _ _ _ => trivial) (fun vR HR hR => ?_)
 obtain ⟨rfl, rfl⟩ := hR
 change TL _ _ _ _ _ _ _ _ _ [blkA r (RepT.cells x) 104, lgP lg d (((recs ++ [encR (RecT.mk 5 0 RowT.zero 0 BallotT.zero ChangeT.zero v)]).length : Nat) : Int) ((sizeS (recs ++ [encR (RecT.mk 5 0 RowT.zero 0 BallotT.zero ChangeT.zero v)]) : Nat) : Int), dkL d (recs ++ [encR (RecT.mk 5 0 RowT.zero 0 BallotT.zero ChangeT.zero v)]), blkA b5 (ints v.flat) 52, outP ob (l)]
 refine TL.nil ?_
 refine TE.draw (fun _ s => ⟨Frm.of s, s.block 3 (lb rfl) rfl, s.block 0 (lb rfl) rfl, trivial⟩) ?_
 refine tb 13 rfl (PV.neq rfl rfl rfl) ?_
 refine ta 14 rfl (PV.pick rfl rfl rfl) ?_
 refine TD.done (by kernel_rfl) ?_
 refine TE.next J3 ?_
 refine TC.no rfl ?_
 refine TC.skip ?_
 refine TE.next J2 ?_
 refine sr fun _ J5 => ?_
 refine mv ?_
 refine tp (PV.loadN (vs := ints v.flat) rfl Tryz.underlying52 rfl sz52 rfl (Rd.own 3 rfl rfl) (ViewT.len v) (whole (ViewT.len v))) ?_
 refine TL.callR (A := [blkA r (RepT.cells x) 104]) (Want.plain rfl) rfl rfl rfl nm35 rfl (enter_does r x v) (fun _ s => s) (fun _ _ _ => trivial) (fun vR HR hR => ?_)
 obtain rfl := hR
 change TL _ _ _ _ _ _ _ _ _ [blkA r (RepT.cells (enterF x v)) 104, lgP lg d (((recs ++ [encR (RecT.mk 5 0 RowT.zero 0 BallotT.zero ChangeT.zero v)]).length : Nat) : Int) ((sizeS (recs ++ [encR (RecT.mk 5 0 RowT.zero 0 BallotT.zero ChangeT.zero v)]) : Nat) : Int), dkL d (recs ++ [encR (RecT.mk 5 0 RowT.zero 0 BallotT.zero ChangeT.zero v)]), blkA b5 (ints v.flat) 52, outP ob (l)]
 refine nx J5 ?_
 refine sr fun _ J6 => ?_
 refine mv ?_
 refine mv ?_
 refine TL.callR (A := [blkA r (RepT.cells (enterF x v)) 104, outP ob (l)]) (Want.plain rfl) rfl rfl rfl nm60 rfl (claim0_does r ob (enterF x v) (l) hal) (fun _ s => sep_selR [0, 3] rfl s) (fun _ _ _ => trivial) (fun vR HR hR => ?_)
 obtain rfl := hR
 change TL _ _ _ _ _ _ _ _ _ [blkA r (RepT.cells (enterF x v)) 104, outP ob (l), lgP lg d (((recs ++ [encR (RecT.mk 5 0 RowT.zero 0 BallotT.zero ChangeT.zero v)]).length : Nat) : Int) ((sizeS (recs ++ [encR (RecT.mk 5 0 RowT.zero 0 BallotT.zero ChangeT.zero v)]) : Nat) : Int), dkL d (recs ++ [encR (RecT.mk 5 0 RowT.zero 0 BallotT.zero ChangeT.zero v)]), blkA b5 (ints v.flat) 52]
 refine nx J6 ?_
 refine sr fun _ J7 => ?_
 refine sg' ?_
 refine nx J7 ?_
 refine TC.ret ?_
 refine TE.weak (Sub.refl _) (fun _ s => sep_keep [0, 1, 1, 0] rfl s) ?_
 refine TE.ret1 rfl rfl ?_
 have e : learnB x v = true := decide_eq_true (by omega)
 exact ⟨by rw [e], by rw [learnX, learnC, e]; rfl⟩
 exact AllT.nil
theorem takeRow_does (r ob lg d : Nat) (x : RepT) (from' : Int) (m : MsgT) (recs : List (List UInt8)) (l : List SaidT) (hlog : x.log = .pointer (some ⟨lg, 0, none⟩)) (hroom : sizeS recs + 34 ≤ 2048) (hx : WF m.row.flat) (hl : l.length ≤ 900000) (hto : from' ≠ x.id) :
    Does Tryz.prog 43 #[(.pointer (some ⟨r, 0, none⟩)), (.iface 34 (.pointer (some ⟨ob, 0, none⟩))), (.int .i64 (from')), (.agg (ints m.flat).toArray)] (fun _ => True) [blkA r (RepT.cells x) 104, lgP lg d (((recs).length : Nat) : Int) ((sizeS (recs) : Nat) : Int), dkL d (recs), outP ob (l)] (Ret (fun _ H => H = [blkA r (RepT.cells (rowX x from' m.whose m.row)) 104, lgL lg d (rowC x from' m.whose m.row recs), dkL d (rowC x from' m.whose m.row recs), outP ob (l ++ rowO x from' m.whose m.row)])) := by
 refine Does.body (vs := [(.pointer (some ⟨r, 0, none⟩)), (.iface 34 (.pointer (some ⟨ob, 0, none⟩))), (.int .i64 (from')), (.agg (ints m.flat).toArray)]) (n := 56) Tryz.func43 rfl rfl rfl (fun w0 F hF => ?_)
 refine sr fun _ J1 => ?_
 refine TL.box (Want.plain rfl) rfl rfl rfl rfl (fun b7 => ?_)
 change TL _ _ _ _ _ _ _ _ _ [blkA b7 (ints m.flat) 54, blkA r (RepT.cells x) 104, lgP lg d (((recs).length : Nat) : Int) ((sizeS (recs) : Nat) : Int), dkL d (recs), outP ob (l)]
 refine nx J1 ?_
 refine TC.seq fun _ J2 => ?_
 refine TC.seq fun _ J3 => ?_
 refine TC.draw (fun w => Frm F w ∧ w.heap[b7]? = some (.cells (ints m.flat).toArray 54 (0, 0)) ∧ True) mixed rfl (fun _ s => ⟨Frm.of s, s.block 0 (lb rfl) rfl, trivial⟩) ?_
 refine ta 0 rfl (PV.fieldAddr (r := 1) rfl Tryz.underlying54 rfl sz3 rfl rfl) ?_
 refine ta 1 rfl (PV.load1 (v := (.int .i64 (m.whose))) rfl Tryz.underlying3 rfl rfl (fun _ h => h.2.1) (MsgT.at_whose m rfl)) ?_
 refine ta 2 rfl (PV.move rfl rfl) ?_
 refine ta 3 rfl (PV.neq rfl rfl rfl) ?_
 refine TD.dec (fun h11 => ?_) (fun h11 => ?_)
 refine ta 4 rfl (PV.move rfl rfl) ?_
 refine TD.takeNot (i := 5) (b := true) rfl (by kernel_rfl) (by kernel_rfl) (by kernel_rfl) (fun _ _ _ _ h => h) rfl rfl rfl rfl rfl ?_
 refine TD.takeNot (i := 6) (b := true) rfl (by kernel_rfl) (by kernel_rfl) (by kernel_rfl) (fun _ _ _ _ h => h) rfl rfl rfl rfl rfl ?_
 refine TD.takeNot (i := 7) (b := true) rfl (by kernel_rfl) (by kernel_rfl) (by kernel_rfl) (fun _ _ _ _ h => h) rfl rfl rfl rfl rfl ?_
 refine TD.takeNot (i := 8) (b := true) rfl (by kernel_rfl) (by kernel_rfl) (by kernel_rfl) (fun _ _ _ _ h => h) rfl rfl rfl rfl rfl ?_
 refine TD.takeNot (i := 9) (b := true) rfl (by kernel_rfl) (by kernel_rfl) (by kernel_rfl) (fun _ _ _ _ h => h) rfl rfl rfl rfl rfl ?_
 refine TD.takeNot (i := 10) (b := true) rfl (by kernel_rfl) (by kernel_rfl) (by kernel_rfl) (fun _ _ _ _ h => h) rfl rfl rfl rfl rfl ?_
 refine ta 11 rfl (PV.pick rfl rfl rfl) ?_
 refine TD.done (by kernel_rfl) ?_
 refine TE.next J3 ?_
 refine TC.yes rfl ?_
 refine TC.ret ?_
 refine TE.passRet ?_
 refine TE.weak (Sub.refl _) (fun _ s => sep_keep [1, 1, 1, 1] rfl s) ?_
 refine TE.ret0 rfl ?_
 have e := (show rowB x from' m.whose = false from by rw [rowB, decide_eq_false h11]; rfl)
 obtain ⟨e1, e2, e3⟩ := row_no (y := m.row) (recs := recs) e
 exact by rw [e1, e2, e3, List.append_nil]; rfl
 refine ta 4 rfl (PV.move rfl rfl) ?_
 refine tb 5 rfl (PV.move rfl rfl) ?_
 refine tb 6 rfl (PV.nilCheck rfl rfl) ?_
 refine tb 7 rfl (PV.fieldAddr (r := 183) rfl Tryz.underlying104 rfl sz77 rfl rfl) ?_
 refine tb 8 rfl (PV.fieldAddr (r := 1) rfl Tryz.underlying54 rfl sz3 rfl rfl) ?_
 refine tb 9 rfl (PV.load1 (v := (.int .i64 (m.whose))) rfl Tryz.underlying3 rfl rfl (fun _ h => h.2.1) (MsgT.at_whose m rfl)) ?_
 refine TD.all [10] (by kernel_rfl) rfl ?_
 refine AllT.cons rfl ?_ ?_
 refine TL.callR (A := [blkA r (RepT.cells x) 104]) (Want.met rfl rfl rfl) rfl rfl rfl nm30 rfl (mirSealed_does r 183 104 (fun u => RepT.cells { x with mirror := u }) (RepT.arnd_mirror x) x.mirror m.whose) (fun _ s => sep_selR [1] rfl s) (fun _ _ _ => trivial) (fun vR HR hR => ?_)
 obtain ⟨rfl, rfl⟩ := hR
 change TL _ _ _ _ _ _ _ _ _ [blkA r (RepT.cells x) 104, blkA b7 (ints m.flat) 54, lgP lg d (((recs).length : Nat) : Int) ((sizeS (recs) : Nat) : Int), dkL d (recs), outP ob (l)]
 refine TL.decB (fun h18 => ?_) (fun h18 => ?_)
 refine TL.nil ?_
 refine TE.draw (fun _ s => ⟨Frm.of s, s.block 1 (lb rfl) rfl, trivial⟩) ?_
 refine ta 11 rfl (PV.pick rfl rfl rfl) ?_
 refine TD.done (by kernel_rfl) ?_
 refine TE.next J3 ?_
 refine TC.yes rfl ?_
 refine TC.ret ?_
 refine TE.passRet ?_
 refine TE.weak (Sub.refl _) (fun _ s => sep_keep [0, 1, 1, 1] rfl s) ?_
 refine TE.ret0 rfl ?_
 have e := (show rowB x from' m.whose = false from by rw [rowB, h18, Bool.not_true, Bool.and_false])
 obtain ⟨e1, e2, e3⟩ := row_no (y := m.row) (recs := recs) e
 exact by rw [e1, e2, e3, List.append_nil]; rfl
 refine TL.nil ?_
 refine TE.draw (fun _ s => ⟨Frm.of s, s.block 1 (lb rfl) rfl, trivial⟩) ?_
 refine ta 11 rfl (PV.pick rfl rfl rfl) ?_
 refine TD.done (by kernel_rfl) ?_
 refine TE.next J3 ?_
 refine TC.no rfl ?_
 refine TC.skip ?_
 refine TE.next J2 ?_
 refine TC.seq fun _ J4 => ?_
 refine TC.seq fun _ J5 => ?_
 refine TC.draw (fun w => Frm F w ∧ w.heap[b7]? = some (.cells (ints m.flat).toArray 54 (0, 0)) ∧ True) mixed rfl (fun _ s => ⟨Frm.of s, s.block 1 (lb rfl) rfl, trivial⟩) ?_
 refine ta 0 rfl (PV.move rfl rfl) ?_
 refine ta 1 rfl (PV.nilCheck rfl rfl) ?_
 refine ta 2 rfl (PV.fieldAddr (r := 183) rfl Tryz.underlying104 rfl sz77 rfl rfl) ?_
 refine ta 3 rfl (PV.fieldAddr (r := 1) rfl Tryz.underlying54 rfl sz3 rfl rfl) ?_
 refine ta 4 rfl (PV.load1 (v := (.int .i64 (m.whose))) rfl Tryz.underlying3 rfl rfl (fun _ h => h.2.1) (MsgT.at_whose m rfl)) ?_
 refine ta 5 rfl (PV.fieldAddr (r := 2) rfl Tryz.underlying54 rfl sz48 rfl rfl) ?_
 refine ta 6 rfl (PV.loadN (vs := ints m.row.flat) rfl Tryz.underlying48 rfl sz48 rfl (fun _ h => h.2.1) (RowT.len m.row) (MsgT.sub_row m 0 rfl (by decide) (whole (RowT.len m.row)))) ?_
 refine TD.all [7] (by kernel_rfl) rfl ?_
 refine AllT.cons rfl ?_ ?_
 refine TL.callR (A := [blkA r (RepT.cells x) 104]) (Want.plain rfl) rfl rfl rfl nm56 rfl (mirTakes_does r 183 104 (fun u => RepT.cells { x with mirror := u }) (RepT.arnd_mirror x) x.mirror m.whose m.row hx) (fun _ s => s) (fun _ _ _ => trivial) (fun vR HR hR => ?_)
 obtain ⟨rfl, rfl⟩ := hR
 change TL _ _ _ _ _ _ _ _ _ [blkA r (RepT.cells x) 104, blkA b7 (ints m.flat) 54, lgP lg d (((recs).length : Nat) : Int) ((sizeS (recs) : Nat) : Int), dkL d (recs), outP ob (l)]
 refine TL.decB (fun h27 => ?_) (fun h27 => ?_)
 refine TL.nil ?_
 refine TE.draw (fun _ s => ⟨Frm.of s, s.block 1 (lb rfl) rfl, trivial⟩) ?_
 refine TD.done (by kernel_rfl) ?_
 refine TE.next J5 ?_
 refine TC.yes rfl ?_
 refine TC.seq fun _ J6 => ?_
 refine sr fun _ J7 => ?_
 refine mv ?_
 refine tp (PV.fieldAddr (r := 1) rfl Tryz.underlying54 rfl sz3 rfl rfl) ?_
 refine tp (PV.load1 (v := (.int .i64 (m.whose))) rfl Tryz.underlying3 rfl rfl (Rd.own 1 rfl rfl) (MsgT.at_whose m rfl)) ?_
 refine tp (PV.fieldAddr (r := 2) rfl Tryz.underlying54 rfl sz48 rfl rfl) ?_
 refine tp (PV.loadN (vs := ints m.row.flat) rfl Tryz.underlying48 rfl sz48 rfl (Rd.own 1 rfl rfl) (RowT.len m.row) (MsgT.sub_row m 0 rfl (by decide) (whole (RowT.len m.row)))) ?_
 refine tp (PV.buildSegs (cs := ints (RecT.mk 1 m.whose m.row 0 BallotT.zero ChangeT.zero ViewT.zero).flat) (segs := [[Value.int .i64 0], [Value.int .i64 0], ints RowT.zero.flat, [Value.int .i64 0], ints BallotT.zero.flat, ints ChangeT.zero.flat, ints ViewT.zero.flat]) (res := [[Value.int .i64 1], [Value.int .i64 m.whose], ints m.row.flat, [Value.int .i64 0], ints BallotT.zero.flat, ints ChangeT.zero.flat, ints ViewT.zero.flat]) (parts := [(0, [Value.int .i64 1]), (1, [Value.int .i64 m.whose]), (2, ints m.row.flat)]) rfl rfl Tryz.underlying108 (by kernel_rfl) (by kernel_rfl) rfl (putSegs_step rfl ((rfl : [Value.int .i64 1].length = 1).trans (rfl : [Value.int .i64 0].length = 1).symm) (putSegs_step rfl ((rfl : [Value.int .i64 m.whose].length = 1).trans (rfl : [Value.int .i64 0].length = 1).symm) (putSegs_step rfl ((RowT.len m.row).trans (RowT.len RowT.zero).symm) putSegs_nil))) (RecT.eq (RecT.mk 1 m.whose m.row 0 BallotT.zero ChangeT.zero ViewT.zero)).symm) ?_
 refine TL.callR (A := [blkA r (RepT.cells x) 104, lgP lg d (((recs).length : Nat) : Int) ((sizeS (recs) : Nat) : Int), dkL d (recs)]) (Want.plain rfl) rfl rfl rfl nm78 rfl (put_does r lg d x (RecT.mk 1 m.whose m.row 0 BallotT.zero ChangeT.zero ViewT.zero) (recs) hlog (by have := pieces34 (mirRec_len m.whose m.row); have := hroom; show sizeS recs + piecesN (encR (mirRec m.whose m.row)).length ≤ 2048; omega) (Nat.le_trans (mirRec_len m.whose m.row) (by decide))) (fun _ s => sep_selR [0, 1, 1] rfl s) (fun _ _ _ => trivial) (fun vR HR hR => ?_)
 obtain ⟨rfl, rfl⟩ := hR
 change TL _ _ _ _ _ _ _ _ _ [blkA r (RepT.cells x) 104, lgP lg d (((recs ++ [encR (RecT.mk 1 m.whose m.row 0 BallotT.zero ChangeT.zero ViewT.zero)]).length : Nat) : Int) ((sizeS (recs ++ [encR (RecT.mk 1 m.whose m.row 0 BallotT.zero ChangeT.zero ViewT.zero)]) : Nat) : Int), dkL d (recs ++ [encR (RecT.mk 1 m.whose m.row 0 BallotT.zero ChangeT.zero ViewT.zero)]), blkA b7 (ints m.flat) 54, outP ob (l)]
 refine tp (PV.neq rfl rfl rfl) ?_
 refine nx J7 ?_
 refine TC.no rfl ?_
 refine TC.skip ?_
 refine TE.next J6 ?_
 refine TC.draw (fun w => Frm F w ∧ w.heap[b7]? = some (.cells (ints m.flat).toArray 54 (0, 0)) ∧ True) mixed rfl (fun _ s => ⟨Frm.of s, s.block 3 (lb rfl) rfl, trivial⟩) ?_
 refine ta 0 rfl (PV.move rfl rfl) ?_
 refine ta 1 rfl (PV.nilCheck rfl rfl) ?_
 refine ta 2 rfl (PV.fieldAddr (r := 183) rfl Tryz.underlying104 rfl sz77 rfl rfl) ?_
 refine ta 3 rfl (PV.fieldAddr (r := 1) rfl Tryz.underlying54 rfl sz3 rfl rfl) ?_
 refine ta 4 rfl (PV.load1 (v := (.int .i64 (m.whose))) rfl Tryz.underlying3 rfl rfl (fun _ h => h.2.1) (MsgT.at_whose m rfl)) ?_
 refine ta 5 rfl (PV.fieldAddr (r := 2) rfl Tryz.underlying54 rfl sz48 rfl rfl) ?_
 refine ta 6 rfl (PV.loadN (vs := ints m.row.flat) rfl Tryz.underlying48 rfl sz48 rfl (fun _ h => h.2.1) (RowT.len m.row) (MsgT.sub_row m 0 rfl (by decide) (whole (RowT.len m.row)))) ?_
 refine TD.all [7] (by kernel_rfl) rfl ?_
 refine AllT.cons rfl ?_ ?_
 refine TL.callR (A := [blkA r (RepT.cells x) 104]) (Want.plain rfl) rfl rfl rfl nm28 rfl (mirKeep_does r 183 104 (fun u => RepT.cells { x with mirror := u }) (RepT.arnd_mirror x) x.mirror m.whose m.row hx) (fun _ s => s) (fun _ _ _ => trivial) (fun vR HR hR => ?_)
 obtain ⟨rfl, rfl⟩ := hR
 change TL _ _ _ _ _ _ _ _ _ [blkA r (RepT.cells (RepT.mk x.id x.log x.view x.own ((mirKeep x.mirror m.whose m.row).1) x.acc x.round x.vote x.book x.busy x.kept x.waits x.ops x.replies x.told x.last)) 104, lgP lg d (((recs ++ [encR (RecT.mk 1 m.whose m.row 0 BallotT.zero ChangeT.zero ViewT.zero)]).length : Nat) : Int) ((sizeS (recs ++ [encR (RecT.mk 1 m.whose m.row 0 BallotT.zero ChangeT.zero ViewT.zero)]) : Nat) : Int), dkL d (recs ++ [encR (RecT.mk 1 m.whose m.row 0 BallotT.zero ChangeT.zero ViewT.zero)]), blkA b7 (ints m.flat) 54, outP ob (l)]
 refine TL.nil ?_
 refine TE.draw (fun _ s => ⟨Frm.of s, s.block 3 (lb rfl) rfl, trivial⟩) ?_
 refine TD.done (by kernel_rfl) ?_
 refine TE.next J4 ?_
 refine TC.draw (fun w => Frm F w ∧ w.heap[b7]? = some (.cells (ints m.flat).toArray 54 (0, 0)) ∧ True) mixed rfl (fun _ s => ⟨Frm.of s, s.block 3 (lb rfl) rfl, trivial⟩) ?_
 refine ta 0 rfl (PV.move rfl rfl) ?_
 refine ta 1 rfl (PV.move rfl rfl) ?_
 refine ta 2 rfl (PV.move rfl rfl) ?_
 refine ta 3 rfl (PV.move rfl rfl) ?_
 refine ta 4 rfl (PV.nilCheck rfl rfl) ?_
 refine ta 5 rfl (PV.fieldAddr (r := 183) rfl Tryz.underlying104 rfl sz77 rfl rfl) ?_
 refine ta 6 rfl (PV.fieldAddr (r := 1) rfl Tryz.underlying54 rfl sz3 rfl rfl) ?_
 refine ta 7 rfl (PV.load1 (v := (.int .i64 (m.whose))) rfl Tryz.underlying3 rfl rfl (fun _ h => h.2.1) (MsgT.at_whose m rfl)) ?_
 refine TD.all [8] (by kernel_rfl) rfl ?_
 refine AllT.cons rfl ?_ ?_
 refine TL.callR (A := [blkA r (RepT.cells (RepT.mk x.id x.log x.view x.own ((mirKeep x.mirror m.whose m.row).1) x.acc x.round x.vote x.book x.busy x.kept x.waits x.ops x.replies x.told x.last)) 104]) (Want.plain rfl) rfl rfl rfl nm26 rfl (mirRow_does r 183 104 (fun u => RepT.cells { (RepT.mk x.id x.log x.view x.own ((mirKeep x.mirror m.whose m.row).1) x.acc x.round x.vote x.book x.busy x.kept x.waits x.ops x.replies x.told x.last) with mirror := u }) (RepT.arnd_mirror (RepT.mk x.id x.log x.view x.own ((mirKeep x.mirror m.whose m.row).1) x.acc x.round x.vote x.book x.busy x.kept x.waits x.ops x.replies x.told x.last)) ((mirKeep x.mirror m.whose m.row).1) m.whose) (fun _ s => s) (fun _ _ _ => trivial) (fun vR HR hR => ?_)
 obtain ⟨rfl, rfl⟩ := hR
 change TL _ _ _ _ _ _ _ _ _ [blkA r (RepT.cells (RepT.mk x.id x.log x.view x.own ((mirKeep x.mirror m.whose m.row).1) x.acc x.round x.vote x.book x.busy x.kept x.waits x.ops x.replies x.told x.last)) 104, lgP lg d (((recs ++ [encR (RecT.mk 1 m.whose m.row 0 BallotT.zero ChangeT.zero ViewT.zero)]).length : Nat) : Int) ((sizeS (recs ++ [encR (RecT.mk 1 m.whose m.row 0 BallotT.zero ChangeT.zero ViewT.zero)]) : Nat) : Int), dkL d (recs ++ [encR (RecT.mk 1 m.whose m.row 0 BallotT.zero ChangeT.zero ViewT.zero)]), blkA b7 (ints m.flat) 54, outP ob (l)]
 refine TL.nil ?_
 refine TE.draw (fun _ s => ⟨Frm.of s, s.block 3 (lb rfl) rfl, trivial⟩) ?_
 refine ta 9 rfl (PV.field1 (cs := ints (mirRow ((mirKeep x.mirror m.whose m.row).1) m.whose).flat) (v := Value.int .i64 ((mirRow ((mirKeep x.mirror m.whose m.row).1) m.whose).version)) rfl Tryz.underlying48 rfl Tryz.underlying3 rfl rfl (RowT.at_version (mirRow ((mirKeep x.mirror m.whose m.row).1) m.whose) rfl)) ?_
 refine ta 10 rfl (PV.buildSegs (cs := ints (MsgT.mk 1 0 RowT.zero ((mirRow ((mirKeep x.mirror m.whose m.row).1) m.whose).version) 0 BallotT.zero BallotT.zero ChangeT.zero ViewT.zero).flat) (segs := [[Value.int .i64 0], [Value.int .i64 0], ints RowT.zero.flat, [Value.int .i64 0], [Value.int .i64 0], ints BallotT.zero.flat, ints BallotT.zero.flat, ints ChangeT.zero.flat, ints ViewT.zero.flat]) (res := [[Value.int .i64 1], [Value.int .i64 0], ints RowT.zero.flat, [Value.int .i64 ((mirRow ((mirKeep x.mirror m.whose m.row).1) m.whose).version)], [Value.int .i64 0], ints BallotT.zero.flat, ints BallotT.zero.flat, ints ChangeT.zero.flat, ints ViewT.zero.flat]) (parts := [(0, [Value.int .i64 1]), (3, [Value.int .i64 ((mirRow ((mirKeep x.mirror m.whose m.row).1) m.whose).version)])]) rfl rfl Tryz.underlying54 (by kernel_rfl) (by kernel_rfl) rfl (putSegs_step rfl ((rfl : [Value.int .i64 1].length = 1).trans (rfl : [Value.int .i64 0].length = 1).symm) (putSegs_step rfl ((rfl : [Value.int .i64 ((mirRow ((mirKeep x.mirror m.whose m.row).1) m.whose).version)].length = 1).trans (rfl : [Value.int .i64 0].length = 1).symm) putSegs_nil)) (MsgT.eq (MsgT.mk 1 0 RowT.zero ((mirRow ((mirKeep x.mirror m.whose m.row).1) m.whose).version) 0 BallotT.zero BallotT.zero ChangeT.zero ViewT.zero)).symm) ?_
 refine TD.all [11] (by kernel_rfl) rfl ?_
 refine AllT.cons rfl ?_ ?_
 refine TL.callR (A := [blkA r (RepT.cells (RepT.mk x.id x.log x.view x.own ((mirKeep x.mirror m.whose m.row).1) x.acc x.round x.vote x.book x.busy x.kept x.waits x.ops x.replies x.told x.last)) 104, outP ob (l)]) (Want.plain rfl) rfl rfl rfl nm79 rfl (send_does r ob (RepT.mk x.id x.log x.view x.own ((mirKeep x.mirror m.whose m.row).1) x.acc x.round x.vote x.book x.busy x.kept x.waits x.ops x.replies x.told x.last) from' (MsgT.mk 1 0 RowT.zero ((mirRow ((mirKeep x.mirror m.whose m.row).1) m.whose).version) 0 BallotT.zero BallotT.zero ChangeT.zero ViewT.zero) (l) (by omega) hto) (fun _ s => sep_selR [0, 3] rfl s) (fun _ _ _ => trivial) (fun vR HR hR => ?_)
 obtain rfl := hR
 change TL _ _ _ _ _ _ _ _ _ [blkA r (RepT.cells (RepT.mk x.id x.log x.view x.own ((mirKeep x.mirror m.whose m.row).1) x.acc x.round x.vote x.book x.busy x.kept x.waits x.ops x.replies x.told x.last)) 104, outP ob (l ++ [SaidT.mk from' (MsgT.mk 1 0 RowT.zero ((mirRow ((mirKeep x.mirror m.whose m.row).1) m.whose).version) 0 BallotT.zero BallotT.zero ChangeT.zero ViewT.zero)]), lgP lg d (((recs ++ [encR (RecT.mk 1 m.whose m.row 0 BallotT.zero ChangeT.zero ViewT.zero)]).length : Nat) : Int) ((sizeS (recs ++ [encR (RecT.mk 1 m.whose m.row 0 BallotT.zero ChangeT.zero ViewT.zero)]) : Nat) : Int), dkL d (recs ++ [encR (RecT.mk 1 m.whose m.row 0 BallotT.zero ChangeT.zero ViewT.zero)]), blkA b7 (ints m.flat) 54]
 refine TL.nil ?_
 refine TE.draw (fun _ s => ⟨Frm.of s, s.block 4 (lb rfl) rfl, trivial⟩) ?_
 refine TD.done (by kernel_rfl) ?_
 refine TE.weak (Sub.refl _) (fun _ s => sep_keep [0, 1, 1, 0] rfl s) ?_
 refine TE.end0 rfl ?_
 have e := (show rowB x from' m.whose = true from by rw [rowB, h18, decide_eq_true (show m.whose = from' by omega)]; rfl)
 obtain ⟨e1, e2, e3⟩ := row_yes (recs := recs) e h27
 exact by rw [e1, e2, e3]; rfl
 exact AllT.nil
 exact AllT.nil
 exact AllT.nil
 refine TL.nil ?_
 refine TE.draw (fun _ s => ⟨Frm.of s, s.block 1 (lb rfl) rfl, trivial⟩) ?_
 refine TD.done (by kernel_rfl) ?_
 refine TE.next J5 ?_
 refine TC.no rfl ?_
 refine TC.skip ?_
 refine TE.next J4 ?_
 refine TC.draw (fun w => Frm F w ∧ w.heap[b7]? = some (.cells (ints m.flat).toArray 54 (0, 0)) ∧ True) mixed rfl (fun _ s => ⟨Frm.of s, s.block 1 (lb rfl) rfl, trivial⟩) ?_
 refine ta 0 rfl (PV.move rfl rfl) ?_
 refine ta 1 rfl (PV.move rfl rfl) ?_
 refine ta 2 rfl (PV.move rfl rfl) ?_
 refine ta 3 rfl (PV.move rfl rfl) ?_
 refine ta 4 rfl (PV.nilCheck rfl rfl) ?_
 refine ta 5 rfl (PV.fieldAddr (r := 183) rfl Tryz.underlying104 rfl sz77 rfl rfl) ?_
 refine ta 6 rfl (PV.fieldAddr (r := 1) rfl Tryz.underlying54 rfl sz3 rfl rfl) ?_
 refine ta 7 rfl (PV.load1 (v := (.int .i64 (m.whose))) rfl Tryz.underlying3 rfl rfl (fun _ h => h.2.1) (MsgT.at_whose m rfl)) ?_
 refine TD.all [8] (by kernel_rfl) rfl ?_
 refine AllT.cons rfl ?_ ?_
 refine TL.callR (A := [blkA r (RepT.cells x) 104]) (Want.plain rfl) rfl rfl rfl nm26 rfl (mirRow_does r 183 104 (fun u => RepT.cells { x with mirror := u }) (RepT.arnd_mirror x) x.mirror m.whose) (fun _ s => s) (fun _ _ _ => trivial) (fun vR HR hR => ?_)
 obtain ⟨rfl, rfl⟩ := hR
 change TL _ _ _ _ _ _ _ _ _ [blkA r (RepT.cells x) 104, blkA b7 (ints m.flat) 54, lgP lg d (((recs).length : Nat) : Int) ((sizeS (recs) : Nat) : Int), dkL d (recs), outP ob (l)]
 refine TL.nil ?_
 refine TE.draw (fun _ s => ⟨Frm.of s, s.block 1 (lb rfl) rfl, trivial⟩) ?_
 refine ta 9 rfl (PV.field1 (cs := ints (mirRow x.mirror m.whose).flat) (v := Value.int .i64 ((mirRow x.mirror m.whose).version)) rfl Tryz.underlying48 rfl Tryz.underlying3 rfl rfl (RowT.at_version (mirRow x.mirror m.whose) rfl)) ?_
 refine ta 10 rfl (PV.buildSegs (cs := ints (MsgT.mk 1 0 RowT.zero ((mirRow x.mirror m.whose).version) 0 BallotT.zero BallotT.zero ChangeT.zero ViewT.zero).flat) (segs := [[Value.int .i64 0], [Value.int .i64 0], ints RowT.zero.flat, [Value.int .i64 0], [Value.int .i64 0], ints BallotT.zero.flat, ints BallotT.zero.flat, ints ChangeT.zero.flat, ints ViewT.zero.flat]) (res := [[Value.int .i64 1], [Value.int .i64 0], ints RowT.zero.flat, [Value.int .i64 ((mirRow x.mirror m.whose).version)], [Value.int .i64 0], ints BallotT.zero.flat, ints BallotT.zero.flat, ints ChangeT.zero.flat, ints ViewT.zero.flat]) (parts := [(0, [Value.int .i64 1]), (3, [Value.int .i64 ((mirRow x.mirror m.whose).version)])]) rfl rfl Tryz.underlying54 (by kernel_rfl) (by kernel_rfl) rfl (putSegs_step rfl ((rfl : [Value.int .i64 1].length = 1).trans (rfl : [Value.int .i64 0].length = 1).symm) (putSegs_step rfl ((rfl : [Value.int .i64 ((mirRow x.mirror m.whose).version)].length = 1).trans (rfl : [Value.int .i64 0].length = 1).symm) putSegs_nil)) (MsgT.eq (MsgT.mk 1 0 RowT.zero ((mirRow x.mirror m.whose).version) 0 BallotT.zero BallotT.zero ChangeT.zero ViewT.zero)).symm) ?_
 refine TD.all [11] (by kernel_rfl) rfl ?_
 refine AllT.cons rfl ?_ ?_
 refine TL.callR (A := [blkA r (RepT.cells x) 104, outP ob (l)]) (Want.plain rfl) rfl rfl rfl nm79 rfl (send_does r ob x from' (MsgT.mk 1 0 RowT.zero ((mirRow x.mirror m.whose).version) 0 BallotT.zero BallotT.zero ChangeT.zero ViewT.zero) (l) (by omega) hto) (fun _ s => sep_selR [0, 3] rfl s) (fun _ _ _ => trivial) (fun vR HR hR => ?_)
 obtain rfl := hR
 change TL _ _ _ _ _ _ _ _ _ [blkA r (RepT.cells x) 104, outP ob (l ++ [SaidT.mk from' (MsgT.mk 1 0 RowT.zero ((mirRow x.mirror m.whose).version) 0 BallotT.zero BallotT.zero ChangeT.zero ViewT.zero)]), blkA b7 (ints m.flat) 54, lgP lg d (((recs).length : Nat) : Int) ((sizeS (recs) : Nat) : Int), dkL d (recs)]
 refine TL.nil ?_
 refine TE.draw (fun _ s => ⟨Frm.of s, s.block 2 (lb rfl) rfl, trivial⟩) ?_
 refine TD.done (by kernel_rfl) ?_
 refine TE.weak (Sub.refl _) (fun _ s => sep_keep [0, 2, 2, 0] rfl s) ?_
 refine TE.end0 rfl ?_
 have e := (show rowB x from' m.whose = true from by rw [rowB, h18, decide_eq_true (show m.whose = from' by omega)]; rfl)
 obtain ⟨e1, e2, e3⟩ := row_old (recs := recs) e h27
 exact by rw [e1, e2, e3]; rfl
 exact AllT.nil
 exact AllT.nil
 exact AllT.nil
 exact AllT.nil
theorem learnC_size (x : RepT) (v : ViewT) (recs : List (List UInt8)) : sizeS (learnC x v recs) ≤ sizeS recs + 2 := by
  unfold learnC
  split
  · rw [sizeS_add]; have := pieces2 (viewRec_len v); omega
  · omega

theorem takeSeal_does (r ob lg d : Nat) (x : RepT) (from' : Int) (m : MsgT) (recs : List (List UInt8)) (l : List SaidT) (hlog : x.log = .pointer (some ⟨lg, 0, none⟩)) (hroom : sizeS recs + 4 ≤ 2048) (hal : Alone (enterF x m.view)) (hal1 : Rng (learnX x m.view).view) (hl : l.length ≤ 900000) (hto : from' ≠ x.id) :
    Does Tryz.prog 46 #[(.pointer (some ⟨r, 0, none⟩)), (.iface 34 (.pointer (some ⟨ob, 0, none⟩))), (.int .i64 (from')), (.agg (ints m.flat).toArray)] (fun _ => True) [blkA r (RepT.cells x) 104, lgP lg d (((recs).length : Nat) : Int) ((sizeS (recs) : Nat) : Int), dkL d (recs), outP ob (l)] (Ret (fun _ H => H = [blkA r (RepT.cells (sealX x from' m.whose m.view)) 104, lgL lg d (sealC x from' m.whose m.view recs), dkL d (sealC x from' m.whose m.view recs), outP ob (l ++ sealO x from' m.whose m.view)])) := by
 refine Does.body (vs := [(.pointer (some ⟨r, 0, none⟩)), (.iface 34 (.pointer (some ⟨ob, 0, none⟩))), (.int .i64 (from')), (.agg (ints m.flat).toArray)]) (n := 64) Tryz.func46 rfl rfl rfl (fun w0 F hF => ?_)
 have hto2 : from' ≠ (learnX x m.view).id := by rw [learnX_id]; exact hto
 have hlog2 : (learnX x m.view).log = .pointer (some ⟨lg, 0, none⟩) := by rw [learnX_log]; exact hlog
 refine sr fun _ J1 => ?_
 refine TL.box (Want.plain rfl) rfl rfl rfl rfl (fun b7 => ?_)
 change TL _ _ _ _ _ _ _ _ _ [blkA b7 (ints m.flat) 54, blkA r (RepT.cells x) 104, lgP lg d (((recs).length : Nat) : Int) ((sizeS (recs) : Nat) : Int), dkL d (recs), outP ob (l)]
 refine nx J1 ?_
 refine sr fun _ J2 => ?_
 refine mv ?_
 refine mv ?_
 refine tp (PV.fieldAddr (r := 185) rfl Tryz.underlying54 rfl sz52 rfl rfl) ?_
 refine tp (PV.loadN (vs := ints m.view.flat) rfl Tryz.underlying52 rfl sz52 rfl (Rd.own 0 rfl rfl) (ViewT.len m.view) (MsgT.sub_view m 0 rfl (by decide) (whole (ViewT.len m.view)))) ?_
 refine TL.callR (A := [blkA r (RepT.cells x) 104, lgP lg d (((recs).length : Nat) : Int) ((sizeS (recs) : Nat) : Int), dkL d (recs), outP ob (l)]) (Want.plain rfl) rfl rfl rfl nm45 rfl (learn0_does r ob lg d x m.view (recs) (l) hlog (by omega) hal) (fun _ s => sep_selR [1, 1, 1, 1] rfl s) (fun _ _ _ => trivial) (fun vR HR hR => ?_)
 obtain ⟨rfl, rfl⟩ := hR
 change TL _ _ _ _ _ _ _ _ _ [blkA r (RepT.cells (learnX x m.view)) 104, lgP lg d (((learnC x m.view (recs)).length : Nat) : Int) ((sizeS (learnC x m.view (recs)) : Nat) : Int), dkL d (learnC x m.view (recs)), outP ob (l), blkA b7 (ints m.flat) 54]
 have hlo : sizeS (learnC x m.view recs) ≤ sizeS recs + 2 := learnC_size x m.view recs
 refine nx J2 ?_
 refine TC.seq fun _ J3 => ?_
 refine TC.seq fun _ J4 => ?_
 refine TC.draw (fun w => Frm F w ∧ w.heap[r]? = some (.cells (RepT.cells (learnX x m.view)).toArray 104 (0, 0)) ∧ w.heap[b7]? = some (.cells (ints m.flat).toArray 54 (0, 0)) ∧ True) mixed rfl (fun _ s => ⟨Frm.of s, s.block 0 (lb rfl) rfl, s.block 4 (lb rfl) rfl, trivial⟩) ?_
 refine ta 0 rfl (PV.move rfl rfl) ?_
 refine ta 1 rfl (PV.nilCheck rfl rfl) ?_
 refine ta 2 rfl (PV.fieldAddr (r := 2) rfl Tryz.underlying104 rfl sz52 rfl rfl) ?_
 refine ta 3 rfl (PV.loadN (vs := ints ((learnX x m.view).view).flat) rfl Tryz.underlying52 rfl sz52 rfl (fun _ h => h.2.1) (ViewT.len ((learnX x m.view).view)) (RepT.sub_view (learnX x m.view) 0 rfl (by decide) (whole (ViewT.len ((learnX x m.view).view))))) ?_
 refine ta 4 rfl (PV.fieldAddr (r := 1) rfl Tryz.underlying54 rfl sz3 rfl rfl) ?_
 refine ta 5 rfl (PV.load1 (v := (.int .i64 (m.whose))) rfl Tryz.underlying3 rfl rfl (fun _ h => h.2.2.1) (MsgT.at_whose m rfl)) ?_
 refine TD.all [6] (by kernel_rfl) rfl ?_
 refine AllT.cons rfl ?_ ?_
 refine TL.callR (A := []) (Want.plain rfl) rfl rfl rfl nm54 rfl (heir_does ((learnX x m.view).view) m.whose hal1) (fun _ s => s) (fun _ _ _ => trivial) (fun vR HR hR => ?_)
 obtain ⟨rfl, rfl⟩ := hR
 change TL _ _ _ _ _ _ _ _ _ [blkA r (RepT.cells (learnX x m.view)) 104, lgP lg d (((learnC x m.view (recs)).length : Nat) : Int) ((sizeS (learnC x m.view (recs)) : Nat) : Int), dkL d (learnC x m.view (recs)), outP ob (l), blkA b7 (ints m.flat) 54]
 refine TL.nil ?_
 refine TE.draw (fun _ s => ⟨Frm.of s, s.block 0 (lb rfl) rfl, s.block 4 (lb rfl) rfl, trivial⟩) ?_
 refine ta 7 rfl (PV.move rfl rfl) ?_
 refine ta 8 rfl (PV.extract (vs := [(.int .i64 (((heirV ((learnX x m.view).view) m.whose).getD 0))), (.bool ((heirV ((learnX x m.view).view) m.whose).isSome))]) rfl rfl rfl) ?_
 refine ta 9 rfl (PV.extract (vs := [(.int .i64 (((heirV ((learnX x m.view).view) m.whose).getD 0))), (.bool ((heirV ((learnX x m.view).view) m.whose).isSome))]) rfl rfl rfl) ?_
 refine TD.decB (fun h24 => ?_) (fun h24 => ?_)
 refine ta 10 rfl (PV.assign rfl rfl) ?_
 refine ta 11 rfl (PV.assign rfl rfl) ?_
 refine TD.done (by kernel_rfl) ?_
 refine TE.next J4 ?_
 refine sr fun _ J5 => ?_
 refine mv ?_
 refine tp (PV.not (r := false) rfl rfl rfl) ?_
 refine mv ?_
 refine tq (PV.move rfl rfl) ?_
 refine tq (PV.move rfl rfl) ?_
 refine tq (PV.neq rfl rfl rfl) ?_
 refine TL.dec (fun h30 => ?_) (fun h30 => ?_)
 refine tp (PV.pick rfl rfl rfl) ?_
 refine nx J5 ?_
 refine TC.yes rfl ?_
 refine TC.ret ?_
 refine TE.passRet ?_
 refine TE.weak (Sub.refl _) (fun _ s => sep_keep [0, 0, 0, 0] rfl s) ?_
 refine TE.ret0 rfl ?_
 have e := (show sealB x from' m.whose m.view = false from decide_eq_false (by intro q; rw [q] at h30; exact h30 rfl))
 obtain ⟨e1, e2, e3⟩ := seal_no (recs := recs) e
 exact by rw [e1, e2, e3, List.append_nil]; rfl
 refine tp (PV.pick rfl rfl rfl) ?_
 refine nx J5 ?_
 refine TC.no rfl ?_
 refine TC.skip ?_
 refine TE.next J3 ?_
 refine TC.seq fun _ J6 => ?_
 refine TC.seq fun _ J7 => ?_
 refine TC.draw (fun w => Frm F w ∧ w.heap[b7]? = some (.cells (ints m.flat).toArray 54 (0, 0)) ∧ True) mixed rfl (fun _ s => ⟨Frm.of s, s.block 4 (lb rfl) rfl, trivial⟩) ?_
 refine ta 0 rfl (PV.move rfl rfl) ?_
 refine ta 1 rfl (PV.nilCheck rfl rfl) ?_
 refine ta 2 rfl (PV.fieldAddr (r := 183) rfl Tryz.underlying104 rfl sz77 rfl rfl) ?_
 refine ta 3 rfl (PV.fieldAddr (r := 1) rfl Tryz.underlying54 rfl sz3 rfl rfl) ?_
 refine ta 4 rfl (PV.load1 (v := (.int .i64 (m.whose))) rfl Tryz.underlying3 rfl rfl (fun _ h => h.2.1) (MsgT.at_whose m rfl)) ?_
 refine TD.all [5] (by kernel_rfl) rfl ?_
 refine AllT.cons rfl ?_ ?_
 refine TL.callR (A := [blkA r (RepT.cells (learnX x m.view)) 104]) (Want.plain rfl) rfl rfl rfl nm30 rfl (mirSealed_does r 183 104 (fun u => RepT.cells { (learnX x m.view) with mirror := u }) (RepT.arnd_mirror (learnX x m.view)) ((learnX x m.view).mirror) m.whose) (fun _ s => s) (fun _ _ _ => trivial) (fun vR HR hR => ?_)
 obtain ⟨rfl, rfl⟩ := hR
 change TL _ _ _ _ _ _ _ _ _ [blkA r (RepT.cells (learnX x m.view)) 104, lgP lg d (((learnC x m.view (recs)).length : Nat) : Int) ((sizeS (learnC x m.view (recs)) : Nat) : Int), dkL d (learnC x m.view (recs)), outP ob (l), blkA b7 (ints m.flat) 54]
 refine TL.decB (fun h37 => ?_) (fun h37 => ?_)
 refine TL.nil ?_
 refine TE.draw (fun _ s => ⟨Frm.of s, s.block 4 (lb rfl) rfl, trivial⟩) ?_
 refine ta 6 rfl (PV.not (r := false) rfl rfl rfl) ?_
 refine TD.done (by kernel_rfl) ?_
 refine TE.next J7 ?_
 refine TC.no rfl ?_
 refine TC.skip ?_
 refine TE.next J6 ?_
 refine TC.draw (fun w => Frm F w ∧ w.heap[b7]? = some (.cells (ints m.flat).toArray 54 (0, 0)) ∧ True) mixed rfl (fun _ s => ⟨Frm.of s, s.block 4 (lb rfl) rfl, trivial⟩) ?_
 refine ta 0 rfl (PV.move rfl rfl) ?_
 refine ta 1 rfl (PV.move rfl rfl) ?_
 refine ta 2 rfl (PV.move rfl rfl) ?_
 refine ta 3 rfl (PV.fieldAddr (r := 1) rfl Tryz.underlying54 rfl sz3 rfl rfl) ?_
 refine ta 4 rfl (PV.load1 (v := (.int .i64 (m.whose))) rfl Tryz.underlying3 rfl rfl (fun _ h => h.2.1) (MsgT.at_whose m rfl)) ?_
 refine ta 5 rfl (PV.move rfl rfl) ?_
 refine ta 6 rfl (PV.nilCheck rfl rfl) ?_
 refine ta 7 rfl (PV.fieldAddr (r := 183) rfl Tryz.underlying104 rfl sz77 rfl rfl) ?_
 refine ta 8 rfl (PV.fieldAddr (r := 1) rfl Tryz.underlying54 rfl sz3 rfl rfl) ?_
 refine ta 9 rfl (PV.load1 (v := (.int .i64 (m.whose))) rfl Tryz.underlying3 rfl rfl (fun _ h => h.2.1) (MsgT.at_whose m rfl)) ?_
 refine TD.all [10] (by kernel_rfl) rfl ?_
 refine AllT.cons rfl ?_ ?_
 refine TL.callR (A := [blkA r (RepT.cells (learnX x m.view)) 104]) (Want.plain rfl) rfl rfl rfl nm26 rfl (mirRow_does r 183 104 (fun u => RepT.cells { (learnX x m.view) with mirror := u }) (RepT.arnd_mirror (learnX x m.view)) ((learnX x m.view).mirror) m.whose) (fun _ s => s) (fun _ _ _ => trivial) (fun vR HR hR => ?_)
 obtain ⟨rfl, rfl⟩ := hR
 change TL _ _ _ _ _ _ _ _ _ [blkA r (RepT.cells (learnX x m.view)) 104, lgP lg d (((learnC x m.view (recs)).length : Nat) : Int) ((sizeS (learnC x m.view (recs)) : Nat) : Int), dkL d (learnC x m.view (recs)), outP ob (l), blkA b7 (ints m.flat) 54]
 refine TL.nil ?_
 refine TE.draw (fun _ s => ⟨Frm.of s, s.block 4 (lb rfl) rfl, trivial⟩) ?_
 refine ta 11 rfl (PV.buildSegs (cs := ints (MsgT.mk 9 m.whose (mirRow ((learnX x m.view).mirror) m.whose) 0 0 BallotT.zero BallotT.zero ChangeT.zero ViewT.zero).flat) (segs := [[Value.int .i64 0], [Value.int .i64 0], ints RowT.zero.flat, [Value.int .i64 0], [Value.int .i64 0], ints BallotT.zero.flat, ints BallotT.zero.flat, ints ChangeT.zero.flat, ints ViewT.zero.flat]) (res := [[Value.int .i64 9], [Value.int .i64 m.whose], ints (mirRow ((learnX x m.view).mirror) m.whose).flat, [Value.int .i64 0], [Value.int .i64 0], ints BallotT.zero.flat, ints BallotT.zero.flat, ints ChangeT.zero.flat, ints ViewT.zero.flat]) (parts := [(0, [Value.int .i64 9]), (1, [Value.int .i64 m.whose]), (2, ints (mirRow ((learnX x m.view).mirror) m.whose).flat)]) rfl rfl Tryz.underlying54 (by kernel_rfl) (by kernel_rfl) rfl (putSegs_step rfl ((rfl : [Value.int .i64 9].length = 1).trans (rfl : [Value.int .i64 0].length = 1).symm) (putSegs_step rfl ((rfl : [Value.int .i64 m.whose].length = 1).trans (rfl : [Value.int .i64 0].length = 1).symm) (putSegs_step rfl ((RowT.len (mirRow ((learnX x m.view).mirror) m.whose)).trans (RowT.len RowT.zero).symm) putSegs_nil))) (MsgT.eq (MsgT.mk 9 m.whose (mirRow ((learnX x m.view).mirror) m.whose) 0 0 BallotT.zero BallotT.zero ChangeT.zero ViewT.zero)).symm) ?_
 refine TD.all [12] (by kernel_rfl) rfl ?_
 refine AllT.cons rfl ?_ ?_
 refine TL.callR (A := [blkA r (RepT.cells (learnX x m.view)) 104, outP ob (l)]) (Want.plain rfl) rfl rfl rfl nm79 rfl (send_does r ob (learnX x m.view) from' (MsgT.mk 9 m.whose (mirRow ((learnX x m.view).mirror) m.whose) 0 0 BallotT.zero BallotT.zero ChangeT.zero ViewT.zero) (l) (by omega) hto2) (fun _ s => sep_selR [0, 2] rfl s) (fun _ _ _ => trivial) (fun vR HR hR => ?_)
 obtain rfl := hR
 change TL _ _ _ _ _ _ _ _ _ [blkA r (RepT.cells (learnX x m.view)) 104, outP ob (l ++ [SaidT.mk from' (MsgT.mk 9 m.whose (mirRow ((learnX x m.view).mirror) m.whose) 0 0 BallotT.zero BallotT.zero ChangeT.zero ViewT.zero)]), lgP lg d (((learnC x m.view (recs)).length : Nat) : Int) ((sizeS (learnC x m.view (recs)) : Nat) : Int), dkL d (learnC x m.view (recs)), blkA b7 (ints m.flat) 54]
 refine TL.nil ?_
 refine TE.draw (fun _ s => ⟨Frm.of s, s.block 4 (lb rfl) rfl, trivial⟩) ?_
 refine TD.done (by kernel_rfl) ?_
 refine TE.weak (Sub.refl _) (fun _ s => sep_keep [0, 1, 1, 0] rfl s) ?_
 refine TE.end0 rfl ?_
 have e := (show sealB x from' m.whose m.view = true from decide_eq_true (by cases q : heirV (learnX x m.view).view m.whose with | none => rw [q] at h24; cases h24 | some z => rw [q] at h30; simpa using h30))
 obtain ⟨e1, e2, e3⟩ := seal_old (recs := recs) e h37
 exact by rw [e1, e2, e3]; rfl
 exact AllT.nil
 exact AllT.nil
 refine TL.nil ?_
 refine TE.draw (fun _ s => ⟨Frm.of s, s.block 4 (lb rfl) rfl, trivial⟩) ?_
 refine ta 6 rfl (PV.not (r := true) rfl rfl rfl) ?_
 refine TD.done (by kernel_rfl) ?_
 refine TE.next J7 ?_
 refine TC.yes rfl ?_
 refine TC.seq fun _ J8 => ?_
 refine sr fun _ J9 => ?_
 refine mv ?_
 refine tp (PV.fieldAddr (r := 1) rfl Tryz.underlying54 rfl sz3 rfl rfl) ?_
 refine tp (PV.load1 (v := (.int .i64 (m.whose))) rfl Tryz.underlying3 rfl rfl (Rd.own 4 rfl rfl) (MsgT.at_whose m rfl)) ?_
 refine tp (PV.buildSegs (cs := ints (RecT.mk 2 m.whose RowT.zero 0 BallotT.zero ChangeT.zero ViewT.zero).flat) (segs := [[Value.int .i64 0], [Value.int .i64 0], ints RowT.zero.flat, [Value.int .i64 0], ints BallotT.zero.flat, ints ChangeT.zero.flat, ints ViewT.zero.flat]) (res := [[Value.int .i64 2], [Value.int .i64 m.whose], ints RowT.zero.flat, [Value.int .i64 0], ints BallotT.zero.flat, ints ChangeT.zero.flat, ints ViewT.zero.flat]) (parts := [(0, [Value.int .i64 2]), (1, [Value.int .i64 m.whose])]) rfl rfl Tryz.underlying108 (by kernel_rfl) (by kernel_rfl) rfl (putSegs_step rfl ((rfl : [Value.int .i64 2].length = 1).trans (rfl : [Value.int .i64 0].length = 1).symm) (putSegs_step rfl ((rfl : [Value.int .i64 m.whose].length = 1).trans (rfl : [Value.int .i64 0].length = 1).symm) putSegs_nil)) (RecT.eq (RecT.mk 2 m.whose RowT.zero 0 BallotT.zero ChangeT.zero ViewT.zero)).symm) ?_
 refine TL.callR (A := [blkA r (RepT.cells (learnX x m.view)) 104, lgP lg d (((learnC x m.view (recs)).length : Nat) : Int) ((sizeS (learnC x m.view (recs)) : Nat) : Int), dkL d (learnC x m.view (recs))]) (Want.plain rfl) rfl rfl rfl nm78 rfl (put_does r lg d (learnX x m.view) (RecT.mk 2 m.whose RowT.zero 0 BallotT.zero ChangeT.zero ViewT.zero) (learnC x m.view (recs)) hlog2 (by have := pieces2 (Nat.le_trans (sealRec_len m.whose) (by decide)); have := hroom; show sizeS (learnC x m.view recs) + piecesN (encR (sealRec m.whose)).length ≤ 2048; omega) (Nat.le_trans (sealRec_len m.whose) (by decide))) (fun _ s => s) (fun _ _ _ => trivial) (fun vR HR hR => ?_)
 obtain ⟨rfl, rfl⟩ := hR
 change TL _ _ _ _ _ _ _ _ _ [blkA r (RepT.cells (learnX x m.view)) 104, lgP lg d (((learnC x m.view (recs) ++ [encR (RecT.mk 2 m.whose RowT.zero 0 BallotT.zero ChangeT.zero ViewT.zero)]).length : Nat) : Int) ((sizeS (learnC x m.view (recs) ++ [encR (RecT.mk 2 m.whose RowT.zero 0 BallotT.zero ChangeT.zero ViewT.zero)]) : Nat) : Int), dkL d (learnC x m.view (recs) ++ [encR (RecT.mk 2 m.whose RowT.zero 0 BallotT.zero ChangeT.zero ViewT.zero)]), outP ob (l), blkA b7 (ints m.flat) 54]
 refine tp (PV.neq rfl rfl rfl) ?_
 refine nx J9 ?_
 refine TC.no rfl ?_
 refine TC.skip ?_
 refine TE.next J8 ?_
 refine TC.draw (fun w => Frm F w ∧ w.heap[b7]? = some (.cells (ints m.flat).toArray 54 (0, 0)) ∧ True) mixed rfl (fun _ s => ⟨Frm.of s, s.block 4 (lb rfl) rfl, trivial⟩) ?_
 refine ta 0 rfl (PV.move rfl rfl) ?_
 refine ta 1 rfl (PV.nilCheck rfl rfl) ?_
 refine ta 2 rfl (PV.fieldAddr (r := 183) rfl Tryz.underlying104 rfl sz77 rfl rfl) ?_
 refine ta 3 rfl (PV.fieldAddr (r := 1) rfl Tryz.underlying54 rfl sz3 rfl rfl) ?_
 refine ta 4 rfl (PV.load1 (v := (.int .i64 (m.whose))) rfl Tryz.underlying3 rfl rfl (fun _ h => h.2.1) (MsgT.at_whose m rfl)) ?_
 refine TD.all [5] (by kernel_rfl) rfl ?_
 refine AllT.cons rfl ?_ ?_
 refine TL.callR (A := [blkA r (RepT.cells (learnX x m.view)) 104]) (Want.plain rfl) rfl rfl rfl nm25 rfl (mirSeal_does r 183 104 (fun u => RepT.cells { (learnX x m.view) with mirror := u }) (RepT.arnd_mirror (learnX x m.view)) ((learnX x m.view).mirror) m.whose) (fun _ s => s) (fun _ _ _ => trivial) (fun vR HR hR => ?_)
 obtain ⟨rfl, rfl⟩ := hR
 change TL _ _ _ _ _ _ _ _ _ [blkA r (RepT.cells (RepT.mk ((learnX x m.view).id) ((learnX x m.view).log) ((learnX x m.view).view) ((learnX x m.view).own) (mirClose ((learnX x m.view).mirror) m.whose) ((learnX x m.view).acc) ((learnX x m.view).round) ((learnX x m.view).vote) ((learnX x m.view).book) ((learnX x m.view).busy) ((learnX x m.view).kept) ((learnX x m.view).waits) ((learnX x m.view).ops) ((learnX x m.view).replies) ((learnX x m.view).told) ((learnX x m.view).last))) 104, lgP lg d (((learnC x m.view (recs) ++ [encR (RecT.mk 2 m.whose RowT.zero 0 BallotT.zero ChangeT.zero ViewT.zero)]).length : Nat) : Int) ((sizeS (learnC x m.view (recs) ++ [encR (RecT.mk 2 m.whose RowT.zero 0 BallotT.zero ChangeT.zero ViewT.zero)]) : Nat) : Int), dkL d (learnC x m.view (recs) ++ [encR (RecT.mk 2 m.whose RowT.zero 0 BallotT.zero ChangeT.zero ViewT.zero)]), outP ob (l), blkA b7 (ints m.flat) 54]
 refine TL.nil ?_
 refine TE.draw (fun _ s => ⟨Frm.of s, s.block 4 (lb rfl) rfl, trivial⟩) ?_
 refine TD.done (by kernel_rfl) ?_
 refine TE.next J6 ?_
 refine TC.draw (fun w => Frm F w ∧ w.heap[b7]? = some (.cells (ints m.flat).toArray 54 (0, 0)) ∧ True) mixed rfl (fun _ s => ⟨Frm.of s, s.block 4 (lb rfl) rfl, trivial⟩) ?_
 refine ta 0 rfl (PV.move rfl rfl) ?_
 refine ta 1 rfl (PV.move rfl rfl) ?_
 refine ta 2 rfl (PV.move rfl rfl) ?_
 refine ta 3 rfl (PV.fieldAddr (r := 1) rfl Tryz.underlying54 rfl sz3 rfl rfl) ?_
 refine ta 4 rfl (PV.load1 (v := (.int .i64 (m.whose))) rfl Tryz.underlying3 rfl rfl (fun _ h => h.2.1) (MsgT.at_whose m rfl)) ?_
 refine ta 5 rfl (PV.move rfl rfl) ?_
 refine ta 6 rfl (PV.nilCheck rfl rfl) ?_
 refine ta 7 rfl (PV.fieldAddr (r := 183) rfl Tryz.underlying104 rfl sz77 rfl rfl) ?_
 refine ta 8 rfl (PV.fieldAddr (r := 1) rfl Tryz.underlying54 rfl sz3 rfl rfl) ?_
 refine ta 9 rfl (PV.load1 (v := (.int .i64 (m.whose))) rfl Tryz.underlying3 rfl rfl (fun _ h => h.2.1) (MsgT.at_whose m rfl)) ?_
 refine TD.all [10] (by kernel_rfl) rfl ?_
 refine AllT.cons rfl ?_ ?_
 refine TL.callR (A := [blkA r (RepT.cells (RepT.mk ((learnX x m.view).id) ((learnX x m.view).log) ((learnX x m.view).view) ((learnX x m.view).own) (mirClose ((learnX x m.view).mirror) m.whose) ((learnX x m.view).acc) ((learnX x m.view).round) ((learnX x m.view).vote) ((learnX x m.view).book) ((learnX x m.view).busy) ((learnX x m.view).kept) ((learnX x m.view).waits) ((learnX x m.view).ops) ((learnX x m.view).replies) ((learnX x m.view).told) ((learnX x m.view).last))) 104]) (Want.plain rfl) rfl rfl rfl nm26 rfl (mirRow_does r 183 104 (fun u => RepT.cells { (RepT.mk ((learnX x m.view).id) ((learnX x m.view).log) ((learnX x m.view).view) ((learnX x m.view).own) (mirClose ((learnX x m.view).mirror) m.whose) ((learnX x m.view).acc) ((learnX x m.view).round) ((learnX x m.view).vote) ((learnX x m.view).book) ((learnX x m.view).busy) ((learnX x m.view).kept) ((learnX x m.view).waits) ((learnX x m.view).ops) ((learnX x m.view).replies) ((learnX x m.view).told) ((learnX x m.view).last)) with mirror := u }) (RepT.arnd_mirror (RepT.mk ((learnX x m.view).id) ((learnX x m.view).log) ((learnX x m.view).view) ((learnX x m.view).own) (mirClose ((learnX x m.view).mirror) m.whose) ((learnX x m.view).acc) ((learnX x m.view).round) ((learnX x m.view).vote) ((learnX x m.view).book) ((learnX x m.view).busy) ((learnX x m.view).kept) ((learnX x m.view).waits) ((learnX x m.view).ops) ((learnX x m.view).replies) ((learnX x m.view).told) ((learnX x m.view).last))) (mirClose ((learnX x m.view).mirror) m.whose) m.whose) (fun _ s => s) (fun _ _ _ => trivial) (fun vR HR hR => ?_)
 obtain ⟨rfl, rfl⟩ := hR
 change TL _ _ _ _ _ _ _ _ _ [blkA r (RepT.cells (RepT.mk ((learnX x m.view).id) ((learnX x m.view).log) ((learnX x m.view).view) ((learnX x m.view).own) (mirClose ((learnX x m.view).mirror) m.whose) ((learnX x m.view).acc) ((learnX x m.view).round) ((learnX x m.view).vote) ((learnX x m.view).book) ((learnX x m.view).busy) ((learnX x m.view).kept) ((learnX x m.view).waits) ((learnX x m.view).ops) ((learnX x m.view).replies) ((learnX x m.view).told) ((learnX x m.view).last))) 104, lgP lg d (((learnC x m.view (recs) ++ [encR (RecT.mk 2 m.whose RowT.zero 0 BallotT.zero ChangeT.zero ViewT.zero)]).length : Nat) : Int) ((sizeS (learnC x m.view (recs) ++ [encR (RecT.mk 2 m.whose RowT.zero 0 BallotT.zero ChangeT.zero ViewT.zero)]) : Nat) : Int), dkL d (learnC x m.view (recs) ++ [encR (RecT.mk 2 m.whose RowT.zero 0 BallotT.zero ChangeT.zero ViewT.zero)]), outP ob (l), blkA b7 (ints m.flat) 54]
 refine TL.nil ?_
 refine TE.draw (fun _ s => ⟨Frm.of s, s.block 4 (lb rfl) rfl, trivial⟩) ?_
 refine ta 11 rfl (PV.buildSegs (cs := ints (MsgT.mk 9 m.whose (mirRow (mirClose ((learnX x m.view).mirror) m.whose) m.whose) 0 0 BallotT.zero BallotT.zero ChangeT.zero ViewT.zero).flat) (segs := [[Value.int .i64 0], [Value.int .i64 0], ints RowT.zero.flat, [Value.int .i64 0], [Value.int .i64 0], ints BallotT.zero.flat, ints BallotT.zero.flat, ints ChangeT.zero.flat, ints ViewT.zero.flat]) (res := [[Value.int .i64 9], [Value.int .i64 m.whose], ints (mirRow (mirClose ((learnX x m.view).mirror) m.whose) m.whose).flat, [Value.int .i64 0], [Value.int .i64 0], ints BallotT.zero.flat, ints BallotT.zero.flat, ints ChangeT.zero.flat, ints ViewT.zero.flat]) (parts := [(0, [Value.int .i64 9]), (1, [Value.int .i64 m.whose]), (2, ints (mirRow (mirClose ((learnX x m.view).mirror) m.whose) m.whose).flat)]) rfl rfl Tryz.underlying54 (by kernel_rfl) (by kernel_rfl) rfl (putSegs_step rfl ((rfl : [Value.int .i64 9].length = 1).trans (rfl : [Value.int .i64 0].length = 1).symm) (putSegs_step rfl ((rfl : [Value.int .i64 m.whose].length = 1).trans (rfl : [Value.int .i64 0].length = 1).symm) (putSegs_step rfl ((RowT.len (mirRow (mirClose ((learnX x m.view).mirror) m.whose) m.whose)).trans (RowT.len RowT.zero).symm) putSegs_nil))) (MsgT.eq (MsgT.mk 9 m.whose (mirRow (mirClose ((learnX x m.view).mirror) m.whose) m.whose) 0 0 BallotT.zero BallotT.zero ChangeT.zero ViewT.zero)).symm) ?_
 refine TD.all [12] (by kernel_rfl) rfl ?_
 refine AllT.cons rfl ?_ ?_
 refine TL.callR (A := [blkA r (RepT.cells (RepT.mk ((learnX x m.view).id) ((learnX x m.view).log) ((learnX x m.view).view) ((learnX x m.view).own) (mirClose ((learnX x m.view).mirror) m.whose) ((learnX x m.view).acc) ((learnX x m.view).round) ((learnX x m.view).vote) ((learnX x m.view).book) ((learnX x m.view).busy) ((learnX x m.view).kept) ((learnX x m.view).waits) ((learnX x m.view).ops) ((learnX x m.view).replies) ((learnX x m.view).told) ((learnX x m.view).last))) 104, outP ob (l)]) (Want.plain rfl) rfl rfl rfl nm79 rfl (send_does r ob (RepT.mk ((learnX x m.view).id) ((learnX x m.view).log) ((learnX x m.view).view) ((learnX x m.view).own) (mirClose ((learnX x m.view).mirror) m.whose) ((learnX x m.view).acc) ((learnX x m.view).round) ((learnX x m.view).vote) ((learnX x m.view).book) ((learnX x m.view).busy) ((learnX x m.view).kept) ((learnX x m.view).waits) ((learnX x m.view).ops) ((learnX x m.view).replies) ((learnX x m.view).told) ((learnX x m.view).last)) from' (MsgT.mk 9 m.whose (mirRow (mirClose ((learnX x m.view).mirror) m.whose) m.whose) 0 0 BallotT.zero BallotT.zero ChangeT.zero ViewT.zero) (l) (by omega) hto2) (fun _ s => sep_selR [0, 2] rfl s) (fun _ _ _ => trivial) (fun vR HR hR => ?_)
 obtain rfl := hR
 change TL _ _ _ _ _ _ _ _ _ [blkA r (RepT.cells (RepT.mk ((learnX x m.view).id) ((learnX x m.view).log) ((learnX x m.view).view) ((learnX x m.view).own) (mirClose ((learnX x m.view).mirror) m.whose) ((learnX x m.view).acc) ((learnX x m.view).round) ((learnX x m.view).vote) ((learnX x m.view).book) ((learnX x m.view).busy) ((learnX x m.view).kept) ((learnX x m.view).waits) ((learnX x m.view).ops) ((learnX x m.view).replies) ((learnX x m.view).told) ((learnX x m.view).last))) 104, outP ob (l ++ [SaidT.mk from' (MsgT.mk 9 m.whose (mirRow (mirClose ((learnX x m.view).mirror) m.whose) m.whose) 0 0 BallotT.zero BallotT.zero ChangeT.zero ViewT.zero)]), lgP lg d (((learnC x m.view (recs) ++ [encR (RecT.mk 2 m.whose RowT.zero 0 BallotT.zero ChangeT.zero ViewT.zero)]).length : Nat) : Int) ((sizeS (learnC x m.view (recs) ++ [encR (RecT.mk 2 m.whose RowT.zero 0 BallotT.zero ChangeT.zero ViewT.zero)]) : Nat) : Int), dkL d (learnC x m.view (recs) ++ [encR (RecT.mk 2 m.whose RowT.zero 0 BallotT.zero ChangeT.zero ViewT.zero)]), blkA b7 (ints m.flat) 54]
 refine TL.nil ?_
 refine TE.draw (fun _ s => ⟨Frm.of s, s.block 4 (lb rfl) rfl, trivial⟩) ?_
 refine TD.done (by kernel_rfl) ?_
 refine TE.weak (Sub.refl _) (fun _ s => sep_keep [0, 1, 1, 0] rfl s) ?_
 refine TE.end0 rfl ?_
 have e := (show sealB x from' m.whose m.view = true from decide_eq_true (by cases q : heirV (learnX x m.view).view m.whose with | none => rw [q] at h24; cases h24 | some z => rw [q] at h30; simpa using h30))
 obtain ⟨e1, e2, e3⟩ := seal_yes (recs := recs) e h37
 exact by rw [e1, e2, e3]; rfl
 exact AllT.nil
 exact AllT.nil
 exact AllT.nil
 exact AllT.nil
 refine ta 10 rfl (PV.assign rfl rfl) ?_
 refine ta 11 rfl (PV.assign rfl rfl) ?_
 refine TD.done (by kernel_rfl) ?_
 refine TE.next J4 ?_
 refine sr fun _ J10 => ?_
 refine mv ?_
 refine tp (PV.not (r := true) rfl rfl rfl) ?_
 refine mv ?_
 refine TL.unmet (b := true) rfl rfl rfl rfl (lb rfl) ?_
 refine TL.unmet (b := true) rfl rfl rfl rfl (lb rfl) ?_
 refine TL.unmet (b := true) rfl rfl rfl rfl (lb rfl) ?_
 refine tp (PV.pick rfl rfl rfl) ?_
 refine nx J10 ?_
 refine TC.yes rfl ?_
 refine TC.ret ?_
 refine TE.passRet ?_
 refine TE.weak (Sub.refl _) (fun _ s => sep_keep [0, 0, 0, 0] rfl s) ?_
 refine TE.ret0 rfl ?_
 have e := (show sealB x from' m.whose m.view = false from decide_eq_false (by intro q; rw [q] at h24; cases h24))
 obtain ⟨e1, e2, e3⟩ := seal_no (recs := recs) e
 exact by rw [e1, e2, e3, List.append_nil]; rfl
 exact AllT.nil
theorem take0_does (r ob lg d : Nat) (x : RepT) (from' : Int) (m : MsgT) (recs : List (List UInt8)) (l : List SaidT) (hlog : x.log = .pointer (some ⟨lg, 0, none⟩)) (hk : m.kind = 0) (hroom : sizeS recs + 34 ≤ 2048) (hx : WF m.row.flat) (hl : l.length ≤ 900000) (hto : from' ≠ x.id) :
    Does Tryz.prog 13 #[(.pointer (some ⟨r, 0, none⟩)), (.iface 34 (.pointer (some ⟨ob, 0, none⟩))), (.int .i64 (from')), (.agg (ints m.flat).toArray)] (fun _ => True) [blkA r (RepT.cells x) 104, lgP lg d (((recs).length : Nat) : Int) ((sizeS (recs) : Nat) : Int), dkL d (recs), outP ob (l)] (Ret (fun _ H => H = [blkA r (RepT.cells (rowX x from' m.whose m.row)) 104, lgL lg d (rowC x from' m.whose m.row recs), dkL d (rowC x from' m.whose m.row recs), outP ob (l ++ rowO x from' m.whose m.row)])) := by
 refine Does.body (vs := [(.pointer (some ⟨r, 0, none⟩)), (.iface 34 (.pointer (some ⟨ob, 0, none⟩))), (.int .i64 (from')), (.agg (ints m.flat).toArray)]) (n := 65) Tryz.func13 rfl rfl rfl (fun w0 F hF => ?_)
 refine sr fun _ J1 => ?_
 refine TL.box (Want.plain rfl) rfl rfl rfl rfl (fun b7 => ?_)
 change TL _ _ _ _ _ _ _ _ _ [blkA b7 (ints m.flat) 54, blkA r (RepT.cells x) 104, lgP lg d (((recs).length : Nat) : Int) ((sizeS (recs) : Nat) : Int), dkL d (recs), outP ob (l)]
 refine nx J1 ?_
 refine sr fun _ J2 => ?_
 refine tp (PV.fieldAddr (r := 0) rfl Tryz.underlying54 rfl sz3 rfl rfl) ?_
 refine tp (PV.load1 (v := (.int .i64 (m.kind))) rfl Tryz.underlying3 rfl rfl (Rd.own 0 rfl rfl) (MsgT.at_kind m rfl)) ?_
 refine nx J2 ?_
 refine TC.block ?_
 refine sr fun _ J3 => ?_
 refine tp (PV.eql rfl rfl rfl) ?_
 refine TL.dec (fun h11 => ?_) (fun h11 => ?_)
 refine sg' ?_
 refine nx J3 ?_
 refine TC.yes rfl ?_
 refine TC.region ?_
 refine mv ?_
 refine mv ?_
 refine mv ?_
 refine tp (PV.loadN (vs := ints m.flat) rfl Tryz.underlying54 rfl sz54 rfl (Rd.own 0 rfl rfl) (MsgT.len m) (whole (MsgT.len m))) ?_
 refine TL.callR (A := [blkA r (RepT.cells x) 104, lgP lg d (((recs).length : Nat) : Int) ((sizeS (recs) : Nat) : Int), dkL d (recs), outP ob (l)]) (Want.plain rfl) rfl rfl rfl nm43 rfl (takeRow_does r ob lg d x from' m recs l hlog hroom hx hl hto) (fun _ s => sep_selR [1, 1, 1, 1] rfl s) (fun _ _ _ => trivial) (fun vR HR hR => ?_)
 obtain rfl := hR
 change TL _ _ _ _ _ _ _ _ _ [blkA r (RepT.cells (rowX x from' m.whose m.row)) 104, lgP lg d (((rowC x from' m.whose m.row recs).length : Nat) : Int) ((sizeS (rowC x from' m.whose m.row recs) : Nat) : Int), dkL d (rowC x from' m.whose m.row recs), outP ob (l ++ rowO x from' m.whose m.row), blkA b7 (ints m.flat) 54]
 refine TL.nil ?_
 refine TE.blockEnd ?_
 refine TE.weak (Sub.refl _) (fun _ s => sep_keep [0, 0, 0, 0] rfl s) ?_
 refine TE.end0 rfl ?_
 exact rfl
 · exact absurd h11 (by omega)
theorem take8_does (r ob lg d : Nat) (x : RepT) (from' : Int) (m : MsgT) (recs : List (List UInt8)) (l : List SaidT) (hlog : x.log = .pointer (some ⟨lg, 0, none⟩)) (hk : m.kind = 8) (hroom : sizeS recs + 4 ≤ 2048) (hal : Alone (enterF x m.view)) (hal1 : Rng (learnX x m.view).view) (hl : l.length ≤ 900000) (hto : from' ≠ x.id) :
    Does Tryz.prog 13 #[(.pointer (some ⟨r, 0, none⟩)), (.iface 34 (.pointer (some ⟨ob, 0, none⟩))), (.int .i64 (from')), (.agg (ints m.flat).toArray)] (fun _ => True) [blkA r (RepT.cells x) 104, lgP lg d (((recs).length : Nat) : Int) ((sizeS (recs) : Nat) : Int), dkL d (recs), outP ob (l)] (Ret (fun _ H => H = [blkA r (RepT.cells (sealX x from' m.whose m.view)) 104, lgL lg d (sealC x from' m.whose m.view recs), dkL d (sealC x from' m.whose m.view recs), outP ob (l ++ sealO x from' m.whose m.view)])) := by
 refine Does.body (vs := [(.pointer (some ⟨r, 0, none⟩)), (.iface 34 (.pointer (some ⟨ob, 0, none⟩))), (.int .i64 (from')), (.agg (ints m.flat).toArray)]) (n := 65) Tryz.func13 rfl rfl rfl (fun w0 F hF => ?_)
 refine sr fun _ J1 => ?_
 refine TL.box (Want.plain rfl) rfl rfl rfl rfl (fun b7 => ?_)
 change TL _ _ _ _ _ _ _ _ _ [blkA b7 (ints m.flat) 54, blkA r (RepT.cells x) 104, lgP lg d (((recs).length : Nat) : Int) ((sizeS (recs) : Nat) : Int), dkL d (recs), outP ob (l)]
 refine nx J1 ?_
 refine sr fun _ J2 => ?_
 refine tp (PV.fieldAddr (r := 0) rfl Tryz.underlying54 rfl sz3 rfl rfl) ?_
 refine tp (PV.load1 (v := (.int .i64 (m.kind))) rfl Tryz.underlying3 rfl rfl (Rd.own 0 rfl rfl) (MsgT.at_kind m rfl)) ?_
 refine nx J2 ?_
 refine TC.block ?_
 refine sr fun _ J3 => ?_
 refine tp (PV.eql rfl rfl rfl) ?_
 refine TL.dec (fun h11 => ?_) (fun h11 => ?_)
 · exact absurd h11 (by omega)
 refine sg' ?_
 refine nx J3 ?_
 refine TC.no rfl ?_
 refine sr fun _ J4 => ?_
 refine tp (PV.eql rfl rfl rfl) ?_
 refine TL.dec (fun h18 => ?_) (fun h18 => ?_)
 · exact absurd h18 (by omega)
 refine sg' ?_
 refine nx J4 ?_
 refine TC.no rfl ?_
 refine sr fun _ J5 => ?_
 refine tp (PV.eql rfl rfl rfl) ?_
 refine TL.dec (fun h25 => ?_) (fun h25 => ?_)
 · exact absurd h25 (by omega)
 refine sg' ?_
 refine nx J5 ?_
 refine TC.no rfl ?_
 refine sr fun _ J6 => ?_
 refine tp (PV.eql rfl rfl rfl) ?_
 refine TL.dec (fun h35 => ?_) (fun h35 => ?_)
 · exact absurd h35 (by omega)
 refine sg' ?_
 refine nx J6 ?_
 refine TC.no rfl ?_
 refine sr fun _ J7 => ?_
 refine tp (PV.eql rfl rfl rfl) ?_
 refine TL.dec (fun h42 => ?_) (fun h42 => ?_)
 refine sg' ?_
 refine nx J7 ?_
 refine TC.yes rfl ?_
 refine TC.region ?_
 refine mv ?_
 refine mv ?_
 refine mv ?_
 refine tp (PV.loadN (vs := ints m.flat) rfl Tryz.underlying54 rfl sz54 rfl (Rd.own 0 rfl rfl) (MsgT.len m) (whole (MsgT.len m))) ?_
 refine TL.callR (A := [blkA r (RepT.cells x) 104, lgP lg d (((recs).length : Nat) : Int) ((sizeS (recs) : Nat) : Int), dkL d (recs), outP ob (l)]) (Want.plain rfl) rfl rfl rfl nm46 rfl (takeSeal_does r ob lg d x from' m recs l hlog hroom hal hal1 hl hto) (fun _ s => sep_selR [1, 1, 1, 1] rfl s) (fun _ _ _ => trivial) (fun vR HR hR => ?_)
 obtain rfl := hR
 change TL _ _ _ _ _ _ _ _ _ [blkA r (RepT.cells (sealX x from' m.whose m.view)) 104, lgP lg d (((sealC x from' m.whose m.view recs).length : Nat) : Int) ((sizeS (sealC x from' m.whose m.view recs) : Nat) : Int), dkL d (sealC x from' m.whose m.view recs), outP ob (l ++ sealO x from' m.whose m.view), blkA b7 (ints m.flat) 54]
 refine TL.nil ?_
 refine TE.blockEnd ?_
 refine TE.weak (Sub.refl _) (fun _ s => sep_keep [0, 0, 0, 0] rfl s) ?_
 refine TE.end0 rfl ?_
 exact rfl
 · exact absurd h42 (by omega)
end Go.Proofs.YtfceaphohlbnbaaGreat
end
