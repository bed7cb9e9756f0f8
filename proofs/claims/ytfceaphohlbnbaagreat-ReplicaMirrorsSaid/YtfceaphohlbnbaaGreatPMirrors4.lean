/-
  Joined texts: what a statement's proof reaches.
-/
import Derived.Test.YtfceaphohlbnbaaGreatPMirrors3
set_option maxHeartbeats 8000000
section
namespace Go.Proofs.YtfceaphohlbnbaaGreat

open Go Leg Codec Api Dsk

set_option maxRecDepth 100000

theorem dr_new_does  :
    Does Tryz.prog 11 #[] (fun _ => True) [] (Ret (fun v H => ∃ d m, v = .pointer (some ⟨d, 0, none⟩) ∧ H = [blkA d [(.map (some m)), (.slice none 0 0), (.bool false), (.int .i64 0), (.bool false)] 115, mapP m ([])])) := by
 refine Does.body (vs := []) (n := 4) Tryz.func11 rfl rfl rfl (fun w0 F hF => ?_)
 refine sr fun _ J1 => ?_
 refine sg' ?_
 refine nx J1 ?_
 refine sr fun _ J2 => ?_
 refine TL.makeMap (Want.plain rfl) rfl rfl rfl (fun m1 => ?_)
 change TL _ _ _ _ _ _ _ _ _ [mapP m1 ([])]
 refine tp (PV.build (cells := #[(.map (some m1)), (.slice none 0 0), (.bool false), (.int .i64 0), (.bool false)]) rfl rfl (by as_aux_lemma => kernel_rfl)) ?_
 refine TL.box (Want.plain rfl) rfl rfl rfl rfl (fun b3 => ?_)
 change TL _ _ _ _ _ _ _ _ _ [blkA b3 [(.map (some m1)), (.slice none 0 0), (.bool false), (.int .i64 0), (.bool false)] 115, mapP m1 ([])]
 refine sg' ?_
 refine nx J2 ?_
 refine TC.ret ?_
 refine TE.weak (Sub.refl _) (fun _ s => sep_keep [0, 0] rfl s) ?_
 refine TE.ret1 rfl rfl ?_
 exact ⟨b3, m1, rfl, rfl⟩
theorem mixedD : Tryz.prog.follows .mixedOrders = true := by kernel_rfl

theorem dr_last_does (d m : Nat) (wv : Value) (s : Secs) (ar dn : Bool) (lf at' : Int) (b : List UInt8) (hb : b.length = 64) :
    Does Tryz.prog 57 #[(.pointer (some ⟨d, 0, none⟩)), (.int .i64 (at')), (.agg (u8s b).toArray)] (fun _ => True) [blkA d [(.map (some m)), wv, (.bool (ar)), (.int .i64 (lf)), (.bool (dn))] 115, mapP m (kvS s)] (Ret (fun _ H => H = [blkA d [(.map (some m)), wv, (.bool (ar)), (.int .i64 (lf)), (.bool (dn))] 115, mapP m (kvS (sput s at' b))])) := by
 refine Does.body (vs := [(.pointer (some ⟨d, 0, none⟩)), (.int .i64 (at')), (.agg (u8s b).toArray)]) (n := 21) Tryz.func57 rfl rfl rfl (fun w0 F hF => ?_)
 refine sr fun _ J1 => ?_
 refine TL.box (Want.plain rfl) rfl rfl rfl rfl (fun b5 => ?_)
 change TL _ _ _ _ _ _ _ _ _ [blkA b5 (u8s b) 133, blkA d [(.map (some m)), wv, (.bool (ar)), (.int .i64 (lf)), (.bool (dn))] 115, mapP m (kvS s)]
 refine nx J1 ?_
 refine TC.seq fun _ J2 => ?_
 refine sr fun _ J3 => ?_
 refine mv ?_
 refine tp (PV.nilCheck rfl rfl) ?_
 refine tp (PV.fieldAddr (r := 0) rfl Tryz.underlying115 rfl sz112 rfl rfl) ?_
 refine tp (PV.load1 (v := (.map (some m))) rfl Tryz.underlying112 rfl rfl (Rd.own 1 rfl rfl) rfl) ?_
 refine tp (PV.mapNil rfl Tryz.underlying112 rfl rfl) ?_
 refine nx J3 ?_
 refine TC.no rfl ?_
 refine TC.skip ?_
 refine TE.next J2 ?_
 refine TC.draw (fun w => Frm F w ∧ w.heap[d]? = some (.cells ([(.map (some m)), wv, (.bool (ar)), (.int .i64 (lf)), (.bool (dn))]).toArray 115 (0, 0)) ∧ w.heap[b5]? = some (.cells (u8s b).toArray 133 (0, 0)) ∧ True) mixedD rfl (fun _ s => ⟨Frm.of s, s.block 1 (lb rfl) rfl, s.block 0 (lb rfl) rfl, trivial⟩) ?_
 refine ta 0 rfl (PV.move rfl rfl) ?_
 refine ta 1 rfl (PV.nilCheck rfl rfl) ?_
 refine ta 2 rfl (PV.fieldAddr (r := 0) rfl Tryz.underlying115 rfl sz112 rfl rfl) ?_
 refine ta 3 rfl (PV.load1 (v := (.map (some m))) rfl Tryz.underlying112 rfl rfl (fun _ h => h.2.1) rfl) ?_
 refine ta 4 rfl (PV.move rfl rfl) ?_
 refine ta 5 rfl (PV.loadN (vs := u8s b) rfl Tryz.underlying133 rfl sz133 rfl (fun _ h => h.2.2.1) (by rw [u8s_length]; exact hb) (by rw [List.drop_zero, List.take_of_length_le (by rw [u8s_length, hb]; exact Nat.le_refl _)])) ?_
 refine TD.all [6] (by kernel_rfl) rfl ?_
 refine AllT.cons rfl ?_ ?_
 refine TL.mapUpdate (i := 2) (H' := [blkA b5 (u8s b) 133, blkA d [(.map (some m)), wv, (.bool (ar)), (.int .i64 (lf)), (.bool (dn))] 115, mapP m (kvS (sput s at' b))]) (Want.plain rfl) rfl rfl Tryz.underlying112 Tryz.underlying3 rfl rfl rfl rfl rfl (congrArg (fun q => List.set _ 2 (mapP m q)) (kput_kvS _ _ _)) ?_
 refine TL.nil ?_
 refine TE.draw (fun _ s => ⟨Frm.of s, s.block 1 (lb rfl) rfl, s.block 0 (lb rfl) rfl, trivial⟩) ?_
 refine TD.done (by kernel_rfl) ?_
 refine TE.weak (Sub.refl _) (fun _ s => sep_keep [1, 1] rfl s) ?_
 refine TE.end0 rfl ?_
 exact rfl
 exact AllT.nil
theorem dr_write_does (d m : Nat) (wv : Value) (ws : Secs) (ar dn : Bool) (lf at' : Int) (x : Value) (bs : List UInt8) (hl : 0 ≤ lf ∧ lf ≤ 9223372036854775807) (hw : ws.length ≤ 1000000000) :
    Does Tryz.prog 70 #[(.pointer (some ⟨d, 0, none⟩)), (.int .i64 (at')), x] (IsW x bs) [blkA d [(.map (some m)), wv, (.bool (ar)), (.int .i64 (lf)), (.bool (dn))] 115, own wv (ws.length) (wflat ws) 135 65] (Ret (fun v H => if at' < 0 ∨ 2048 ≤ at' ∨ 64 < bs.length then v = .int .i64 5 ∧ H = [blkA d [(.map (some m)), wv, (.bool (ar)), (.int .i64 (lf)), (.bool (dn))] 115, own wv (ws.length) (wflat ws) 135 65] else if dn = true ∨ (ar = true ∧ lf = 0) then v = .int .i64 4 ∧ H = [blkA d [(.map (some m)), wv, (.bool (ar)), (.int .i64 (lf)), (.bool true)] 115, own wv (ws.length) (wflat ws) 135 65] else v = .int .i64 0 ∧ ∃ wv', H = [blkA d [(.map (some m)), wv', (.bool (ar)), (.int .i64 ((if ar = true then lf - 1 else lf))), (.bool false)] 115, own wv' ((ws ++ [(at', padS bs)]).length) (wflat (ws ++ [(at', padS bs)])) 135 65])) := by
 refine Does.body (vs := [(.pointer (some ⟨d, 0, none⟩)), (.int .i64 (at')), x]) (n := 64) Tryz.func70 rfl rfl rfl (fun w0 F hF => ?_)
 refine sr fun _ J1 => ?_
 refine sg' ?_
 refine nx J1 ?_
 clear J1
 refine TC.seq fun _ J2 => ?_
 refine sr fun _ J3 => ?_
 refine mv ?_
 refine tp (PV.lss rfl rfl rfl) ?_
 refine TL.dec (fun h9 => ?_) (fun h9 => ?_)
 refine mv ?_
 refine TL.unmet (b := true) rfl rfl rfl rfl (lb rfl) ?_
 refine TL.unmet (b := true) rfl rfl rfl rfl (lb rfl) ?_
 refine tp (PV.pick rfl rfl rfl) ?_
 refine mv ?_
 refine TL.unmet (b := true) rfl rfl rfl rfl (lb rfl) ?_
 refine TL.unmet (b := true) rfl rfl rfl rfl (lb rfl) ?_
 refine TL.unmet (b := true) rfl rfl rfl rfl (lb rfl) ?_
 refine tp (PV.pick rfl rfl rfl) ?_
 refine nx J3 ?_
 clear J3
 refine TC.yes rfl ?_
 refine sr fun _ J4 => ?_
 refine sg' ?_
 refine nx J4 ?_
 clear J4
 refine TC.ret ?_
 refine TE.passRet ?_
 clear J2
 refine TE.weak (Sub.refl _) (fun _ s => sep_keep [0, 0] rfl s) ?_
 refine TE.ret1 rfl rfl ?_
 show (if _ then _ else _)
 first
   | (rw [if_pos (by omega)]; exact ⟨rfl, rfl⟩)
   | (rw [if_neg (by omega), if_pos (by simp_all)]; exact ⟨rfl, by simp_all <;> rfl⟩)
   | (rw [if_neg (by omega), if_neg (by simp_all)]; exact ⟨rfl, v61, by simp_all <;> rfl⟩)
 refine mv ?_
 refine tq (PV.move rfl rfl) ?_
 refine tq (PV.geq rfl rfl rfl) ?_
 refine TL.dec (fun h12 => ?_) (fun h12 => ?_)
 refine tp (PV.pick rfl rfl rfl) ?_
 refine mv ?_
 refine TL.unmet (b := true) rfl rfl rfl rfl (lb rfl) ?_
 refine TL.unmet (b := true) rfl rfl rfl rfl (lb rfl) ?_
 refine TL.unmet (b := true) rfl rfl rfl rfl (lb rfl) ?_
 refine tp (PV.pick rfl rfl rfl) ?_
 refine nx J3 ?_
 clear J3
 refine TC.yes rfl ?_
 refine sr fun _ J5 => ?_
 refine sg' ?_
 refine nx J5 ?_
 clear J5
 refine TC.ret ?_
 refine TE.passRet ?_
 clear J2
 refine TE.weak (Sub.refl _) (fun _ s => sep_keep [0, 0] rfl s) ?_
 refine TE.ret1 rfl rfl ?_
 show (if _ then _ else _)
 first
   | (rw [if_pos (by omega)]; exact ⟨rfl, rfl⟩)
   | (rw [if_neg (by omega), if_pos (by simp_all)]; exact ⟨rfl, by simp_all <;> rfl⟩)
   | (rw [if_neg (by omega), if_neg (by simp_all)]; exact ⟨rfl, v61, by simp_all <;> rfl⟩)
 refine tp (PV.pick rfl rfl rfl) ?_
 refine mv ?_
 refine tq (PV.move rfl rfl) ?_
 refine tq (PV.lenV rfl Tryz.underlying106 rfl hF.len) ?_
 refine tq (PV.gtr rfl rfl rfl) ?_
 refine TL.dec (fun h17 => ?_) (fun h17 => ?_)
 refine tp (PV.pick rfl rfl rfl) ?_
 refine nx J3 ?_
 clear J3
 refine TC.yes rfl ?_
 refine sr fun _ J6 => ?_
 refine sg' ?_
 refine nx J6 ?_
 clear J6
 refine TC.ret ?_
 refine TE.passRet ?_
 clear J2
 refine TE.weak (Sub.refl _) (fun _ s => sep_keep [0, 0] rfl s) ?_
 refine TE.ret1 rfl rfl ?_
 show (if _ then _ else _)
 first
   | (rw [if_pos (by omega)]; exact ⟨rfl, rfl⟩)
   | (rw [if_neg (by omega), if_pos (by simp_all)]; exact ⟨rfl, by simp_all <;> rfl⟩)
   | (rw [if_neg (by omega), if_neg (by simp_all)]; exact ⟨rfl, v61, by simp_all <;> rfl⟩)
 refine tp (PV.pick rfl rfl rfl) ?_
 refine nx J3 ?_
 clear J3
 refine TC.no rfl ?_
 refine TC.skip ?_
 refine TE.next J2 ?_
 clear J2
 refine TC.seq fun _ J7 => ?_
 refine sr fun _ J8 => ?_
 refine mv ?_
 refine tp (PV.nilCheck rfl rfl) ?_
 refine tp (PV.fieldAddr (r := 2) rfl Tryz.underlying115 rfl sz4 rfl rfl) ?_
 refine tp (PV.load1 (v := (.bool (ar))) rfl Tryz.underlying4 rfl rfl (Rd.own 0 rfl rfl) rfl) ?_
 refine TL.decB (fun h22 => ?_) (fun h22 => ?_)
 refine mv ?_
 refine tq (PV.move rfl rfl) ?_
 refine tq (PV.nilCheck rfl rfl) ?_
 refine tq (PV.fieldAddr (r := 3) rfl Tryz.underlying115 rfl sz3 rfl rfl) ?_
 refine tq (PV.load1 (v := (.int .i64 (lf))) rfl Tryz.underlying3 rfl rfl (Rd.own 0 rfl rfl) rfl) ?_
 refine tq (PV.eql rfl rfl rfl) ?_
 refine TL.dec (fun h28 => ?_) (fun h28 => ?_)
 refine tp (PV.pick rfl rfl rfl) ?_
 refine nx J8 ?_
 clear J8
 refine TC.yes rfl ?_
 refine TC.region ?_
 refine mv ?_
 refine tp (PV.nilCheck rfl rfl) ?_
 refine tp (PV.fieldAddr (r := 4) rfl Tryz.underlying115 rfl sz4 rfl rfl) ?_
 refine TL.store1 (i := 0) (H' := [blkA d [(.map (some m)), wv, (.bool (ar)), (.int .i64 (lf)), (.bool true)] 115, own wv (ws.length) (wflat ws) 135 65]) (Want.plain rfl) rfl rfl rfl rfl rfl sz4 rfl rfl (lb rfl) rfl rfl ?_
 refine nx J7 ?_
 clear J7
 refine TC.seq fun _ J9 => ?_
 refine sr fun _ J10 => ?_
 refine mv ?_
 refine tp (PV.nilCheck rfl rfl) ?_
 refine tp (PV.fieldAddr (r := 4) rfl Tryz.underlying115 rfl sz4 rfl rfl) ?_
 refine tp (PV.load1 (v := (.bool true)) rfl Tryz.underlying4 rfl rfl (Rd.own 0 rfl rfl) rfl) ?_
 refine nx J10 ?_
 clear J10
 refine TC.yes rfl ?_
 refine sr fun _ J11 => ?_
 refine sg' ?_
 refine nx J11 ?_
 clear J11
 refine TC.ret ?_
 refine TE.passRet ?_
 clear J9
 refine TE.weak (Sub.refl _) (fun _ s => sep_keep [0, 0] rfl s) ?_
 refine TE.ret1 rfl rfl ?_
 show (if _ then _ else _)
 first
   | (rw [if_pos (by omega)]; exact ⟨rfl, rfl⟩)
   | (rw [if_neg (by omega), if_pos (by simp_all)]; exact ⟨rfl, by simp_all <;> rfl⟩)
   | (rw [if_neg (by omega), if_neg (by simp_all)]; exact ⟨rfl, v61, by simp_all <;> rfl⟩)
 refine tp (PV.pick rfl rfl rfl) ?_
 refine nx J8 ?_
 clear J8
 refine TC.no rfl ?_
 refine TC.skip ?_
 refine TE.next J7 ?_
 clear J7
 refine TC.seq fun _ J12 => ?_
 refine sr fun _ J13 => ?_
 refine mv ?_
 refine tp (PV.nilCheck rfl rfl) ?_
 refine tp (PV.fieldAddr (r := 4) rfl Tryz.underlying115 rfl sz4 rfl rfl) ?_
 refine tp (PV.load1 (v := (.bool (dn))) rfl Tryz.underlying4 rfl rfl (Rd.own 0 rfl rfl) rfl) ?_
 refine TL.decB (fun h36 => ?_) (fun h36 => ?_)
 refine nx J13 ?_
 clear J13
 refine TC.yes rfl ?_
 refine sr fun _ J14 => ?_
 refine sg' ?_
 refine nx J14 ?_
 clear J14
 refine TC.ret ?_
 refine TE.passRet ?_
 clear J12
 refine TE.weak (Sub.refl _) (fun _ s => sep_keep [0, 0] rfl s) ?_
 refine TE.ret1 rfl rfl ?_
 show (if _ then _ else _)
 first
   | (rw [if_pos (by omega)]; exact ⟨rfl, rfl⟩)
   | (rw [if_neg (by omega), if_pos (by simp_all)]; exact ⟨rfl, by simp_all <;> rfl⟩)
   | (rw [if_neg (by omega), if_neg (by simp_all)]; exact ⟨rfl, v61, by simp_all <;> rfl⟩)
 refine nx J13 ?_
 clear J13
 refine TC.no rfl ?_
 refine TC.skip ?_
 refine TE.next J12 ?_
 clear J12
 refine TC.seq fun _ J15 => ?_
 refine sr fun _ J16 => ?_
 refine mv ?_
 refine tp (PV.nilCheck rfl rfl) ?_
 refine tp (PV.fieldAddr (r := 2) rfl Tryz.underlying115 rfl sz4 rfl rfl) ?_
 refine tp (PV.load1 (v := (.bool (ar))) rfl Tryz.underlying4 rfl rfl (Rd.own 0 rfl rfl) rfl) ?_
 refine TL.decB (fun h40 => ?_) (fun h40 => ?_)
 refine nx J16 ?_
 clear J16
 refine TC.yes rfl ?_
 refine TC.region ?_
 refine mv ?_
 refine tp (PV.nilCheck rfl rfl) ?_
 refine tp (PV.fieldAddr (r := 3) rfl Tryz.underlying115 rfl sz3 rfl rfl) ?_
 refine tp (PV.load1 (v := (.int .i64 (lf))) rfl Tryz.underlying3 rfl rfl (Rd.own 0 rfl rfl) rfl) ?_
 refine tp (PV.sub rfl rfl rfl (wrap_i64 (by omega) (by omega))) ?_
 refine tp (PV.nilCheck rfl rfl) ?_
 refine tp (PV.fieldAddr (r := 3) rfl Tryz.underlying115 rfl sz3 rfl rfl) ?_
 refine TL.store1 (i := 0) (H' := [blkA d [(.map (some m)), wv, (.bool (ar)), (.int .i64 (lf - 1)), (.bool (dn))] 115, own wv (ws.length) (wflat ws) 135 65]) (Want.plain rfl) rfl rfl rfl rfl rfl sz3 rfl rfl (lb rfl) rfl rfl ?_
 refine nx J15 ?_
 clear J15
 refine sr fun _ J17 => ?_
 refine mv ?_
 refine tp (PV.build (cells := #[(.int .i64 (at')), (.int .u8 0), (.int .u8 0), (.int .u8 0), (.int .u8 0), (.int .u8 0), (.int .u8 0), (.int .u8 0), (.int .u8 0), (.int .u8 0), (.int .u8 0), (.int .u8 0), (.int .u8 0), (.int .u8 0), (.int .u8 0), (.int .u8 0), (.int .u8 0), (.int .u8 0), (.int .u8 0), (.int .u8 0), (.int .u8 0), (.int .u8 0), (.int .u8 0), (.int .u8 0), (.int .u8 0), (.int .u8 0), (.int .u8 0), (.int .u8 0), (.int .u8 0), (.int .u8 0), (.int .u8 0), (.int .u8 0), (.int .u8 0), (.int .u8 0), (.int .u8 0), (.int .u8 0), (.int .u8 0), (.int .u8 0), (.int .u8 0), (.int .u8 0), (.int .u8 0), (.int .u8 0), (.int .u8 0), (.int .u8 0), (.int .u8 0), (.int .u8 0), (.int .u8 0), (.int .u8 0), (.int .u8 0), (.int .u8 0), (.int .u8 0), (.int .u8 0), (.int .u8 0), (.int .u8 0), (.int .u8 0), (.int .u8 0), (.int .u8 0), (.int .u8 0), (.int .u8 0), (.int .u8 0), (.int .u8 0), (.int .u8 0), (.int .u8 0), (.int .u8 0), (.int .u8 0)]) rfl rfl (by as_aux_lemma => kernel_rfl)) ?_
 refine TL.alloc (Want.plain rfl) rfl rfl rfl z135 (fun b7 => ?_)
 change TL _ _ _ _ _ _ _ _ _ [blkA b7 [(.int .i64 0), (.int .u8 0), (.int .u8 0), (.int .u8 0), (.int .u8 0), (.int .u8 0), (.int .u8 0), (.int .u8 0), (.int .u8 0), (.int .u8 0), (.int .u8 0), (.int .u8 0), (.int .u8 0), (.int .u8 0), (.int .u8 0), (.int .u8 0), (.int .u8 0), (.int .u8 0), (.int .u8 0), (.int .u8 0), (.int .u8 0), (.int .u8 0), (.int .u8 0), (.int .u8 0), (.int .u8 0), (.int .u8 0), (.int .u8 0), (.int .u8 0), (.int .u8 0), (.int .u8 0), (.int .u8 0), (.int .u8 0), (.int .u8 0), (.int .u8 0), (.int .u8 0), (.int .u8 0), (.int .u8 0), (.int .u8 0), (.int .u8 0), (.int .u8 0), (.int .u8 0), (.int .u8 0), (.int .u8 0), (.int .u8 0), (.int .u8 0), (.int .u8 0), (.int .u8 0), (.int .u8 0), (.int .u8 0), (.int .u8 0), (.int .u8 0), (.int .u8 0), (.int .u8 0), (.int .u8 0), (.int .u8 0), (.int .u8 0), (.int .u8 0), (.int .u8 0), (.int .u8 0), (.int .u8 0), (.int .u8 0), (.int .u8 0), (.int .u8 0), (.int .u8 0), (.int .u8 0)] 135, blkA d [(.map (some m)), wv, (.bool (ar)), (.int .i64 (lf - 1)), (.bool (dn))] 115, own wv (ws.length) (wflat ws) 135 65]
 refine TL.store (vs := [(.int .i64 (at')), (.int .u8 0), (.int .u8 0), (.int .u8 0), (.int .u8 0), (.int .u8 0), (.int .u8 0), (.int .u8 0), (.int .u8 0), (.int .u8 0), (.int .u8 0), (.int .u8 0), (.int .u8 0), (.int .u8 0), (.int .u8 0), (.int .u8 0), (.int .u8 0), (.int .u8 0), (.int .u8 0), (.int .u8 0), (.int .u8 0), (.int .u8 0), (.int .u8 0), (.int .u8 0), (.int .u8 0), (.int .u8 0), (.int .u8 0), (.int .u8 0), (.int .u8 0), (.int .u8 0), (.int .u8 0), (.int .u8 0), (.int .u8 0), (.int .u8 0), (.int .u8 0), (.int .u8 0), (.int .u8 0), (.int .u8 0), (.int .u8 0), (.int .u8 0), (.int .u8 0), (.int .u8 0), (.int .u8 0), (.int .u8 0), (.int .u8 0), (.int .u8 0), (.int .u8 0), (.int .u8 0), (.int .u8 0), (.int .u8 0), (.int .u8 0), (.int .u8 0), (.int .u8 0), (.int .u8 0), (.int .u8 0), (.int .u8 0), (.int .u8 0), (.int .u8 0), (.int .u8 0), (.int .u8 0), (.int .u8 0), (.int .u8 0), (.int .u8 0), (.int .u8 0), (.int .u8 0)]) (i := 0) (H' := [blkA b7 [(.int .i64 (at')), (.int .u8 0), (.int .u8 0), (.int .u8 0), (.int .u8 0), (.int .u8 0), (.int .u8 0), (.int .u8 0), (.int .u8 0), (.int .u8 0), (.int .u8 0), (.int .u8 0), (.int .u8 0), (.int .u8 0), (.int .u8 0), (.int .u8 0), (.int .u8 0), (.int .u8 0), (.int .u8 0), (.int .u8 0), (.int .u8 0), (.int .u8 0), (.int .u8 0), (.int .u8 0), (.int .u8 0), (.int .u8 0), (.int .u8 0), (.int .u8 0), (.int .u8 0), (.int .u8 0), (.int .u8 0), (.int .u8 0), (.int .u8 0), (.int .u8 0), (.int .u8 0), (.int .u8 0), (.int .u8 0), (.int .u8 0), (.int .u8 0), (.int .u8 0), (.int .u8 0), (.int .u8 0), (.int .u8 0), (.int .u8 0), (.int .u8 0), (.int .u8 0), (.int .u8 0), (.int .u8 0), (.int .u8 0), (.int .u8 0), (.int .u8 0), (.int .u8 0), (.int .u8 0), (.int .u8 0), (.int .u8 0), (.int .u8 0), (.int .u8 0), (.int .u8 0), (.int .u8 0), (.int .u8 0), (.int .u8 0), (.int .u8 0), (.int .u8 0), (.int .u8 0), (.int .u8 0)] 135, blkA d [(.map (some m)), wv, (.bool (ar)), (.int .i64 (lf - 1)), (.bool (dn))] 115, own wv (ws.length) (wflat ws) 135 65]) (Want.plain rfl) rfl rfl rfl rfl rfl sz135 (by simp [Value.oneCell']) rfl rfl (lbe rfl) rfl rfl ?_
 refine nx J17 ?_
 clear J17
 refine sr fun _ J18 => ?_
 refine tp (PV.fieldAddr (r := 1) rfl Tryz.underlying135 rfl sz133 rfl rfl) ?_
 refine tp (PV.sliceArr rfl Tryz.underlying133 sz5 rfl) ?_
 refine mv ?_
 refine TL.copy (i := 0) (m := bs.length) (news := (u8s bs)) (H' := [blkA b7 (wcell (at', padS bs)) 135, blkA d [(.map (some m)), wv, (.bool (ar)), (.int .i64 (lf - 1)), (.bool (dn))] 115, own wv (ws.length) (wflat ws) 135 65]) (Want.plain rfl) rfl rfl rfl Tryz.underlying106 sz5 rfl rfl rfl rfl (fun _ _ => hF.src (fun _ h => Frm.of h)) (u8s_one _) (by show 1 + min bs.length 64 ≤ 65; omega) (wr_pad (by omega)) rfl ?_
 refine nx J18 ?_
 clear J18
 refine TC.seq fun _ J19 => ?_
 refine TC.draw (fun w => Frm F w ∧ w.heap[b7]? = some (.cells (wcell (at', padS bs)).toArray 135 (0, 0)) ∧ True) mixedD rfl (fun _ s => ⟨Frm.of s, s.block 0 (lb rfl) rfl, trivial⟩) ?_
 refine ta 0 rfl (PV.move rfl rfl) ?_
 refine ta 1 rfl (PV.move rfl rfl) ?_
 refine ta 2 rfl (PV.nilCheck rfl rfl) ?_
 refine ta 3 rfl (PV.fieldAddr (r := 1) rfl Tryz.underlying115 rfl sz113 rfl rfl) ?_
 refine ta 5 rfl (PV.loadN (vs := wcell (at', padS bs)) rfl Tryz.underlying135 rfl sz135 rfl (fun _ h => h.2.1) (wcell_len (padS_len (by omega))) (by rw [List.drop_zero, List.take_of_length_le (by rw [(wcell_len (padS_len (by omega)))]; exact Nat.le_refl _)])) ?_
 refine TD.all [4, 6] (by kernel_rfl) rfl ?_
 refine AllT.cons rfl ?_ ?_
 refine tp (PV.load1 (v := wv) rfl Tryz.underlying113 rfl rfl (Rd.own 1 rfl rfl) rfl) ?_
 refine TL.nil ?_
 refine TE.draw (fun _ s => ⟨Frm.of s, s.block 0 (lb rfl) rfl, trivial⟩) ?_
 refine TD.all [6] (by kernel_rfl) rfl ?_
 refine AllT.cons rfl ?_ ?_
 refine TL.buildSlice (cells := (wcell (at', padS bs)).toArray) (Want.plain rfl) rfl rfl rfl Tryz.underlying113 in135 rfl rfl rfl (fill_at (wcell_len (padS_len (by omega))) (by simp)) (fun b60 => ?_)
 change TL _ _ _ _ _ _ _ _ _ [blkA b60 (wcell (at', padS bs)) 135, blkA b7 (wcell (at', padS bs)) 135, blkA d [(.map (some m)), wv, (.bool (ar)), (.int .i64 (lf - 1)), (.bool (dn))] 115, own wv (ws.length) (wflat ws) 135 65]
 refine TL.nil ?_
 refine TE.draw (fun _ s => ⟨Frm.of s, s.block 1 (lb rfl) rfl, trivial⟩) ?_
 refine TD.all [7] (by kernel_rfl) rfl ?_
 refine AllT.cons rfl ?_ ?_
 refine TL.append (k := 3) (news := wcell (at', padS bs)) (nn' := (ws ++ [(at', padS bs)]).length) (xs' := wflat (ws ++ [(at', padS bs)])) (Want.plain rfl) rfl rfl rfl Tryz.underlying113 in135 rfl rfl rfl rfl rfl rfl (fun _ _ => Src.rd (wcell_len (padS_len (by omega))) (Rd.own 0 rfl rfl) (by rw [List.drop_zero, List.take_of_length_le (Nat.le_refl _)])) (wcell_one _) (by simp only [maxLen]; omega) (by omega) (by simp) (by simp [wflat]) (fun v61 ov61 => ?_)
 change TL _ _ _ _ _ _ _ _ _ [blkA b60 (wcell (at', padS bs)) 135, blkA b7 (wcell (at', padS bs)) 135, blkA d [(.map (some m)), wv, (.bool (ar)), (.int .i64 (lf - 1)), (.bool (dn))] 115, own v61 ((ws ++ [(at', padS bs)]).length) (wflat (ws ++ [(at', padS bs)])) 135 65]
 refine TL.nil ?_
 refine TE.draw (fun _ s => ⟨Frm.of s, s.block 1 (lb rfl) rfl, trivial⟩) ?_
 refine ta 8 rfl (PV.nilCheck rfl rfl) ?_
 refine ta 9 rfl (PV.fieldAddr (r := 1) rfl Tryz.underlying115 rfl sz113 rfl rfl) ?_
 refine TD.all [10] (by kernel_rfl) rfl ?_
 refine AllT.cons rfl ?_ ?_
 refine TL.store1 (i := 2) (H' := [blkA b60 (wcell (at', padS bs)) 135, blkA b7 (wcell (at', padS bs)) 135, blkA d [(.map (some m)), v61, (.bool (ar)), (.int .i64 (lf - 1)), (.bool (dn))] 115, own v61 ((ws ++ [(at', padS bs)]).length) (wflat (ws ++ [(at', padS bs)])) 135 65]) (Want.plain rfl) rfl rfl rfl rfl ov61 sz113 rfl rfl (lb rfl) rfl rfl ?_
 refine TL.nil ?_
 refine TE.draw (fun _ s => ⟨Frm.of s, s.block 1 (lb rfl) rfl, trivial⟩) ?_
 refine TD.done (by kernel_rfl) ?_
 refine TE.next J19 ?_
 clear J19
 refine sr fun _ J20 => ?_
 refine sg' ?_
 refine nx J20 ?_
 clear J20
 refine TC.ret ?_
 refine TE.weak (Sub.refl _) (fun _ s => sep_keep [2, 2] rfl s) ?_
 refine TE.ret1 rfl rfl ?_
 show (if _ then _ else _)
 first
   | (rw [if_pos (by omega)]; exact ⟨rfl, rfl⟩)
   | (rw [if_neg (by omega), if_pos (by simp_all)]; exact ⟨rfl, by simp_all <;> rfl⟩)
   | (rw [if_neg (by omega), if_neg (by simp_all)]; exact ⟨rfl, v61, by simp_all <;> rfl⟩)
 exact AllT.nil
 exact AllT.nil
 exact AllT.nil
 refine AllT.cons rfl ?_ ?_
 refine TL.buildSlice (cells := (wcell (at', padS bs)).toArray) (Want.plain rfl) rfl rfl rfl Tryz.underlying113 in135 rfl rfl rfl (fill_at (wcell_len (padS_len (by omega))) (by simp)) (fun b60 => ?_)
 change TL _ _ _ _ _ _ _ _ _ [blkA b60 (wcell (at', padS bs)) 135, blkA b7 (wcell (at', padS bs)) 135, blkA d [(.map (some m)), wv, (.bool (ar)), (.int .i64 (lf - 1)), (.bool (dn))] 115, own wv (ws.length) (wflat ws) 135 65]
 refine TL.nil ?_
 refine TE.draw (fun _ s => ⟨Frm.of s, s.block 1 (lb rfl) rfl, trivial⟩) ?_
 refine TD.all [4] (by kernel_rfl) rfl ?_
 refine AllT.cons rfl ?_ ?_
 refine tp (PV.load1 (v := wv) rfl Tryz.underlying113 rfl rfl (Rd.own 2 rfl rfl) rfl) ?_
 refine TL.nil ?_
 refine TE.draw (fun _ s => ⟨Frm.of s, s.block 1 (lb rfl) rfl, trivial⟩) ?_
 refine TD.all [7] (by kernel_rfl) rfl ?_
 refine AllT.cons rfl ?_ ?_
 refine TL.append (k := 3) (news := wcell (at', padS bs)) (nn' := (ws ++ [(at', padS bs)]).length) (xs' := wflat (ws ++ [(at', padS bs)])) (Want.plain rfl) rfl rfl rfl Tryz.underlying113 in135 rfl rfl rfl rfl rfl rfl (fun _ _ => Src.rd (wcell_len (padS_len (by omega))) (Rd.own 0 rfl rfl) (by rw [List.drop_zero, List.take_of_length_le (Nat.le_refl _)])) (wcell_one _) (by simp only [maxLen]; omega) (by omega) (by simp) (by simp [wflat]) (fun v61 ov61 => ?_)
 change TL _ _ _ _ _ _ _ _ _ [blkA b60 (wcell (at', padS bs)) 135, blkA b7 (wcell (at', padS bs)) 135, blkA d [(.map (some m)), wv, (.bool (ar)), (.int .i64 (lf - 1)), (.bool (dn))] 115, own v61 ((ws ++ [(at', padS bs)]).length) (wflat (ws ++ [(at', padS bs)])) 135 65]
 refine TL.nil ?_
 refine TE.draw (fun _ s => ⟨Frm.of s, s.block 1 (lb rfl) rfl, trivial⟩) ?_
 refine ta 8 rfl (PV.nilCheck rfl rfl) ?_
 refine ta 9 rfl (PV.fieldAddr (r := 1) rfl Tryz.underlying115 rfl sz113 rfl rfl) ?_
 refine TD.all [10] (by kernel_rfl) rfl ?_
 refine AllT.cons rfl ?_ ?_
 refine TL.store1 (i := 2) (H' := [blkA b60 (wcell (at', padS bs)) 135, blkA b7 (wcell (at', padS bs)) 135, blkA d [(.map (some m)), v61, (.bool (ar)), (.int .i64 (lf - 1)), (.bool (dn))] 115, own v61 ((ws ++ [(at', padS bs)]).length) (wflat (ws ++ [(at', padS bs)])) 135 65]) (Want.plain rfl) rfl rfl rfl rfl ov61 sz113 rfl rfl (lb rfl) rfl rfl ?_
 refine TL.nil ?_
 refine TE.draw (fun _ s => ⟨Frm.of s, s.block 1 (lb rfl) rfl, trivial⟩) ?_
 refine TD.done (by kernel_rfl) ?_
 refine TE.next J19 ?_
 clear J19
 refine sr fun _ J21 => ?_
 refine sg' ?_
 refine nx J21 ?_
 clear J21
 refine TC.ret ?_
 refine TE.weak (Sub.refl _) (fun _ s => sep_keep [2, 2] rfl s) ?_
 refine TE.ret1 rfl rfl ?_
 show (if _ then _ else _)
 first
   | (rw [if_pos (by omega)]; exact ⟨rfl, rfl⟩)
   | (rw [if_neg (by omega), if_pos (by simp_all)]; exact ⟨rfl, by simp_all <;> rfl⟩)
   | (rw [if_neg (by omega), if_neg (by simp_all)]; exact ⟨rfl, v61, by simp_all <;> rfl⟩)
 exact AllT.nil
 exact AllT.nil
 exact AllT.nil
 exact AllT.nil
 refine nx J16 ?_
 clear J16
 refine TC.no rfl ?_
 refine TC.skip ?_
 refine TE.next J15 ?_
 clear J15
 refine sr fun _ J22 => ?_
 refine mv ?_
 refine tp (PV.build (cells := #[(.int .i64 (at')), (.int .u8 0), (.int .u8 0), (.int .u8 0), (.int .u8 0), (.int .u8 0), (.int .u8 0), (.int .u8 0), (.int .u8 0), (.int .u8 0), (.int .u8 0), (.int .u8 0), (.int .u8 0), (.int .u8 0), (.int .u8 0), (.int .u8 0), (.int .u8 0), (.int .u8 0), (.int .u8 0), (.int .u8 0), (.int .u8 0), (.int .u8 0), (.int .u8 0), (.int .u8 0), (.int .u8 0), (.int .u8 0), (.int .u8 0), (.int .u8 0), (.int .u8 0), (.int .u8 0), (.int .u8 0), (.int .u8 0), (.int .u8 0), (.int .u8 0), (.int .u8 0), (.int .u8 0), (.int .u8 0), (.int .u8 0), (.int .u8 0), (.int .u8 0), (.int .u8 0), (.int .u8 0), (.int .u8 0), (.int .u8 0), (.int .u8 0), (.int .u8 0), (.int .u8 0), (.int .u8 0), (.int .u8 0), (.int .u8 0), (.int .u8 0), (.int .u8 0), (.int .u8 0), (.int .u8 0), (.int .u8 0), (.int .u8 0), (.int .u8 0), (.int .u8 0), (.int .u8 0), (.int .u8 0), (.int .u8 0), (.int .u8 0), (.int .u8 0), (.int .u8 0), (.int .u8 0)]) rfl rfl (by as_aux_lemma => kernel_rfl)) ?_
 refine TL.alloc (Want.plain rfl) rfl rfl rfl z135 (fun b7 => ?_)
 change TL _ _ _ _ _ _ _ _ _ [blkA b7 [(.int .i64 0), (.int .u8 0), (.int .u8 0), (.int .u8 0), (.int .u8 0), (.int .u8 0), (.int .u8 0), (.int .u8 0), (.int .u8 0), (.int .u8 0), (.int .u8 0), (.int .u8 0), (.int .u8 0), (.int .u8 0), (.int .u8 0), (.int .u8 0), (.int .u8 0), (.int .u8 0), (.int .u8 0), (.int .u8 0), (.int .u8 0), (.int .u8 0), (.int .u8 0), (.int .u8 0), (.int .u8 0), (.int .u8 0), (.int .u8 0), (.int .u8 0), (.int .u8 0), (.int .u8 0), (.int .u8 0), (.int .u8 0), (.int .u8 0), (.int .u8 0), (.int .u8 0), (.int .u8 0), (.int .u8 0), (.int .u8 0), (.int .u8 0), (.int .u8 0), (.int .u8 0), (.int .u8 0), (.int .u8 0), (.int .u8 0), (.int .u8 0), (.int .u8 0), (.int .u8 0), (.int .u8 0), (.int .u8 0), (.int .u8 0), (.int .u8 0), (.int .u8 0), (.int .u8 0), (.int .u8 0), (.int .u8 0), (.int .u8 0), (.int .u8 0), (.int .u8 0), (.int .u8 0), (.int .u8 0), (.int .u8 0), (.int .u8 0), (.int .u8 0), (.int .u8 0), (.int .u8 0)] 135, blkA d [(.map (some m)), wv, (.bool (ar)), (.int .i64 (lf)), (.bool (dn))] 115, own wv (ws.length) (wflat ws) 135 65]
 refine TL.store (vs := [(.int .i64 (at')), (.int .u8 0), (.int .u8 0), (.int .u8 0), (.int .u8 0), (.int .u8 0), (.int .u8 0), (.int .u8 0), (.int .u8 0), (.int .u8 0), (.int .u8 0), (.int .u8 0), (.int .u8 0), (.int .u8 0), (.int .u8 0), (.int .u8 0), (.int .u8 0), (.int .u8 0), (.int .u8 0), (.int .u8 0), (.int .u8 0), (.int .u8 0), (.int .u8 0), (.int .u8 0), (.int .u8 0), (.int .u8 0), (.int .u8 0), (.int .u8 0), (.int .u8 0), (.int .u8 0), (.int .u8 0), (.int .u8 0), (.int .u8 0), (.int .u8 0), (.int .u8 0), (.int .u8 0), (.int .u8 0), (.int .u8 0), (.int .u8 0), (.int .u8 0), (.int .u8 0), (.int .u8 0), (.int .u8 0), (.int .u8 0), (.int .u8 0), (.int .u8 0), (.int .u8 0), (.int .u8 0), (.int .u8 0), (.int .u8 0), (.int .u8 0), (.int .u8 0), (.int .u8 0), (.int .u8 0), (.int .u8 0), (.int .u8 0), (.int .u8 0), (.int .u8 0), (.int .u8 0), (.int .u8 0), (.int .u8 0), (.int .u8 0), (.int .u8 0), (.int .u8 0), (.int .u8 0)]) (i := 0) (H' := [blkA b7 [(.int .i64 (at')), (.int .u8 0), (.int .u8 0), (.int .u8 0), (.int .u8 0), (.int .u8 0), (.int .u8 0), (.int .u8 0), (.int .u8 0), (.int .u8 0), (.int .u8 0), (.int .u8 0), (.int .u8 0), (.int .u8 0), (.int .u8 0), (.int .u8 0), (.int .u8 0), (.int .u8 0), (.int .u8 0), (.int .u8 0), (.int .u8 0), (.int .u8 0), (.int .u8 0), (.int .u8 0), (.int .u8 0), (.int .u8 0), (.int .u8 0), (.int .u8 0), (.int .u8 0), (.int .u8 0), (.int .u8 0), (.int .u8 0), (.int .u8 0), (.int .u8 0), (.int .u8 0), (.int .u8 0), (.int .u8 0), (.int .u8 0), (.int .u8 0), (.int .u8 0), (.int .u8 0), (.int .u8 0), (.int .u8 0), (.int .u8 0), (.int .u8 0), (.int .u8 0), (.int .u8 0), (.int .u8 0), (.int .u8 0), (.int .u8 0), (.int .u8 0), (.int .u8 0), (.int .u8 0), (.int .u8 0), (.int .u8 0), (.int .u8 0), (.int .u8 0), (.int .u8 0), (.int .u8 0), (.int .u8 0), (.int .u8 0), (.int .u8 0), (.int .u8 0), (.int .u8 0), (.int .u8 0)] 135, blkA d [(.map (some m)), wv, (.bool (ar)), (.int .i64 (lf)), (.bool (dn))] 115, own wv (ws.length) (wflat ws) 135 65]) (Want.plain rfl) rfl rfl rfl rfl rfl sz135 (by simp [Value.oneCell']) rfl rfl (lbe rfl) rfl rfl ?_
 refine nx J22 ?_
 clear J22
 refine sr fun _ J23 => ?_
 refine tp (PV.fieldAddr (r := 1) rfl Tryz.underlying135 rfl sz133 rfl rfl) ?_
 refine tp (PV.sliceArr rfl Tryz.underlying133 sz5 rfl) ?_
 refine mv ?_
 refine TL.copy (i := 0) (m := bs.length) (news := (u8s bs)) (H' := [blkA b7 (wcell (at', padS bs)) 135, blkA d [(.map (some m)), wv, (.bool (ar)), (.int .i64 (lf)), (.bool (dn))] 115, own wv (ws.length) (wflat ws) 135 65]) (Want.plain rfl) rfl rfl rfl Tryz.underlying106 sz5 rfl rfl rfl rfl (fun _ _ => hF.src (fun _ h => Frm.of h)) (u8s_one _) (by show 1 + min bs.length 64 ≤ 65; omega) (wr_pad (by omega)) rfl ?_
 refine nx J23 ?_
 clear J23
 refine TC.seq fun _ J24 => ?_
 refine TC.draw (fun w => Frm F w ∧ w.heap[b7]? = some (.cells (wcell (at', padS bs)).toArray 135 (0, 0)) ∧ True) mixedD rfl (fun _ s => ⟨Frm.of s, s.block 0 (lb rfl) rfl, trivial⟩) ?_
 refine ta 0 rfl (PV.move rfl rfl) ?_
 refine ta 1 rfl (PV.move rfl rfl) ?_
 refine ta 2 rfl (PV.nilCheck rfl rfl) ?_
 refine ta 3 rfl (PV.fieldAddr (r := 1) rfl Tryz.underlying115 rfl sz113 rfl rfl) ?_
 refine ta 5 rfl (PV.loadN (vs := wcell (at', padS bs)) rfl Tryz.underlying135 rfl sz135 rfl (fun _ h => h.2.1) (wcell_len (padS_len (by omega))) (by rw [List.drop_zero, List.take_of_length_le (by rw [(wcell_len (padS_len (by omega)))]; exact Nat.le_refl _)])) ?_
 refine TD.all [4, 6] (by kernel_rfl) rfl ?_
 refine AllT.cons rfl ?_ ?_
 refine tp (PV.load1 (v := wv) rfl Tryz.underlying113 rfl rfl (Rd.own 1 rfl rfl) rfl) ?_
 refine TL.nil ?_
 refine TE.draw (fun _ s => ⟨Frm.of s, s.block 0 (lb rfl) rfl, trivial⟩) ?_
 refine TD.all [6] (by kernel_rfl) rfl ?_
 refine AllT.cons rfl ?_ ?_
 refine TL.buildSlice (cells := (wcell (at', padS bs)).toArray) (Want.plain rfl) rfl rfl rfl Tryz.underlying113 in135 rfl rfl rfl (fill_at (wcell_len (padS_len (by omega))) (by simp)) (fun b60 => ?_)
 change TL _ _ _ _ _ _ _ _ _ [blkA b60 (wcell (at', padS bs)) 135, blkA b7 (wcell (at', padS bs)) 135, blkA d [(.map (some m)), wv, (.bool (ar)), (.int .i64 (lf)), (.bool (dn))] 115, own wv (ws.length) (wflat ws) 135 65]
 refine TL.nil ?_
 refine TE.draw (fun _ s => ⟨Frm.of s, s.block 1 (lb rfl) rfl, trivial⟩) ?_
 refine TD.all [7] (by kernel_rfl) rfl ?_
 refine AllT.cons rfl ?_ ?_
 refine TL.append (k := 3) (news := wcell (at', padS bs)) (nn' := (ws ++ [(at', padS bs)]).length) (xs' := wflat (ws ++ [(at', padS bs)])) (Want.plain rfl) rfl rfl rfl Tryz.underlying113 in135 rfl rfl rfl rfl rfl rfl (fun _ _ => Src.rd (wcell_len (padS_len (by omega))) (Rd.own 0 rfl rfl) (by rw [List.drop_zero, List.take_of_length_le (Nat.le_refl _)])) (wcell_one _) (by simp only [maxLen]; omega) (by omega) (by simp) (by simp [wflat]) (fun v61 ov61 => ?_)
 change TL _ _ _ _ _ _ _ _ _ [blkA b60 (wcell (at', padS bs)) 135, blkA b7 (wcell (at', padS bs)) 135, blkA d [(.map (some m)), wv, (.bool (ar)), (.int .i64 (lf)), (.bool (dn))] 115, own v61 ((ws ++ [(at', padS bs)]).length) (wflat (ws ++ [(at', padS bs)])) 135 65]
 refine TL.nil ?_
 refine TE.draw (fun _ s => ⟨Frm.of s, s.block 1 (lb rfl) rfl, trivial⟩) ?_
 refine ta 8 rfl (PV.nilCheck rfl rfl) ?_
 refine ta 9 rfl (PV.fieldAddr (r := 1) rfl Tryz.underlying115 rfl sz113 rfl rfl) ?_
 refine TD.all [10] (by kernel_rfl) rfl ?_
 refine AllT.cons rfl ?_ ?_
 refine TL.store1 (i := 2) (H' := [blkA b60 (wcell (at', padS bs)) 135, blkA b7 (wcell (at', padS bs)) 135, blkA d [(.map (some m)), v61, (.bool (ar)), (.int .i64 (lf)), (.bool (dn))] 115, own v61 ((ws ++ [(at', padS bs)]).length) (wflat (ws ++ [(at', padS bs)])) 135 65]) (Want.plain rfl) rfl rfl rfl rfl ov61 sz113 rfl rfl (lb rfl) rfl rfl ?_
 refine TL.nil ?_
 refine TE.draw (fun _ s => ⟨Frm.of s, s.block 1 (lb rfl) rfl, trivial⟩) ?_
 refine TD.done (by kernel_rfl) ?_
 refine TE.next J24 ?_
 clear J24
 refine sr fun _ J25 => ?_
 refine sg' ?_
 refine nx J25 ?_
 clear J25
 refine TC.ret ?_
 refine TE.weak (Sub.refl _) (fun _ s => sep_keep [2, 2] rfl s) ?_
 refine TE.ret1 rfl rfl ?_
 show (if _ then _ else _)
 first
   | (rw [if_pos (by omega)]; exact ⟨rfl, rfl⟩)
   | (rw [if_neg (by omega), if_pos (by simp_all)]; exact ⟨rfl, by simp_all <;> rfl⟩)
   | (rw [if_neg (by omega), if_neg (by simp_all)]; exact ⟨rfl, v61, by simp_all <;> rfl⟩)
 exact AllT.nil
 exact AllT.nil
 exact AllT.nil
 refine AllT.cons rfl ?_ ?_
 refine TL.buildSlice (cells := (wcell (at', padS bs)).toArray) (Want.plain rfl) rfl rfl rfl Tryz.underlying113 in135 rfl rfl rfl (fill_at (wcell_len (padS_len (by omega))) (by simp)) (fun b60 => ?_)
 change TL _ _ _ _ _ _ _ _ _ [blkA b60 (wcell (at', padS bs)) 135, blkA b7 (wcell (at', padS bs)) 135, blkA d [(.map (some m)), wv, (.bool (ar)), (.int .i64 (lf)), (.bool (dn))] 115, own wv (ws.length) (wflat ws) 135 65]
 refine TL.nil ?_
 refine TE.draw (fun _ s => ⟨Frm.of s, s.block 1 (lb rfl) rfl, trivial⟩) ?_
 refine TD.all [4] (by kernel_rfl) rfl ?_
 refine AllT.cons rfl ?_ ?_
 refine tp (PV.load1 (v := wv) rfl Tryz.underlying113 rfl rfl (Rd.own 2 rfl rfl) rfl) ?_
 refine TL.nil ?_
 refine TE.draw (fun _ s => ⟨Frm.of s, s.block 1 (lb rfl) rfl, trivial⟩) ?_
 refine TD.all [7] (by kernel_rfl) rfl ?_
 refine AllT.cons rfl ?_ ?_
 refine TL.append (k := 3) (news := wcell (at', padS bs)) (nn' := (ws ++ [(at', padS bs)]).length) (xs' := wflat (ws ++ [(at', padS bs)])) (Want.plain rfl) rfl rfl rfl Tryz.underlying113 in135 rfl rfl rfl rfl rfl rfl (fun _ _ => Src.rd (wcell_len (padS_len (by omega))) (Rd.own 0 rfl rfl) (by rw [List.drop_zero, List.take_of_length_le (Nat.le_refl _)])) (wcell_one _) (by simp only [maxLen]; omega) (by omega) (by simp) (by simp [wflat]) (fun v61 ov61 => ?_)
 change TL _ _ _ _ _ _ _ _ _ [blkA b60 (wcell (at', padS bs)) 135, blkA b7 (wcell (at', padS bs)) 135, blkA d [(.map (some m)), wv, (.bool (ar)), (.int .i64 (lf)), (.bool (dn))] 115, own v61 ((ws ++ [(at', padS bs)]).length) (wflat (ws ++ [(at', padS bs)])) 135 65]
 refine TL.nil ?_
 refine TE.draw (fun _ s => ⟨Frm.of s, s.block 1 (lb rfl) rfl, trivial⟩) ?_
 refine ta 8 rfl (PV.nilCheck rfl rfl) ?_
 refine ta 9 rfl (PV.fieldAddr (r := 1) rfl Tryz.underlying115 rfl sz113 rfl rfl) ?_
 refine TD.all [10] (by kernel_rfl) rfl ?_
 refine AllT.cons rfl ?_ ?_
 refine TL.store1 (i := 2) (H' := [blkA b60 (wcell (at', padS bs)) 135, blkA b7 (wcell (at', padS bs)) 135, blkA d [(.map (some m)), v61, (.bool (ar)), (.int .i64 (lf)), (.bool (dn))] 115, own v61 ((ws ++ [(at', padS bs)]).length) (wflat (ws ++ [(at', padS bs)])) 135 65]) (Want.plain rfl) rfl rfl rfl rfl ov61 sz113 rfl rfl (lb rfl) rfl rfl ?_
 refine TL.nil ?_
 refine TE.draw (fun _ s => ⟨Frm.of s, s.block 1 (lb rfl) rfl, trivial⟩) ?_
 refine TD.done (by kernel_rfl) ?_
 refine TE.next J24 ?_
 clear J24
 refine sr fun _ J26 => ?_
 refine sg' ?_
 refine nx J26 ?_
 clear J26
 refine TC.ret ?_
 refine TE.weak (Sub.refl _) (fun _ s => sep_keep [2, 2] rfl s) ?_
 refine TE.ret1 rfl rfl ?_
 show (if _ then _ else _)
 first
   | (rw [if_pos (by omega)]; exact ⟨rfl, rfl⟩)
   | (rw [if_neg (by omega), if_pos (by simp_all)]; exact ⟨rfl, by simp_all <;> rfl⟩)
   | (rw [if_neg (by omega), if_neg (by simp_all)]; exact ⟨rfl, v61, by simp_all <;> rfl⟩)
 exact AllT.nil
 exact AllT.nil
 exact AllT.nil
 exact AllT.nil
 refine mv ?_
 refine TL.unmet (b := false) rfl rfl rfl rfl (lb rfl) ?_
 refine TL.unmet (b := false) rfl rfl rfl rfl (lb rfl) ?_
 refine TL.unmet (b := false) rfl rfl rfl rfl (lb rfl) ?_
 refine TL.unmet (b := false) rfl rfl rfl rfl (lb rfl) ?_
 refine TL.unmet (b := false) rfl rfl rfl rfl (lb rfl) ?_
 refine tp (PV.pick rfl rfl rfl) ?_
 refine nx J8 ?_
 clear J8
 refine TC.no rfl ?_
 refine TC.skip ?_
 refine TE.next J7 ?_
 clear J7
 refine TC.seq fun _ J27 => ?_
 refine sr fun _ J28 => ?_
 refine mv ?_
 refine tp (PV.nilCheck rfl rfl) ?_
 refine tp (PV.fieldAddr (r := 4) rfl Tryz.underlying115 rfl sz4 rfl rfl) ?_
 refine tp (PV.load1 (v := (.bool (dn))) rfl Tryz.underlying4 rfl rfl (Rd.own 0 rfl rfl) rfl) ?_
 refine TL.decB (fun h36 => ?_) (fun h36 => ?_)
 refine nx J28 ?_
 clear J28
 refine TC.yes rfl ?_
 refine sr fun _ J29 => ?_
 refine sg' ?_
 refine nx J29 ?_
 clear J29
 refine TC.ret ?_
 refine TE.passRet ?_
 clear J27
 refine TE.weak (Sub.refl _) (fun _ s => sep_keep [0, 0] rfl s) ?_
 refine TE.ret1 rfl rfl ?_
 show (if _ then _ else _)
 first
   | (rw [if_pos (by omega)]; exact ⟨rfl, rfl⟩)
   | (rw [if_neg (by omega), if_pos (by simp_all)]; exact ⟨rfl, by simp_all <;> rfl⟩)
   | (rw [if_neg (by omega), if_neg (by simp_all)]; exact ⟨rfl, v61, by simp_all <;> rfl⟩)
 refine nx J28 ?_
 clear J28
 refine TC.no rfl ?_
 refine TC.skip ?_
 refine TE.next J27 ?_
 clear J27
 refine TC.seq fun _ J30 => ?_
 refine sr fun _ J31 => ?_
 refine mv ?_
 refine tp (PV.nilCheck rfl rfl) ?_
 refine tp (PV.fieldAddr (r := 2) rfl Tryz.underlying115 rfl sz4 rfl rfl) ?_
 refine tp (PV.load1 (v := (.bool (ar))) rfl Tryz.underlying4 rfl rfl (Rd.own 0 rfl rfl) rfl) ?_
 refine TL.decB (fun h40 => ?_) (fun h40 => ?_)
 refine nx J31 ?_
 clear J31
 refine TC.yes rfl ?_
 refine TC.region ?_
 refine mv ?_
 refine tp (PV.nilCheck rfl rfl) ?_
 refine tp (PV.fieldAddr (r := 3) rfl Tryz.underlying115 rfl sz3 rfl rfl) ?_
 refine tp (PV.load1 (v := (.int .i64 (lf))) rfl Tryz.underlying3 rfl rfl (Rd.own 0 rfl rfl) rfl) ?_
 refine tp (PV.sub rfl rfl rfl (wrap_i64 (by omega) (by omega))) ?_
 refine tp (PV.nilCheck rfl rfl) ?_
 refine tp (PV.fieldAddr (r := 3) rfl Tryz.underlying115 rfl sz3 rfl rfl) ?_
 refine TL.store1 (i := 0) (H' := [blkA d [(.map (some m)), wv, (.bool (ar)), (.int .i64 (lf - 1)), (.bool (dn))] 115, own wv (ws.length) (wflat ws) 135 65]) (Want.plain rfl) rfl rfl rfl rfl rfl sz3 rfl rfl (lb rfl) rfl rfl ?_
 refine nx J30 ?_
 clear J30
 refine sr fun _ J32 => ?_
 refine mv ?_
 refine tp (PV.build (cells := #[(.int .i64 (at')), (.int .u8 0), (.int .u8 0), (.int .u8 0), (.int .u8 0), (.int .u8 0), (.int .u8 0), (.int .u8 0), (.int .u8 0), (.int .u8 0), (.int .u8 0), (.int .u8 0), (.int .u8 0), (.int .u8 0), (.int .u8 0), (.int .u8 0), (.int .u8 0), (.int .u8 0), (.int .u8 0), (.int .u8 0), (.int .u8 0), (.int .u8 0), (.int .u8 0), (.int .u8 0), (.int .u8 0), (.int .u8 0), (.int .u8 0), (.int .u8 0), (.int .u8 0), (.int .u8 0), (.int .u8 0), (.int .u8 0), (.int .u8 0), (.int .u8 0), (.int .u8 0), (.int .u8 0), (.int .u8 0), (.int .u8 0), (.int .u8 0), (.int .u8 0), (.int .u8 0), (.int .u8 0), (.int .u8 0), (.int .u8 0), (.int .u8 0), (.int .u8 0), (.int .u8 0), (.int .u8 0), (.int .u8 0), (.int .u8 0), (.int .u8 0), (.int .u8 0), (.int .u8 0), (.int .u8 0), (.int .u8 0), (.int .u8 0), (.int .u8 0), (.int .u8 0), (.int .u8 0), (.int .u8 0), (.int .u8 0), (.int .u8 0), (.int .u8 0), (.int .u8 0), (.int .u8 0)]) rfl rfl (by as_aux_lemma => kernel_rfl)) ?_
 refine TL.alloc (Want.plain rfl) rfl rfl rfl z135 (fun b7 => ?_)
 change TL _ _ _ _ _ _ _ _ _ [blkA b7 [(.int .i64 0), (.int .u8 0), (.int .u8 0), (.int .u8 0), (.int .u8 0), (.int .u8 0), (.int .u8 0), (.int .u8 0), (.int .u8 0), (.int .u8 0), (.int .u8 0), (.int .u8 0), (.int .u8 0), (.int .u8 0), (.int .u8 0), (.int .u8 0), (.int .u8 0), (.int .u8 0), (.int .u8 0), (.int .u8 0), (.int .u8 0), (.int .u8 0), (.int .u8 0), (.int .u8 0), (.int .u8 0), (.int .u8 0), (.int .u8 0), (.int .u8 0), (.int .u8 0), (.int .u8 0), (.int .u8 0), (.int .u8 0), (.int .u8 0), (.int .u8 0), (.int .u8 0), (.int .u8 0), (.int .u8 0), (.int .u8 0), (.int .u8 0), (.int .u8 0), (.int .u8 0), (.int .u8 0), (.int .u8 0), (.int .u8 0), (.int .u8 0), (.int .u8 0), (.int .u8 0), (.int .u8 0), (.int .u8 0), (.int .u8 0), (.int .u8 0), (.int .u8 0), (.int .u8 0), (.int .u8 0), (.int .u8 0), (.int .u8 0), (.int .u8 0), (.int .u8 0), (.int .u8 0), (.int .u8 0), (.int .u8 0), (.int .u8 0), (.int .u8 0), (.int .u8 0), (.int .u8 0)] 135, blkA d [(.map (some m)), wv, (.bool (ar)), (.int .i64 (lf - 1)), (.bool (dn))] 115, own wv (ws.length) (wflat ws) 135 65]
 refine TL.store (vs := [(.int .i64 (at')), (.int .u8 0), (.int .u8 0), (.int .u8 0), (.int .u8 0), (.int .u8 0), (.int .u8 0), (.int .u8 0), (.int .u8 0), (.int .u8 0), (.int .u8 0), (.int .u8 0), (.int .u8 0), (.int .u8 0), (.int .u8 0), (.int .u8 0), (.int .u8 0), (.int .u8 0), (.int .u8 0), (.int .u8 0), (.int .u8 0), (.int .u8 0), (.int .u8 0), (.int .u8 0), (.int .u8 0), (.int .u8 0), (.int .u8 0), (.int .u8 0), (.int .u8 0), (.int .u8 0), (.int .u8 0), (.int .u8 0), (.int .u8 0), (.int .u8 0), (.int .u8 0), (.int .u8 0), (.int .u8 0), (.int .u8 0), (.int .u8 0), (.int .u8 0), (.int .u8 0), (.int .u8 0), (.int .u8 0), (.int .u8 0), (.int .u8 0), (.int .u8 0), (.int .u8 0), (.int .u8 0), (.int .u8 0), (.int .u8 0), (.int .u8 0), (.int .u8 0), (.int .u8 0), (.int .u8 0), (.int .u8 0), (.int .u8 0), (.int .u8 0), (.int .u8 0), (.int .u8 0), (.int .u8 0), (.int .u8 0), (.int .u8 0), (.int .u8 0), (.int .u8 0), (.int .u8 0)]) (i := 0) (H' := [blkA b7 [(.int .i64 (at')), (.int .u8 0), (.int .u8 0), (.int .u8 0), (.int .u8 0), (.int .u8 0), (.int .u8 0), (.int .u8 0), (.int .u8 0), (.int .u8 0), (.int .u8 0), (.int .u8 0), (.int .u8 0), (.int .u8 0), (.int .u8 0), (.int .u8 0), (.int .u8 0), (.int .u8 0), (.int .u8 0), (.int .u8 0), (.int .u8 0), (.int .u8 0), (.int .u8 0), (.int .u8 0), (.int .u8 0), (.int .u8 0), (.int .u8 0), (.int .u8 0), (.int .u8 0), (.int .u8 0), (.int .u8 0), (.int .u8 0), (.int .u8 0), (.int .u8 0), (.int .u8 0), (.int .u8 0), (.int .u8 0), (.int .u8 0), (.int .u8 0), (.int .u8 0), (.int .u8 0), (.int .u8 0), (.int .u8 0), (.int .u8 0), (.int .u8 0), (.int .u8 0), (.int .u8 0), (.int .u8 0), (.int .u8 0), (.int .u8 0), (.int .u8 0), (.int .u8 0), (.int .u8 0), (.int .u8 0), (.int .u8 0), (.int .u8 0), (.int .u8 0), (.int .u8 0), (.int .u8 0), (.int .u8 0), (.int .u8 0), (.int .u8 0), (.int .u8 0), (.int .u8 0), (.int .u8 0)] 135, blkA d [(.map (some m)), wv, (.bool (ar)), (.int .i64 (lf - 1)), (.bool (dn))] 115, own wv (ws.length) (wflat ws) 135 65]) (Want.plain rfl) rfl rfl rfl rfl rfl sz135 (by simp [Value.oneCell']) rfl rfl (lbe rfl) rfl rfl ?_
 refine nx J32 ?_
 clear J32
 refine sr fun _ J33 => ?_
 refine tp (PV.fieldAddr (r := 1) rfl Tryz.underlying135 rfl sz133 rfl rfl) ?_
 refine tp (PV.sliceArr rfl Tryz.underlying133 sz5 rfl) ?_
 refine mv ?_
 refine TL.copy (i := 0) (m := bs.length) (news := (u8s bs)) (H' := [blkA b7 (wcell (at', padS bs)) 135, blkA d [(.map (some m)), wv, (.bool (ar)), (.int .i64 (lf - 1)), (.bool (dn))] 115, own wv (ws.length) (wflat ws) 135 65]) (Want.plain rfl) rfl rfl rfl Tryz.underlying106 sz5 rfl rfl rfl rfl (fun _ _ => hF.src (fun _ h => Frm.of h)) (u8s_one _) (by show 1 + min bs.length 64 ≤ 65; omega) (wr_pad (by omega)) rfl ?_
 refine nx J33 ?_
 clear J33
 refine TC.seq fun _ J34 => ?_
 refine TC.draw (fun w => Frm F w ∧ w.heap[b7]? = some (.cells (wcell (at', padS bs)).toArray 135 (0, 0)) ∧ True) mixedD rfl (fun _ s => ⟨Frm.of s, s.block 0 (lb rfl) rfl, trivial⟩) ?_
 refine ta 0 rfl (PV.move rfl rfl) ?_
 refine ta 1 rfl (PV.move rfl rfl) ?_
 refine ta 2 rfl (PV.nilCheck rfl rfl) ?_
 refine ta 3 rfl (PV.fieldAddr (r := 1) rfl Tryz.underlying115 rfl sz113 rfl rfl) ?_
 refine ta 5 rfl (PV.loadN (vs := wcell (at', padS bs)) rfl Tryz.underlying135 rfl sz135 rfl (fun _ h => h.2.1) (wcell_len (padS_len (by omega))) (by rw [List.drop_zero, List.take_of_length_le (by rw [(wcell_len (padS_len (by omega)))]; exact Nat.le_refl _)])) ?_
 refine TD.all [4, 6] (by kernel_rfl) rfl ?_
 refine AllT.cons rfl ?_ ?_
 refine tp (PV.load1 (v := wv) rfl Tryz.underlying113 rfl rfl (Rd.own 1 rfl rfl) rfl) ?_
 refine TL.nil ?_
 refine TE.draw (fun _ s => ⟨Frm.of s, s.block 0 (lb rfl) rfl, trivial⟩) ?_
 refine TD.all [6] (by kernel_rfl) rfl ?_
 refine AllT.cons rfl ?_ ?_
 refine TL.buildSlice (cells := (wcell (at', padS bs)).toArray) (Want.plain rfl) rfl rfl rfl Tryz.underlying113 in135 rfl rfl rfl (fill_at (wcell_len (padS_len (by omega))) (by simp)) (fun b60 => ?_)
 change TL _ _ _ _ _ _ _ _ _ [blkA b60 (wcell (at', padS bs)) 135, blkA b7 (wcell (at', padS bs)) 135, blkA d [(.map (some m)), wv, (.bool (ar)), (.int .i64 (lf - 1)), (.bool (dn))] 115, own wv (ws.length) (wflat ws) 135 65]
 refine TL.nil ?_
 refine TE.draw (fun _ s => ⟨Frm.of s, s.block 1 (lb rfl) rfl, trivial⟩) ?_
 refine TD.all [7] (by kernel_rfl) rfl ?_
 refine AllT.cons rfl ?_ ?_
 refine TL.append (k := 3) (news := wcell (at', padS bs)) (nn' := (ws ++ [(at', padS bs)]).length) (xs' := wflat (ws ++ [(at', padS bs)])) (Want.plain rfl) rfl rfl rfl Tryz.underlying113 in135 rfl rfl rfl rfl rfl rfl (fun _ _ => Src.rd (wcell_len (padS_len (by omega))) (Rd.own 0 rfl rfl) (by rw [List.drop_zero, List.take_of_length_le (Nat.le_refl _)])) (wcell_one _) (by simp only [maxLen]; omega) (by omega) (by simp) (by simp [wflat]) (fun v61 ov61 => ?_)
 change TL _ _ _ _ _ _ _ _ _ [blkA b60 (wcell (at', padS bs)) 135, blkA b7 (wcell (at', padS bs)) 135, blkA d [(.map (some m)), wv, (.bool (ar)), (.int .i64 (lf - 1)), (.bool (dn))] 115, own v61 ((ws ++ [(at', padS bs)]).length) (wflat (ws ++ [(at', padS bs)])) 135 65]
 refine TL.nil ?_
 refine TE.draw (fun _ s => ⟨Frm.of s, s.block 1 (lb rfl) rfl, trivial⟩) ?_
 refine ta 8 rfl (PV.nilCheck rfl rfl) ?_
 refine ta 9 rfl (PV.fieldAddr (r := 1) rfl Tryz.underlying115 rfl sz113 rfl rfl) ?_
 refine TD.all [10] (by kernel_rfl) rfl ?_
 refine AllT.cons rfl ?_ ?_
 refine TL.store1 (i := 2) (H' := [blkA b60 (wcell (at', padS bs)) 135, blkA b7 (wcell (at', padS bs)) 135, blkA d [(.map (some m)), v61, (.bool (ar)), (.int .i64 (lf - 1)), (.bool (dn))] 115, own v61 ((ws ++ [(at', padS bs)]).length) (wflat (ws ++ [(at', padS bs)])) 135 65]) (Want.plain rfl) rfl rfl rfl rfl ov61 sz113 rfl rfl (lb rfl) rfl rfl ?_
 refine TL.nil ?_
 refine TE.draw (fun _ s => ⟨Frm.of s, s.block 1 (lb rfl) rfl, trivial⟩) ?_
 refine TD.done (by kernel_rfl) ?_
 refine TE.next J34 ?_
 clear J34
 refine sr fun _ J35 => ?_
 refine sg' ?_
 refine nx J35 ?_
 clear J35
 refine TC.ret ?_
 refine TE.weak (Sub.refl _) (fun _ s => sep_keep [2, 2] rfl s) ?_
 refine TE.ret1 rfl rfl ?_
 show (if _ then _ else _)
 first
   | (rw [if_pos (by omega)]; exact ⟨rfl, rfl⟩)
   | (rw [if_neg (by omega), if_pos (by simp_all)]; exact ⟨rfl, by simp_all <;> rfl⟩)
   | (rw [if_neg (by omega), if_neg (by simp_all)]; exact ⟨rfl, v61, by simp_all <;> rfl⟩)
 exact AllT.nil
 exact AllT.nil
 exact AllT.nil
 refine AllT.cons rfl ?_ ?_
 refine TL.buildSlice (cells := (wcell (at', padS bs)).toArray) (Want.plain rfl) rfl rfl rfl Tryz.underlying113 in135 rfl rfl rfl (fill_at (wcell_len (padS_len (by omega))) (by simp)) (fun b60 => ?_)
 change TL _ _ _ _ _ _ _ _ _ [blkA b60 (wcell (at', padS bs)) 135, blkA b7 (wcell (at', padS bs)) 135, blkA d [(.map (some m)), wv, (.bool (ar)), (.int .i64 (lf - 1)), (.bool (dn))] 115, own wv (ws.length) (wflat ws) 135 65]
 refine TL.nil ?_
 refine TE.draw (fun _ s => ⟨Frm.of s, s.block 1 (lb rfl) rfl, trivial⟩) ?_
 refine TD.all [4] (by kernel_rfl) rfl ?_
 refine AllT.cons rfl ?_ ?_
 refine tp (PV.load1 (v := wv) rfl Tryz.underlying113 rfl rfl (Rd.own 2 rfl rfl) rfl) ?_
 refine TL.nil ?_
 refine TE.draw (fun _ s => ⟨Frm.of s, s.block 1 (lb rfl) rfl, trivial⟩) ?_
 refine TD.all [7] (by kernel_rfl) rfl ?_
 refine AllT.cons rfl ?_ ?_
 refine TL.append (k := 3) (news := wcell (at', padS bs)) (nn' := (ws ++ [(at', padS bs)]).length) (xs' := wflat (ws ++ [(at', padS bs)])) (Want.plain rfl) rfl rfl rfl Tryz.underlying113 in135 rfl rfl rfl rfl rfl rfl (fun _ _ => Src.rd (wcell_len (padS_len (by omega))) (Rd.own 0 rfl rfl) (by rw [List.drop_zero, List.take_of_length_le (Nat.le_refl _)])) (wcell_one _) (by simp only [maxLen]; omega) (by omega) (by simp) (by simp [wflat]) (fun v61 ov61 => ?_)
 change TL _ _ _ _ _ _ _ _ _ [blkA b60 (wcell (at', padS bs)) 135, blkA b7 (wcell (at', padS bs)) 135, blkA d [(.map (some m)), wv, (.bool (ar)), (.int .i64 (lf - 1)), (.bool (dn))] 115, own v61 ((ws ++ [(at', padS bs)]).length) (wflat (ws ++ [(at', padS bs)])) 135 65]
 refine TL.nil ?_
 refine TE.draw (fun _ s => ⟨Frm.of s, s.block 1 (lb rfl) rfl, trivial⟩) ?_
 refine ta 8 rfl (PV.nilCheck rfl rfl) ?_
 refine ta 9 rfl (PV.fieldAddr (r := 1) rfl Tryz.underlying115 rfl sz113 rfl rfl) ?_
 refine TD.all [10] (by kernel_rfl) rfl ?_
 refine AllT.cons rfl ?_ ?_
 refine TL.store1 (i := 2) (H' := [blkA b60 (wcell (at', padS bs)) 135, blkA b7 (wcell (at', padS bs)) 135, blkA d [(.map (some m)), v61, (.bool (ar)), (.int .i64 (lf - 1)), (.bool (dn))] 115, own v61 ((ws ++ [(at', padS bs)]).length) (wflat (ws ++ [(at', padS bs)])) 135 65]) (Want.plain rfl) rfl rfl rfl rfl ov61 sz113 rfl rfl (lb rfl) rfl rfl ?_
 refine TL.nil ?_
 refine TE.draw (fun _ s => ⟨Frm.of s, s.block 1 (lb rfl) rfl, trivial⟩) ?_
 refine TD.done (by kernel_rfl) ?_
 refine TE.next J34 ?_
 clear J34
 refine sr fun _ J36 => ?_
 refine sg' ?_
 refine nx J36 ?_
 clear J36
 refine TC.ret ?_
 refine TE.weak (Sub.refl _) (fun _ s => sep_keep [2, 2] rfl s) ?_
 refine TE.ret1 rfl rfl ?_
 show (if _ then _ else _)
 first
   | (rw [if_pos (by omega)]; exact ⟨rfl, rfl⟩)
   | (rw [if_neg (by omega), if_pos (by simp_all)]; exact ⟨rfl, by simp_all <;> rfl⟩)
   | (rw [if_neg (by omega), if_neg (by simp_all)]; exact ⟨rfl, v61, by simp_all <;> rfl⟩)
 exact AllT.nil
 exact AllT.nil
 exact AllT.nil
 exact AllT.nil
 refine nx J31 ?_
 clear J31
 refine TC.no rfl ?_
 refine TC.skip ?_
 refine TE.next J30 ?_
 clear J30
 refine sr fun _ J37 => ?_
 refine mv ?_
 refine tp (PV.build (cells := #[(.int .i64 (at')), (.int .u8 0), (.int .u8 0), (.int .u8 0), (.int .u8 0), (.int .u8 0), (.int .u8 0), (.int .u8 0), (.int .u8 0), (.int .u8 0), (.int .u8 0), (.int .u8 0), (.int .u8 0), (.int .u8 0), (.int .u8 0), (.int .u8 0), (.int .u8 0), (.int .u8 0), (.int .u8 0), (.int .u8 0), (.int .u8 0), (.int .u8 0), (.int .u8 0), (.int .u8 0), (.int .u8 0), (.int .u8 0), (.int .u8 0), (.int .u8 0), (.int .u8 0), (.int .u8 0), (.int .u8 0), (.int .u8 0), (.int .u8 0), (.int .u8 0), (.int .u8 0), (.int .u8 0), (.int .u8 0), (.int .u8 0), (.int .u8 0), (.int .u8 0), (.int .u8 0), (.int .u8 0), (.int .u8 0), (.int .u8 0), (.int .u8 0), (.int .u8 0), (.int .u8 0), (.int .u8 0), (.int .u8 0), (.int .u8 0), (.int .u8 0), (.int .u8 0), (.int .u8 0), (.int .u8 0), (.int .u8 0), (.int .u8 0), (.int .u8 0), (.int .u8 0), (.int .u8 0), (.int .u8 0), (.int .u8 0), (.int .u8 0), (.int .u8 0), (.int .u8 0), (.int .u8 0)]) rfl rfl (by as_aux_lemma => kernel_rfl)) ?_
 refine TL.alloc (Want.plain rfl) rfl rfl rfl z135 (fun b7 => ?_)
 change TL _ _ _ _ _ _ _ _ _ [blkA b7 [(.int .i64 0), (.int .u8 0), (.int .u8 0), (.int .u8 0), (.int .u8 0), (.int .u8 0), (.int .u8 0), (.int .u8 0), (.int .u8 0), (.int .u8 0), (.int .u8 0), (.int .u8 0), (.int .u8 0), (.int .u8 0), (.int .u8 0), (.int .u8 0), (.int .u8 0), (.int .u8 0), (.int .u8 0), (.int .u8 0), (.int .u8 0), (.int .u8 0), (.int .u8 0), (.int .u8 0), (.int .u8 0), (.int .u8 0), (.int .u8 0), (.int .u8 0), (.int .u8 0), (.int .u8 0), (.int .u8 0), (.int .u8 0), (.int .u8 0), (.int .u8 0), (.int .u8 0), (.int .u8 0), (.int .u8 0), (.int .u8 0), (.int .u8 0), (.int .u8 0), (.int .u8 0), (.int .u8 0), (.int .u8 0), (.int .u8 0), (.int .u8 0), (.int .u8 0), (.int .u8 0), (.int .u8 0), (.int .u8 0), (.int .u8 0), (.int .u8 0), (.int .u8 0), (.int .u8 0), (.int .u8 0), (.int .u8 0), (.int .u8 0), (.int .u8 0), (.int .u8 0), (.int .u8 0), (.int .u8 0), (.int .u8 0), (.int .u8 0), (.int .u8 0), (.int .u8 0), (.int .u8 0)] 135, blkA d [(.map (some m)), wv, (.bool (ar)), (.int .i64 (lf)), (.bool (dn))] 115, own wv (ws.length) (wflat ws) 135 65]
 refine TL.store (vs := [(.int .i64 (at')), (.int .u8 0), (.int .u8 0), (.int .u8 0), (.int .u8 0), (.int .u8 0), (.int .u8 0), (.int .u8 0), (.int .u8 0), (.int .u8 0), (.int .u8 0), (.int .u8 0), (.int .u8 0), (.int .u8 0), (.int .u8 0), (.int .u8 0), (.int .u8 0), (.int .u8 0), (.int .u8 0), (.int .u8 0), (.int .u8 0), (.int .u8 0), (.int .u8 0), (.int .u8 0), (.int .u8 0), (.int .u8 0), (.int .u8 0), (.int .u8 0), (.int .u8 0), (.int .u8 0), (.int .u8 0), (.int .u8 0), (.int .u8 0), (.int .u8 0), (.int .u8 0), (.int .u8 0), (.int .u8 0), (.int .u8 0), (.int .u8 0), (.int .u8 0), (.int .u8 0), (.int .u8 0), (.int .u8 0), (.int .u8 0), (.int .u8 0), (.int .u8 0), (.int .u8 0), (.int .u8 0), (.int .u8 0), (.int .u8 0), (.int .u8 0), (.int .u8 0), (.int .u8 0), (.int .u8 0), (.int .u8 0), (.int .u8 0), (.int .u8 0), (.int .u8 0), (.int .u8 0), (.int .u8 0), (.int .u8 0), (.int .u8 0), (.int .u8 0), (.int .u8 0), (.int .u8 0)]) (i := 0) (H' := [blkA b7 [(.int .i64 (at')), (.int .u8 0), (.int .u8 0), (.int .u8 0), (.int .u8 0), (.int .u8 0), (.int .u8 0), (.int .u8 0), (.int .u8 0), (.int .u8 0), (.int .u8 0), (.int .u8 0), (.int .u8 0), (.int .u8 0), (.int .u8 0), (.int .u8 0), (.int .u8 0), (.int .u8 0), (.int .u8 0), (.int .u8 0), (.int .u8 0), (.int .u8 0), (.int .u8 0), (.int .u8 0), (.int .u8 0), (.int .u8 0), (.int .u8 0), (.int .u8 0), (.int .u8 0), (.int .u8 0), (.int .u8 0), (.int .u8 0), (.int .u8 0), (.int .u8 0), (.int .u8 0), (.int .u8 0), (.int .u8 0), (.int .u8 0), (.int .u8 0), (.int .u8 0), (.int .u8 0), (.int .u8 0), (.int .u8 0), (.int .u8 0), (.int .u8 0), (.int .u8 0), (.int .u8 0), (.int .u8 0), (.int .u8 0), (.int .u8 0), (.int .u8 0), (.int .u8 0), (.int .u8 0), (.int .u8 0), (.int .u8 0), (.int .u8 0), (.int .u8 0), (.int .u8 0), (.int .u8 0), (.int .u8 0), (.int .u8 0), (.int .u8 0), (.int .u8 0), (.int .u8 0), (.int .u8 0)] 135, blkA d [(.map (some m)), wv, (.bool (ar)), (.int .i64 (lf)), (.bool (dn))] 115, own wv (ws.length) (wflat ws) 135 65]) (Want.plain rfl) rfl rfl rfl rfl rfl sz135 (by simp [Value.oneCell']) rfl rfl (lbe rfl) rfl rfl ?_
 refine nx J37 ?_
 clear J37
 refine sr fun _ J38 => ?_
 refine tp (PV.fieldAddr (r := 1) rfl Tryz.underlying135 rfl sz133 rfl rfl) ?_
 refine tp (PV.sliceArr rfl Tryz.underlying133 sz5 rfl) ?_
 refine mv ?_
 refine TL.copy (i := 0) (m := bs.length) (news := (u8s bs)) (H' := [blkA b7 (wcell (at', padS bs)) 135, blkA d [(.map (some m)), wv, (.bool (ar)), (.int .i64 (lf)), (.bool (dn))] 115, own wv (ws.length) (wflat ws) 135 65]) (Want.plain rfl) rfl rfl rfl Tryz.underlying106 sz5 rfl rfl rfl rfl (fun _ _ => hF.src (fun _ h => Frm.of h)) (u8s_one _) (by show 1 + min bs.length 64 ≤ 65; omega) (wr_pad (by omega)) rfl ?_
 refine nx J38 ?_
 clear J38
 refine TC.seq fun _ J39 => ?_
 refine TC.draw (fun w => Frm F w ∧ w.heap[b7]? = some (.cells (wcell (at', padS bs)).toArray 135 (0, 0)) ∧ True) mixedD rfl (fun _ s => ⟨Frm.of s, s.block 0 (lb rfl) rfl, trivial⟩) ?_
 refine ta 0 rfl (PV.move rfl rfl) ?_
 refine ta 1 rfl (PV.move rfl rfl) ?_
 refine ta 2 rfl (PV.nilCheck rfl rfl) ?_
 refine ta 3 rfl (PV.fieldAddr (r := 1) rfl Tryz.underlying115 rfl sz113 rfl rfl) ?_
 refine ta 5 rfl (PV.loadN (vs := wcell (at', padS bs)) rfl Tryz.underlying135 rfl sz135 rfl (fun _ h => h.2.1) (wcell_len (padS_len (by omega))) (by rw [List.drop_zero, List.take_of_length_le (by rw [(wcell_len (padS_len (by omega)))]; exact Nat.le_refl _)])) ?_
 refine TD.all [4, 6] (by kernel_rfl) rfl ?_
 refine AllT.cons rfl ?_ ?_
 refine tp (PV.load1 (v := wv) rfl Tryz.underlying113 rfl rfl (Rd.own 1 rfl rfl) rfl) ?_
 refine TL.nil ?_
 refine TE.draw (fun _ s => ⟨Frm.of s, s.block 0 (lb rfl) rfl, trivial⟩) ?_
 refine TD.all [6] (by kernel_rfl) rfl ?_
 refine AllT.cons rfl ?_ ?_
 refine TL.buildSlice (cells := (wcell (at', padS bs)).toArray) (Want.plain rfl) rfl rfl rfl Tryz.underlying113 in135 rfl rfl rfl (fill_at (wcell_len (padS_len (by omega))) (by simp)) (fun b60 => ?_)
 change TL _ _ _ _ _ _ _ _ _ [blkA b60 (wcell (at', padS bs)) 135, blkA b7 (wcell (at', padS bs)) 135, blkA d [(.map (some m)), wv, (.bool (ar)), (.int .i64 (lf)), (.bool (dn))] 115, own wv (ws.length) (wflat ws) 135 65]
 refine TL.nil ?_
 refine TE.draw (fun _ s => ⟨Frm.of s, s.block 1 (lb rfl) rfl, trivial⟩) ?_
 refine TD.all [7] (by kernel_rfl) rfl ?_
 refine AllT.cons rfl ?_ ?_
 refine TL.append (k := 3) (news := wcell (at', padS bs)) (nn' := (ws ++ [(at', padS bs)]).length) (xs' := wflat (ws ++ [(at', padS bs)])) (Want.plain rfl) rfl rfl rfl Tryz.underlying113 in135 rfl rfl rfl rfl rfl rfl (fun _ _ => Src.rd (wcell_len (padS_len (by omega))) (Rd.own 0 rfl rfl) (by rw [List.drop_zero, List.take_of_length_le (Nat.le_refl _)])) (wcell_one _) (by simp only [maxLen]; omega) (by omega) (by simp) (by simp [wflat]) (fun v61 ov61 => ?_)
 change TL _ _ _ _ _ _ _ _ _ [blkA b60 (wcell (at', padS bs)) 135, blkA b7 (wcell (at', padS bs)) 135, blkA d [(.map (some m)), wv, (.bool (ar)), (.int .i64 (lf)), (.bool (dn))] 115, own v61 ((ws ++ [(at', padS bs)]).length) (wflat (ws ++ [(at', padS bs)])) 135 65]
 refine TL.nil ?_
 refine TE.draw (fun _ s => ⟨Frm.of s, s.block 1 (lb rfl) rfl, trivial⟩) ?_
 refine ta 8 rfl (PV.nilCheck rfl rfl) ?_
 refine ta 9 rfl (PV.fieldAddr (r := 1) rfl Tryz.underlying115 rfl sz113 rfl rfl) ?_
 refine TD.all [10] (by kernel_rfl) rfl ?_
 refine AllT.cons rfl ?_ ?_
 refine TL.store1 (i := 2) (H' := [blkA b60 (wcell (at', padS bs)) 135, blkA b7 (wcell (at', padS bs)) 135, blkA d [(.map (some m)), v61, (.bool (ar)), (.int .i64 (lf)), (.bool (dn))] 115, own v61 ((ws ++ [(at', padS bs)]).length) (wflat (ws ++ [(at', padS bs)])) 135 65]) (Want.plain rfl) rfl rfl rfl rfl ov61 sz113 rfl rfl (lb rfl) rfl rfl ?_
 refine TL.nil ?_
 refine TE.draw (fun _ s => ⟨Frm.of s, s.block 1 (lb rfl) rfl, trivial⟩) ?_
 refine TD.done (by kernel_rfl) ?_
 refine TE.next J39 ?_
 clear J39
 refine sr fun _ J40 => ?_
 refine sg' ?_
 refine nx J40 ?_
 clear J40
 refine TC.ret ?_
 refine TE.weak (Sub.refl _) (fun _ s => sep_keep [2, 2] rfl s) ?_
 refine TE.ret1 rfl rfl ?_
 show (if _ then _ else _)
 first
   | (rw [if_pos (by omega)]; exact ⟨rfl, rfl⟩)
   | (rw [if_neg (by omega), if_pos (by simp_all)]; exact ⟨rfl, by simp_all <;> rfl⟩)
   | (rw [if_neg (by omega), if_neg (by simp_all)]; exact ⟨rfl, v61, by simp_all <;> rfl⟩)
 exact AllT.nil
 exact AllT.nil
 exact AllT.nil
 refine AllT.cons rfl ?_ ?_
 refine TL.buildSlice (cells := (wcell (at', padS bs)).toArray) (Want.plain rfl) rfl rfl rfl Tryz.underlying113 in135 rfl rfl rfl (fill_at (wcell_len (padS_len (by omega))) (by simp)) (fun b60 => ?_)
 change TL _ _ _ _ _ _ _ _ _ [blkA b60 (wcell (at', padS bs)) 135, blkA b7 (wcell (at', padS bs)) 135, blkA d [(.map (some m)), wv, (.bool (ar)), (.int .i64 (lf)), (.bool (dn))] 115, own wv (ws.length) (wflat ws) 135 65]
 refine TL.nil ?_
 refine TE.draw (fun _ s => ⟨Frm.of s, s.block 1 (lb rfl) rfl, trivial⟩) ?_
 refine TD.all [4] (by kernel_rfl) rfl ?_
 refine AllT.cons rfl ?_ ?_
 refine tp (PV.load1 (v := wv) rfl Tryz.underlying113 rfl rfl (Rd.own 2 rfl rfl) rfl) ?_
 refine TL.nil ?_
 refine TE.draw (fun _ s => ⟨Frm.of s, s.block 1 (lb rfl) rfl, trivial⟩) ?_
 refine TD.all [7] (by kernel_rfl) rfl ?_
 refine AllT.cons rfl ?_ ?_
 refine TL.append (k := 3) (news := wcell (at', padS bs)) (nn' := (ws ++ [(at', padS bs)]).length) (xs' := wflat (ws ++ [(at', padS bs)])) (Want.plain rfl) rfl rfl rfl Tryz.underlying113 in135 rfl rfl rfl rfl rfl rfl (fun _ _ => Src.rd (wcell_len (padS_len (by omega))) (Rd.own 0 rfl rfl) (by rw [List.drop_zero, List.take_of_length_le (Nat.le_refl _)])) (wcell_one _) (by simp only [maxLen]; omega) (by omega) (by simp) (by simp [wflat]) (fun v61 ov61 => ?_)
 change TL _ _ _ _ _ _ _ _ _ [blkA b60 (wcell (at', padS bs)) 135, blkA b7 (wcell (at', padS bs)) 135, blkA d [(.map (some m)), wv, (.bool (ar)), (.int .i64 (lf)), (.bool (dn))] 115, own v61 ((ws ++ [(at', padS bs)]).length) (wflat (ws ++ [(at', padS bs)])) 135 65]
 refine TL.nil ?_
 refine TE.draw (fun _ s => ⟨Frm.of s, s.block 1 (lb rfl) rfl, trivial⟩) ?_
 refine ta 8 rfl (PV.nilCheck rfl rfl) ?_
 refine ta 9 rfl (PV.fieldAddr (r := 1) rfl Tryz.underlying115 rfl sz113 rfl rfl) ?_
 refine TD.all [10] (by kernel_rfl) rfl ?_
 refine AllT.cons rfl ?_ ?_
 refine TL.store1 (i := 2) (H' := [blkA b60 (wcell (at', padS bs)) 135, blkA b7 (wcell (at', padS bs)) 135, blkA d [(.map (some m)), v61, (.bool (ar)), (.int .i64 (lf)), (.bool (dn))] 115, own v61 ((ws ++ [(at', padS bs)]).length) (wflat (ws ++ [(at', padS bs)])) 135 65]) (Want.plain rfl) rfl rfl rfl rfl ov61 sz113 rfl rfl (lb rfl) rfl rfl ?_
 refine TL.nil ?_
 refine TE.draw (fun _ s => ⟨Frm.of s, s.block 1 (lb rfl) rfl, trivial⟩) ?_
 refine TD.done (by kernel_rfl) ?_
 refine TE.next J39 ?_
 clear J39
 refine sr fun _ J41 => ?_
 refine sg' ?_
 refine nx J41 ?_
 clear J41
 refine TC.ret ?_
 refine TE.weak (Sub.refl _) (fun _ s => sep_keep [2, 2] rfl s) ?_
 refine TE.ret1 rfl rfl ?_
 show (if _ then _ else _)
 first
   | (rw [if_pos (by omega)]; exact ⟨rfl, rfl⟩)
   | (rw [if_neg (by omega), if_pos (by simp_all)]; exact ⟨rfl, by simp_all <;> rfl⟩)
   | (rw [if_neg (by omega), if_neg (by simp_all)]; exact ⟨rfl, v61, by simp_all <;> rfl⟩)
 exact AllT.nil
 exact AllT.nil
 exact AllT.nil
 exact AllT.nil
theorem dr_syncDown_does (d m : Nat) (wv : Value) (ar : Bool) (lf : Int) :
    Does Tryz.prog 71 #[(.pointer (some ⟨d, 0, none⟩))] (fun _ => True) [blkA d [(.map (some m)), wv, (.bool (ar)), (.int .i64 (lf)), (.bool true)] 115] (Ret (fun v H => v = .int .i64 4 ∧ H = [blkA d [(.map (some m)), wv, (.bool (ar)), (.int .i64 (lf)), (.bool true)] 115])) := by
 refine Does.body (vs := [(.pointer (some ⟨d, 0, none⟩))]) (n := 28) Tryz.func71 rfl rfl rfl (fun w0 F hF => ?_)
 refine sr fun _ J1 => ?_
 refine sg' ?_
 refine nx J1 ?_
 refine TC.seq fun _ J2 => ?_
 refine sr fun _ J3 => ?_
 refine mv ?_
 refine tp (PV.nilCheck rfl rfl) ?_
 refine tp (PV.fieldAddr (r := 4) rfl Tryz.underlying115 rfl sz4 rfl rfl) ?_
 refine tp (PV.load1 (v := (.bool true)) rfl Tryz.underlying4 rfl rfl (Rd.own 0 rfl rfl) rfl) ?_
 refine nx J3 ?_
 refine TC.yes rfl ?_
 refine sr fun _ J4 => ?_
 refine sg' ?_
 refine nx J4 ?_
 refine TC.ret ?_
 refine TE.passRet ?_
 refine TE.weak (Sub.refl _) (fun _ s => sep_keep [0] rfl s) ?_
 refine TE.ret1 rfl rfl ?_
 exact ⟨rfl, rfl⟩
theorem dr_syncUp_does (d m : Nat) (wv : Value) (s ws : Secs) (ar : Bool) (lf : Int) (hw : Whole ws) :
    Does Tryz.prog 71 #[(.pointer (some ⟨d, 0, none⟩))] (fun _ => True) [blkA d [(.map (some m)), wv, (.bool (ar)), (.int .i64 (lf)), (.bool false)] 115, mapP m (kvS s), own wv (ws.length) (wflat ws) 135 65] (Ret (fun v H => v = .int .i64 0 ∧ H = [blkA d [(.map (some m)), (.slice none 0 0), (.bool (ar)), (.int .i64 (lf)), (.bool false)] 115, mapP m (kvS (layN s ws ws.length)), own (.slice none 0 0) 0 [] 135 65])) := by
 refine Does.body (vs := [(.pointer (some ⟨d, 0, none⟩))]) (n := 28) Tryz.func71 rfl rfl rfl (fun w0 F hF => ?_)
 refine sr fun _ J1 => ?_
 refine TL.ownLen 2 rfl rfl (fun hwl _ => ?_)
 refine sg' ?_
 refine nx J1 ?_
 refine TC.seq fun _ J2 => ?_
 refine sr fun _ J3 => ?_
 refine mv ?_
 refine tp (PV.nilCheck rfl rfl) ?_
 refine tp (PV.fieldAddr (r := 4) rfl Tryz.underlying115 rfl sz4 rfl rfl) ?_
 refine tp (PV.load1 (v := (.bool false)) rfl Tryz.underlying4 rfl rfl (Rd.own 0 rfl rfl) rfl) ?_
 refine nx J3 ?_
 refine TC.no rfl ?_
 refine TC.skip ?_
 refine TE.next J2 ?_
 refine TC.seq fun _ J4 => ?_
 refine sr fun _ J5 => ?_
 refine mv ?_
 refine tp (PV.nilCheck rfl rfl) ?_
 refine tp (PV.fieldAddr (r := 1) rfl Tryz.underlying115 rfl sz113 rfl rfl) ?_
 refine tp (PV.load1 (v := wv) rfl Tryz.underlying113 rfl rfl (Rd.own 0 rfl rfl) rfl) ?_
 refine tp (PV.lenV rfl Tryz.underlying113 rfl hwl) ?_
 refine mv ?_
 refine nx J5 ?_
 refine TC.block ?_
 refine TC.loop (α := (Nat) × (Secs)) (fun ⟨k, s'⟩ => k ≤ ws.length ∧ s' = layN s ws k) (fun ⟨k, s'⟩ => [(0, (.pointer (some ⟨d, 0, none⟩))), (2, (.int .i64 0)), (12, wv), (13, (.int .i64 (((ws.length : Nat) : Int)))), (14, (.int .i64 (((k : Nat) : Int))))]) (fun ⟨k, s'⟩ => [blkA d [(.map (some m)), wv, (.bool (ar)), (.int .i64 (lf)), (.bool false)] 115, mapP m (kvS s'), own wv (ws.length) (wflat ws) 135 65]) (fun ⟨k, s'⟩ => ws.length - k) (0, s)
     ⟨Nat.zero_le _, rfl⟩ (Sub.r (Sub.r (Sub.r (Sub.r (Sub.cons rfl (by congr 1) (Sub.nil _))))))
     (fun _ s => s) (fun ⟨k, s'⟩ hinv => ?_)
 obtain ⟨hk, hs'⟩ := hinv
 refine sr fun _ J6 => ?_
 refine tp (PV.lss rfl rfl rfl) ?_
 refine TL.dec (fun h15 => ?_) (fun h15 => ?_)
 refine TL.ownAt 2 rfl rfl (by omega) (fun g cap hv hcap => ?_)
 refine nx J6 ?_
 refine TC.seq fun _ J7 => ?_
 refine TC.yes rfl ?_
 refine TC.skip ?_
 refine TE.next J7 ?_
 refine TC.seq fun _ J8 => ?_
 refine TC.block ?_
 refine sr fun _ J9 => ?_
 refine tp (PV.indexSlV (r := k * 65) hv rfl Tryz.underlying113 sz135 rfl rfl (by omega) (by omega) (by omega)) ?_
 refine tp (PV.loadNX (vs := wcell (wat ws k)) rfl Tryz.underlying135 rfl sz135 rfl (RdX.own 2 rfl hv rfl) (wcell_len (wat_len hw (by omega))) (wflat_atN hw (by omega))) ?_
 refine TL.alloc (Want.plain rfl) rfl rfl rfl z135 (fun b4 => ?_)
 change TL _ _ _ _ _ _ _ _ _ [blkA b4 [(.int .i64 0), (.int .u8 0), (.int .u8 0), (.int .u8 0), (.int .u8 0), (.int .u8 0), (.int .u8 0), (.int .u8 0), (.int .u8 0), (.int .u8 0), (.int .u8 0), (.int .u8 0), (.int .u8 0), (.int .u8 0), (.int .u8 0), (.int .u8 0), (.int .u8 0), (.int .u8 0), (.int .u8 0), (.int .u8 0), (.int .u8 0), (.int .u8 0), (.int .u8 0), (.int .u8 0), (.int .u8 0), (.int .u8 0), (.int .u8 0), (.int .u8 0), (.int .u8 0), (.int .u8 0), (.int .u8 0), (.int .u8 0), (.int .u8 0), (.int .u8 0), (.int .u8 0), (.int .u8 0), (.int .u8 0), (.int .u8 0), (.int .u8 0), (.int .u8 0), (.int .u8 0), (.int .u8 0), (.int .u8 0), (.int .u8 0), (.int .u8 0), (.int .u8 0), (.int .u8 0), (.int .u8 0), (.int .u8 0), (.int .u8 0), (.int .u8 0), (.int .u8 0), (.int .u8 0), (.int .u8 0), (.int .u8 0), (.int .u8 0), (.int .u8 0), (.int .u8 0), (.int .u8 0), (.int .u8 0), (.int .u8 0), (.int .u8 0), (.int .u8 0), (.int .u8 0), (.int .u8 0)] 135, blkA d [(.map (some m)), wv, (.bool (ar)), (.int .i64 (lf)), (.bool false)] 115, mapP m (kvS s'), own wv (ws.length) (wflat ws) 135 65]
 refine TL.store (vs := wcell (wat ws k)) (i := 0) (H' := [blkA b4 (wcell (wat ws k)) 135, blkA d [(.map (some m)), wv, (.bool (ar)), (.int .i64 (lf)), (.bool false)] 115, mapP m (kvS s'), own wv (ws.length) (wflat ws) 135 65]) (Want.plain rfl) rfl rfl rfl rfl rfl (by rw [wcell_len (wat_len hw (by omega))]; exact sz135) (wcell_one _) rfl rfl (by rw [wcell_len (wat_len hw (by omega))]; exact Nat.le_refl _) (wr_whole (Eq.trans (rfl : _ = 65) (by rw [wcell_len (wat_len hw (by omega))] : (wcell (wat ws k)).length = 65).symm)) rfl ?_
 refine nx J9 ?_
 refine TC.region ?_
 refine mv ?_
 refine tp (PV.fieldAddr (r := 0) rfl Tryz.underlying135 rfl sz3 rfl rfl) ?_
 refine tp (PV.load1 (v := (.int .i64 ((wat ws k).1))) rfl Tryz.underlying3 rfl rfl (Rd.own 0 rfl rfl) rfl) ?_
 refine tp (PV.fieldAddr (r := 1) rfl Tryz.underlying135 rfl sz133 rfl rfl) ?_
 refine tp (PV.loadN (vs := u8s (wat ws k).2) rfl Tryz.underlying133 rfl sz133 rfl (Rd.own 0 rfl rfl) (by rw [u8s_length]; exact wat_len hw (by omega)) (wcell_tail (wat_len hw (by omega)))) ?_
 refine TL.callR (A := [blkA d [(.map (some m)), wv, (.bool (ar)), (.int .i64 (lf)), (.bool false)] 115, mapP m (kvS s')]) (Want.plain rfl) rfl rfl rfl nm57 rfl (dr_last_does d m wv s' ar false lf ((wat ws k).1) (wat ws k).2 (by exact wat_len hw (by omega))) (fun _ s => sep_selR [1, 1] rfl s) (fun _ _ _ => trivial) (fun vR HR hR => ?_)
 subst hR
 change TL _ _ _ _ _ _ _ _ _ [blkA d [(.map (some m)), wv, (.bool (ar)), (.int .i64 (lf)), (.bool false)] 115, mapP m (kvS (sput s' ((wat ws k).1) (wat ws k).2)), blkA b4 (wcell (wat ws k)) 135, own wv (ws.length) (wflat ws) 135 65]
 refine TL.nil ?_
 refine TE.blockEnd ?_
 refine TE.next J8 ?_
 refine TC.region ?_
 refine tp (PV.add rfl rfl rfl (wrap_i64 (by omega) (by omega))) ?_
 refine mv ?_
 refine TL.nil ?_
 exact TE.round ((k + 1, sput s' (wat ws k).1 (wat ws k).2) : (Nat) × (Secs)) ⟨by omega, by rw [hs']; rfl⟩ (by show ws.length - (k + 1) < ws.length - k; omega)
   (Sub.r (Sub.r (Sub.r (Sub.r (Sub.cons rfl (by simp) (Sub.nil _))))))
   (fun _ s => sep_keep [0, 0, 1] rfl s)
 refine nx J6 ?_
 refine TC.seq fun _ J10 => ?_
 refine TC.no rfl ?_
 refine TC.exit ?_
 refine TE.pass ?_
 refine TE.pass ?_
 refine TE.hit ?_
 refine TE.next J4 ?_
 refine sr fun _ J11 => ?_
 refine mv ?_
 refine tp (PV.nilCheck rfl rfl) ?_
 refine tp (PV.fieldAddr (r := 1) rfl Tryz.underlying115 rfl sz113 rfl rfl) ?_
 refine TL.store1 (i := 0) (H' := [blkA d [(.map (some m)), (.slice none 0 0), (.bool (ar)), (.int .i64 (lf)), (.bool false)] 115, mapP m (kvS s'), own wv (ws.length) (wflat ws) 135 65]) (Want.plain rfl) rfl rfl rfl rfl rfl sz113 rfl rfl (lb rfl) rfl rfl ?_
 refine nx J11 ?_
 refine sr fun _ J12 => ?_
 refine sg' ?_
 refine nx J12 ?_
 refine TC.ret ?_
 refine TE.weak (H' := [blkA d [(.map (some m)), (.slice none 0 0), (.bool (ar)), (.int .i64 (lf)), (.bool false)] 115, mapP m (kvS s'), own (.slice none 0 0) 0 [] 135 65]) (Sub.refl _) (fun _ s => sep_perm (List.Perm.trans (List.Perm.swap _ _ _) (List.Perm.cons _ (List.Perm.swap _ _ _))) (sep_ownNil 135 65 (sep_keep [0, 0] rfl s))) ?_
 refine TE.ret1 rfl rfl ?_
 obtain rfl : k = ws.length := by omega
 subst hs'
 exact ⟨rfl, rfl⟩
theorem dr_read_does (d m : Nat) (wv : Value) (s ws : Secs) (ar dn : Bool) (lf at' : Int) (hs2 : Whole s) (hw : Whole ws) (hb : ws.length ≤ 1000000000) :
    Does Tryz.prog 69 #[(.pointer (some ⟨d, 0, none⟩)), (.int .i64 (at'))] (fun _ => True) [blkA d [(.map (some m)), wv, (.bool (ar)), (.int .i64 (lf)), (.bool (dn))] 115, mapP m (kvS s), own wv (ws.length) (wflat ws) 135 65] (Ret (fun v H => v = secV (readN s ws at' ws.length) ∧ H = [blkA d [(.map (some m)), wv, (.bool (ar)), (.int .i64 (lf)), (.bool (dn))] 115, mapP m (kvS s), own wv (ws.length) (wflat ws) 135 65])) := by
 refine Does.body (vs := [(.pointer (some ⟨d, 0, none⟩)), (.int .i64 (at'))]) (n := 40) Tryz.func69 rfl rfl rfl (fun w0 F hF => ?_)
 refine sr fun _ J1 => ?_
 refine TL.ownLen 2 rfl rfl (fun hwl _ => ?_)
 refine TL.alloc (Want.plain rfl) rfl rfl rfl z133 (fun b4 => ?_)
 change TL _ _ _ _ _ _ _ _ _ [blkA b4 [(.int .u8 0), (.int .u8 0), (.int .u8 0), (.int .u8 0), (.int .u8 0), (.int .u8 0), (.int .u8 0), (.int .u8 0), (.int .u8 0), (.int .u8 0), (.int .u8 0), (.int .u8 0), (.int .u8 0), (.int .u8 0), (.int .u8 0), (.int .u8 0), (.int .u8 0), (.int .u8 0), (.int .u8 0), (.int .u8 0), (.int .u8 0), (.int .u8 0), (.int .u8 0), (.int .u8 0), (.int .u8 0), (.int .u8 0), (.int .u8 0), (.int .u8 0), (.int .u8 0), (.int .u8 0), (.int .u8 0), (.int .u8 0), (.int .u8 0), (.int .u8 0), (.int .u8 0), (.int .u8 0), (.int .u8 0), (.int .u8 0), (.int .u8 0), (.int .u8 0), (.int .u8 0), (.int .u8 0), (.int .u8 0), (.int .u8 0), (.int .u8 0), (.int .u8 0), (.int .u8 0), (.int .u8 0), (.int .u8 0), (.int .u8 0), (.int .u8 0), (.int .u8 0), (.int .u8 0), (.int .u8 0), (.int .u8 0), (.int .u8 0), (.int .u8 0), (.int .u8 0), (.int .u8 0), (.int .u8 0), (.int .u8 0), (.int .u8 0), (.int .u8 0), (.int .u8 0)] 133, blkA d [(.map (some m)), wv, (.bool (ar)), (.int .i64 (lf)), (.bool (dn))] 115, mapP m (kvS s), own wv (ws.length) (wflat ws) 135 65]
 refine nx J1 ?_
 refine TC.seq fun _ J2 => ?_
 refine sr fun _ J3 => ?_
 refine mv ?_
 refine tp (PV.nilCheck rfl rfl) ?_
 refine tp (PV.fieldAddr (r := 1) rfl Tryz.underlying115 rfl sz113 rfl rfl) ?_
 refine tp (PV.load1 (v := wv) rfl Tryz.underlying113 rfl rfl (Rd.own 1 rfl rfl) rfl) ?_
 refine tp (PV.lenV rfl Tryz.underlying113 rfl hwl) ?_
 refine tp (PV.sub rfl rfl rfl (wrap_i64 (by omega) (by omega))) ?_
 refine sg' ?_
 refine nx J3 ?_
 refine TC.block ?_
 refine TC.loop (α := (Int)) (fun p => -1 ≤ p ∧ p < ws.length ∧ readN s ws at' (p + 1).toNat = readN s ws at' ws.length) (fun p => [(0, (.pointer (some ⟨d, 0, none⟩))), (1, (.int .i64 (at'))), (4, (.pointer (some ⟨b4, 0, none⟩))), (5, (.int .i64 (p)))]) (fun p => [blkA b4 [(.int .u8 0), (.int .u8 0), (.int .u8 0), (.int .u8 0), (.int .u8 0), (.int .u8 0), (.int .u8 0), (.int .u8 0), (.int .u8 0), (.int .u8 0), (.int .u8 0), (.int .u8 0), (.int .u8 0), (.int .u8 0), (.int .u8 0), (.int .u8 0), (.int .u8 0), (.int .u8 0), (.int .u8 0), (.int .u8 0), (.int .u8 0), (.int .u8 0), (.int .u8 0), (.int .u8 0), (.int .u8 0), (.int .u8 0), (.int .u8 0), (.int .u8 0), (.int .u8 0), (.int .u8 0), (.int .u8 0), (.int .u8 0), (.int .u8 0), (.int .u8 0), (.int .u8 0), (.int .u8 0), (.int .u8 0), (.int .u8 0), (.int .u8 0), (.int .u8 0), (.int .u8 0), (.int .u8 0), (.int .u8 0), (.int .u8 0), (.int .u8 0), (.int .u8 0), (.int .u8 0), (.int .u8 0), (.int .u8 0), (.int .u8 0), (.int .u8 0), (.int .u8 0), (.int .u8 0), (.int .u8 0), (.int .u8 0), (.int .u8 0), (.int .u8 0), (.int .u8 0), (.int .u8 0), (.int .u8 0), (.int .u8 0), (.int .u8 0), (.int .u8 0), (.int .u8 0)] 133, blkA d [(.map (some m)), wv, (.bool (ar)), (.int .i64 (lf)), (.bool (dn))] 115, mapP m (kvS s), own wv (ws.length) (wflat ws) 135 65]) (fun p => (p + 1).toNat) (((ws.length : Nat) : Int) - 1)
     ⟨by omega, by omega, by congr 1; omega⟩ (Sub.r (Sub.r (Sub.r (Sub.cons rfl (by congr 1) (Sub.nil _)))))
     (fun _ s => s) (fun p hinv => ?_)
 obtain ⟨hp1, hp2, hp3⟩ := hinv
 refine TC.seq fun _ J4 => ?_
 refine sr fun _ J5 => ?_
 refine mv ?_
 refine tp (PV.geq rfl rfl rfl) ?_
 refine TL.dec (fun h13 => ?_) (fun h13 => ?_)
 refine TL.ownAt 3 rfl rfl (by omega) (fun g cap hv hcap => ?_)
 refine nx J5 ?_
 refine TC.yes rfl ?_
 refine TC.skip ?_
 refine TE.next J4 ?_
 refine TC.seq fun _ J6 => ?_
 refine TC.block ?_
 refine sr fun _ J7 => ?_
 refine mv ?_
 refine tp (PV.nilCheck rfl rfl) ?_
 refine tp (PV.fieldAddr (r := 1) rfl Tryz.underlying115 rfl sz113 rfl rfl) ?_
 refine tp (PV.load1 (v := wv) rfl Tryz.underlying113 rfl rfl (Rd.own 1 rfl rfl) rfl) ?_
 refine mv ?_
 refine tp (PV.indexSlV (r := p.toNat * 65) hv rfl Tryz.underlying113 sz135 rfl rfl (by omega) (by omega) (by omega)) ?_
 refine tp (PV.fieldAddr (r := p.toNat * 65) rfl Tryz.underlying135 rfl sz3 rfl rfl) ?_
 refine tp (PV.load1X (v := (.int .i64 ((wat ws p.toNat).1))) rfl Tryz.underlying3 rfl rfl (RdX.own 3 rfl hv rfl) (wflat_at0 hw (by omega))) ?_
 refine mv ?_
 refine tp (PV.eql rfl rfl rfl) ?_
 refine TL.dec (fun h25 => ?_) (fun h25 => ?_)
 refine nx J7 ?_
 refine TC.yes rfl ?_
 refine sr fun _ J8 => ?_
 refine mv ?_
 refine tp (PV.nilCheck rfl rfl) ?_
 refine tp (PV.fieldAddr (r := 1) rfl Tryz.underlying115 rfl sz113 rfl rfl) ?_
 refine tp (PV.load1 (v := wv) rfl Tryz.underlying113 rfl rfl (Rd.own 1 rfl rfl) rfl) ?_
 refine mv ?_
 refine tp (PV.indexSlV (r := p.toNat * 65) hv rfl Tryz.underlying113 sz135 rfl rfl (by omega) (by omega) (by omega)) ?_
 refine tp (PV.fieldAddr (r := p.toNat * 65 + 1) rfl Tryz.underlying135 rfl sz133 rfl rfl) ?_
 refine tp (PV.loadNX (vs := u8s (wat ws p.toNat).2) rfl Tryz.underlying133 rfl sz133 rfl (RdX.own 3 rfl hv rfl) (by rw [u8s_length]; exact wat_len hw (by omega)) (wflat_at1 hw (by omega))) ?_
 refine TL.store (vs := u8s (wat ws p.toNat).2) (i := 0) (H' := [blkA b4 (u8s (wat ws p.toNat).2) 133, blkA d [(.map (some m)), wv, (.bool (ar)), (.int .i64 (lf)), (.bool (dn))] 115, mapP m (kvS s), own wv (ws.length) (wflat ws) 135 65]) (Want.plain rfl) rfl rfl rfl rfl rfl (by rw [u8s_length, wat_len hw (by omega)]; exact sz133) (u8s_one _) rfl rfl (by rw [u8s_length, wat_len hw (by omega)]; exact Nat.le_refl _) (wr_whole (Eq.trans (rfl : _ = 64) (by rw [u8s_length, wat_len hw (by omega)] : (u8s (wat ws p.toNat).2).length = 64).symm)) rfl ?_
 refine nx J8 ?_
 refine TC.ret ?_
 refine TE.blockRet ?_
 refine TE.passRet ?_
 refine TE.passRet ?_
 refine TE.blockRet ?_
 refine TE.passRet ?_
 refine TE.retC (H' := [blkA d [(.map (some m)), wv, (.bool (ar)), (.int .i64 (lf)), (.bool (dn))] 115, mapP m (kvS s), own wv (ws.length) (wflat ws) 135 65]) rfl rfl Tryz.underlying133 rfl sz133 (Rd.own 0 rfl rfl) (by rw [u8s_length]; exact wat_len hw (by omega)) (fun _ s => sep_keep [1, 1, 1] rfl s) ?_
 have e := readN_hit (s := s) h25
 rw [show p.toNat + 1 = (p + 1).toNat by omega, hp3] at e
 exact ⟨by rw [e]; rfl, rfl⟩
 refine nx J7 ?_
 refine TC.no rfl ?_
 refine TC.skip ?_
 refine TE.blockEnd ?_
 refine TE.next J6 ?_
 refine TC.region ?_
 refine mv ?_
 refine tp (PV.sub rfl rfl rfl (wrap_i64 (by omega) (by omega))) ?_
 refine sg' ?_
 refine TL.nil ?_
 exact TE.round ((p - 1) : (Int)) ⟨by omega, by omega, by rw [← hp3, show (p + 1).toNat = p.toNat + 1 by omega, readN_miss h25]; congr 1; omega⟩ (by show (p - 1 + 1).toNat < (p + 1).toNat; omega)
   (Sub.r (Sub.r (Sub.r (Sub.r (Sub.nil _)))))
   (fun _ s => s)
 refine nx J5 ?_
 refine TC.no rfl ?_
 refine TC.exit ?_
 refine TE.pass ?_
 refine TE.pass ?_
 refine TE.hit ?_
 refine TE.next J2 ?_
 refine sr fun _ J9 => ?_
 refine mv ?_
 refine tp (PV.nilCheck rfl rfl) ?_
 refine tp (PV.fieldAddr (r := 0) rfl Tryz.underlying115 rfl sz112 rfl rfl) ?_
 refine tp (PV.load1 (v := (.map (some m))) rfl Tryz.underlying112 rfl rfl (Rd.own 1 rfl rfl) rfl) ?_
 refine mv ?_
 refine tp (PV.lookup rfl Tryz.underlying112 Tryz.underlying3 z133 rfl rfl (RdM.own 2 rfl rfl) (kget_kvS _ _)) ?_
 refine TL.store (vs := u8s (sget s at')) (i := 0) (H' := [blkA b4 (u8s (sget s at')) 133, blkA d [(.map (some m)), wv, (.bool (ar)), (.int .i64 (lf)), (.bool (dn))] 115, mapP m (kvS s), own wv (ws.length) (wflat ws) 135 65]) (Want.plain rfl) rfl rfl rfl rfl rfl (by rw [u8s_length, sget_whole hs2]; exact sz133) (u8s_one _) rfl rfl (by rw [u8s_length, sget_whole hs2]; exact Nat.le_refl _) (wr_whole (Eq.trans (rfl : _ = 64) (by rw [u8s_length, sget_whole hs2] : (u8s (sget s at')).length = 64).symm)) rfl ?_
 refine nx J9 ?_
 refine TC.ret ?_
 refine TE.retC (H' := [blkA d [(.map (some m)), wv, (.bool (ar)), (.int .i64 (lf)), (.bool (dn))] 115, mapP m (kvS s), own wv (ws.length) (wflat ws) 135 65]) rfl rfl Tryz.underlying133 rfl sz133 (Rd.own 0 rfl rfl) (by rw [u8s_length]; exact sget_whole hs2 _) (fun _ s => sep_keep [1, 1, 1] rfl s) ?_
 rw [show (p + 1).toNat = 0 by omega] at hp3
 exact ⟨by rw [← hp3]; rfl, rfl⟩
theorem sg133 : Tryz.prog.eqGuardType Tryz.prog.depth 133 = false := by kernel_rfl
theorem sk133 : Tryz.prog.keyTypeAt 2 133 = true := by kernel_rfl
theorem sf133 : flatK Tryz.prog 2 133 = some (List.replicate 64 (some .u8)) := by kernel_rfl
theorem sa133 : aggT Tryz.prog 133 = true := by kernel_rfl
theorem sc133 : Tryz.prog.cellsOf 133 = 64 := by kernel_rfl

abbrev dk (d : Nat) (D : DS) : HP := diskP 115 135 d D

theorem dk_read (d : Nat) (D : DS) (at' : Int) (hD : D.Ok) (hb : D.ws.length ≤ 1000000000) : Does Tryz.prog 69 #[(.pointer (some ⟨d, 0, none⟩)), .int .i64 at'] (fun _ => True) [dk d D] (Ret (fun v H => v = secV (D.read at') ∧ H = [dk d (D)])) := Does.pack (B := []) fun ⟨m, wv⟩ =>
  Does.withinR (dr_read_does d m wv D.s D.ws D.ar D.dn D.lf at' hD.s hD.ws hb) (B := []) (fun _ _ _ _ => trivial) (fun _ s => s) (fun v H h => by
    obtain ⟨rfl, rfl⟩ := h
    exact ⟨_, fun _ s => sep_close (H := []) (m, wv) (s), rfl, rfl⟩)

theorem dk_write (d : Nat) (D : DS) (at' : Int) (x : Value) (bs : List UInt8) (hD : D.Ok) (hb : D.ws.length ≤ 1000000000) : Does Tryz.prog 70 #[(.pointer (some ⟨d, 0, none⟩)), .int .i64 at', x] (IsW x bs) [dk d D] (Ret (fun v H => v = .int .i64 (D.write at' bs).1 ∧ H = [dk d ((D.write at' bs).2)])) := Does.pack (B := []) fun ⟨m, wv⟩ =>
  Does.withinR (dr_write_does d m wv D.ws D.ar D.dn D.lf at' x bs hD.lf hb) (B := [mapP m (kvS D.s)]) (fun _ _ h d => h.more d) (fun _ s => sep_selR [0, 1] rfl s) (fun v H h => by
    unfold DS.write
    replace h : (if at' < 0 ∨ 2048 ≤ at' ∨ 64 < bs.length then _ else _) := h
    split at h <;> rename_i h1
    · rw [if_pos h1]
      obtain ⟨rfl, rfl⟩ := h
      exact ⟨_, fun _ s => sep_close (H := []) (m, wv) (sep_selR [0, 1] rfl s), rfl, rfl⟩
    · rw [if_neg h1]
      split at h <;> rename_i h2
      · rw [if_pos h2]
        obtain ⟨rfl, rfl⟩ := h
        exact ⟨_, fun _ s => sep_close (H := []) (m, wv) (sep_selR [0, 1] rfl s), rfl, rfl⟩
      · rw [if_neg h2]
        obtain ⟨rfl, wv', rfl⟩ := h
        exact ⟨_, fun _ s => sep_close (H := []) (m, wv') (sep_selR [0, 1] rfl s), rfl, rfl⟩)

theorem dk_sync (d : Nat) (D : DS) (hD : D.Ok) : Does Tryz.prog 71 #[(.pointer (some ⟨d, 0, none⟩))] (fun _ => True) [dk d D] (Ret (fun v H => v = .int .i64 D.sync.1 ∧ H = [dk d D.sync.2])) := by
  obtain ⟨s, ws, ar, lf, dn⟩ := D
  cases dn
  · exact Does.pack (B := []) fun ⟨m, wv⟩ => Does.withinR (dr_syncUp_does d m wv s ws ar lf hD.ws) (B := []) (fun _ _ _ _ => trivial) (fun _ s => s) (fun v H h => by
      obtain ⟨rfl, rfl⟩ := h
      exact ⟨_, fun _ s => sep_close (H := []) (m, (.slice none 0 0 : Value)) s, rfl, rfl⟩)
  · exact Does.pack (B := []) fun ⟨m, wv⟩ => Does.withinR (dr_syncDown_does d m wv ar lf) (B := [mapP m (kvS s), own wv ws.length (wflat ws) 135 65]) (fun _ _ _ _ => trivial) (fun _ s => s) (fun v H h => by
      obtain ⟨rfl, rfl⟩ := h
      exact ⟨_, fun _ s => sep_close (H := []) (m, wv) s, rfl, rfl⟩)

theorem dk_new : Does Tryz.prog 11 #[] (fun _ => True) [] (Ret (fun v H => ∃ d, v = .pointer (some ⟨d, 0, none⟩) ∧ H = [dk d DS.new])) :=
  Does.withinR dr_new_does (B := []) (fun _ _ _ _ => trivial) (fun _ s => s) (fun v H h => by
    obtain ⟨d, m, rfl, rfl⟩ := h
    exact ⟨_, fun _ s => sep_close (H := []) (m, (.slice none 0 0 : Value)) (sep_perm (List.Perm.trans (List.Perm.swap _ _ _) (List.Perm.cons _ (List.Perm.swap _ _ _))) (sep_ownNil 135 65 s)), d, rfl, rfl⟩)

end Go.Proofs.YtfceaphohlbnbaaGreat
end

section
namespace Wal
open Go Leg Codec Api Dsk

/-! ### Bits -/
theorem orI_add32 {x y : Int} (k : Nat) (hx : 0 ≤ x) (hx2 : x < 2 ^ k) (hy : 0 ≤ y) (h : x + y * 2 ^ k < 4294967296) : orI .u32 x (y * 2 ^ k) = x + y * 2 ^ k := by
  obtain ⟨a, rfl⟩ := Int.eq_ofNat_of_zero_le hx
  obtain ⟨b, rfl⟩ := Int.eq_ofNat_of_zero_le hy
  have e2 : ((b : Nat) : Int) * 2 ^ k = ((b * 2 ^ k : Nat) : Int) := by simp
  rw [e2] at h ⊢
  have ha : a < 2 ^ k := by have : (((2 : Nat) ^ k : Nat) : Int) = (2 : Int) ^ k := by simp
                            omega
  have hs : a + b * 2 ^ k < 4294967296 := by omega
  have h1 : (BitVec.ofInt 32 (a : Int)).toNat = a := by rw [BitVec.toNat_ofInt]; omega
  have h2 : (BitVec.ofInt 32 ((b * 2 ^ k : Nat) : Int)).toNat = b * 2 ^ k := by
    rw [BitVec.toNat_ofInt]; generalize b * 2 ^ k = q at *; omega
  have h3 : a ||| b * 2 ^ k = a + b * 2 ^ k := by
    rw [Nat.or_comm, ← Nat.shiftLeft_eq, ← Nat.shiftLeft_add_eq_or_of_lt ha, Nat.add_comm]
  show IntKind.u32.wrap (((BitVec.ofInt 32 (a : Int)) ||| (BitVec.ofInt 32 ((b * 2 ^ k : Nat) : Int))).toNat : Nat) = _
  rw [BitVec.toNat_or, h1, h2, h3]
  generalize b * 2 ^ k = q at *
  rw [wrap_u32 (by omega) (by omega)]
  omega
theorem orI_add64 {x y : Int} (k : Nat) (hx : 0 ≤ x) (hx2 : x < 2 ^ k) (hy : 0 ≤ y) (h : x + y * 2 ^ k < 9223372036854775808) : orI .i64 (y * 2 ^ k) x = x + y * 2 ^ k := by
  obtain ⟨a, rfl⟩ := Int.eq_ofNat_of_zero_le hx
  obtain ⟨b, rfl⟩ := Int.eq_ofNat_of_zero_le hy
  have e2 : ((b : Nat) : Int) * 2 ^ k = ((b * 2 ^ k : Nat) : Int) := by simp
  rw [e2] at h ⊢
  have ha : a < 2 ^ k := by have : (((2 : Nat) ^ k : Nat) : Int) = (2 : Int) ^ k := by simp
                            omega
  have h1 : (BitVec.ofInt 64 (a : Int)).toNat = a := by rw [BitVec.toNat_ofInt]; omega
  have h2 : (BitVec.ofInt 64 ((b * 2 ^ k : Nat) : Int)).toNat = b * 2 ^ k := by
    rw [BitVec.toNat_ofInt]; generalize b * 2 ^ k = q at *; omega
  have h3 : b * 2 ^ k ||| a = a + b * 2 ^ k := by
    rw [← Nat.shiftLeft_eq, ← Nat.shiftLeft_add_eq_or_of_lt ha, Nat.add_comm]
  show IntKind.i64.wrap (((BitVec.ofInt 64 ((b * 2 ^ k : Nat) : Int)) ||| (BitVec.ofInt 64 (a : Int))).toNat : Nat) = _
  rw [BitVec.toNat_or, h1, h2, h3]
  generalize b * 2 ^ k = q at *
  rw [wrap_i64 (by omega) (by omega)]
  omega
theorem u32_range (x : Int) : 0 ≤ IntKind.u32.wrap x ∧ IntKind.u32.wrap x < 4294967296 := by
  simp only [IntKind.wrap, IntKind.signed, IntKind.bits]; simp; omega
theorem xor32_range (a b : Int) : 0 ≤ xorI .u32 a b ∧ xorI .u32 a b < 4294967296 := u32_range _
def r8 (x : Int) : UInt8 := UInt8.ofNat (x % 256).toNat
theorem r8_nat (x : Int) : (((r8 x).toNat : Nat) : Int) = x % 256 := by
  have : (x % 256).toNat < 256 := by omega
  simp only [r8, UInt8.toNat_ofNat']; omega
theorem r8_wrap (x : Int) : IntKind.u8.wrap x = (((r8 x).toNat : Nat) : Int) := by
  rw [r8_nat]; simp only [IntKind.wrap, IntKind.signed, IntKind.bits]; simp

/-! ### Sums -/
def crcBit (r : Int) : Int := if andI .u32 r 1 = 1 then xorI .u32 (r.fdiv 2) 3988292384 else r.fdiv 2
def crcBits (r : Int) : Nat → Int
  | 0 => r
  | k + 1 => crcBit (crcBits r k)
def crcByte (r : Int) (c : UInt8) : Int := crcBits (xorI .u32 r ((c.toNat : Nat) : Int)) 8
def crcRun (r : Int) (bs : List UInt8) : Int := bs.foldl crcByte r
def crcOf (bs : List UInt8) : Int := xorI .u32 4294967295 (crcRun 4294967295 bs)
theorem crcRun_take {r : Int} {bs : List UInt8} {k : Nat} (h : k < bs.length) : crcRun r (bs.take (k + 1)) = crcByte (crcRun r (bs.take k)) (bs.getD k 0) := by
  rw [crcRun, crcRun, List.take_succ_eq_append_getElem h, List.foldl_append, List.getD_eq_getElem?_getD, List.getElem?_eq_getElem h]; rfl
theorem crcRun_append (r : Int) (a b : List UInt8) : crcRun r (a ++ b) = crcRun (crcRun r a) b := by simp [crcRun]
theorem crcRun_flat {r : Int} {ps : List (List UInt8)} {k : Nat} (h : k < ps.length) : crcRun r (ps.take (k + 1)).flatten = crcRun (crcRun r (ps.take k).flatten) ps[k] := by
  rw [List.take_succ_eq_append_getElem h, List.flatten_append, crcRun_append]; simp
theorem crcOf_range (bs : List UInt8) : 0 ≤ crcOf bs ∧ crcOf bs < 4294967296 := xor32_range _ _
def le4 (r : Int) : List UInt8 := [r8 r, r8 (r.fdiv 256), r8 (r.fdiv 65536), r8 (r.fdiv 16777216)]
def le32 (a b c d : UInt8) : Int :=
  orI .u32 (orI .u32 (orI .u32 ((a.toNat : Nat) : Int) (IntKind.u32.wrap (((b.toNat : Nat) : Int) * 2 ^ 8))) (IntKind.u32.wrap (((c.toNat : Nat) : Int) * 2 ^ 16))) (IntKind.u32.wrap (((d.toNat : Nat) : Int) * 2 ^ 24))
theorem le32_eq (a b c d : UInt8) : le32 a b c d = ((a.toNat : Nat) : Int) + ((b.toNat : Nat) : Int) * 256 + ((c.toNat : Nat) : Int) * 65536 + ((d.toNat : Nat) : Int) * 16777216 := by
  have ha := a.toNat_lt
  have hb := b.toNat_lt
  have hc := c.toNat_lt
  have hd := d.toNat_lt
  unfold le32
  generalize a.toNat = a at *
  generalize b.toNat = b at *
  generalize c.toNat = c at *
  generalize d.toNat = d at *
  rw [wrap_u32 (x := (b : Int) * 2 ^ 8) (by omega) (by omega), wrap_u32 (x := (c : Int) * 2 ^ 16) (by omega) (by omega), wrap_u32 (x := (d : Int) * 2 ^ 24) (by omega) (by omega)]
  rw [orI_add32 8 (by omega) (by omega) (by omega) (by omega), orI_add32 16 (by omega) (by omega) (by omega) (by omega), orI_add32 24 (by omega) (by omega) (by omega) (by omega)]
  omega
def putP (bs : List UInt8) : List UInt8 := bs ++ le4 (crcOf bs)
def takeP (bs : List UInt8) : Option (List UInt8) :=
  if bs.length < 4 then none
  else if crcOf (bs.take (bs.length - 4)) = le32 ((bs.drop (bs.length - 4)).getD 0 0) ((bs.drop (bs.length - 4)).getD 1 0) ((bs.drop (bs.length - 4)).getD 2 0) ((bs.drop (bs.length - 4)).getD 3 0) then some (bs.take (bs.length - 4)) else none
theorem putP_len (bs : List UInt8) : (putP bs).length = bs.length + 4 := by simp [putP, le4]
theorem le32_le4 {r : Int} (h : 0 ≤ r ∧ r < 4294967296) : le32 (r8 r) (r8 (r.fdiv 256)) (r8 (r.fdiv 65536)) (r8 (r.fdiv 16777216)) = r := by
  rw [le32_eq, r8_nat, r8_nat, r8_nat, r8_nat, Int.fdiv_eq_ediv_of_nonneg _ (by decide), Int.fdiv_eq_ediv_of_nonneg _ (by decide), Int.fdiv_eq_ediv_of_nonneg _ (by decide)]
  omega
theorem takeP_putP (bs : List UInt8) : takeP (putP bs) = some bs := by
  have hl := putP_len bs
  have e1 : (putP bs).take (bs.length + 4 - 4) = bs := by rw [Nat.add_sub_cancel, putP]; exact List.take_left
  have e2 : (putP bs).drop (bs.length + 4 - 4) = le4 (crcOf bs) := by rw [Nat.add_sub_cancel, putP]; exact List.drop_left
  unfold takeP
  rw [hl, if_neg (by omega), e1, e2]
  exact if_pos (le32_le4 (crcOf_range bs)).symm
theorem takeP_len {bs t : List UInt8} (h : takeP bs = some t) : t.length + 4 = bs.length := by
  unfold takeP at h
  split at h
  · cases h
  · split at h
    · injection h with h; subst h; rw [List.length_take]; omega
    · cases h

/-! ### Sectors -/
def piecesN (n : Nat) : Nat := if n = 0 then 1 else (n - 1) / 52 + 1
theorem piecesN_pos (n : Nat) : 0 < piecesN n := by unfold piecesN; split <;> omega
theorem piecesN_le {n : Nat} (h : n ≤ 3000) : piecesN n ≤ 58 := by unfold piecesN; split <;> omega
theorem piecesN_cover (n : Nat) : n ≤ piecesN n * 52 := by unfold piecesN; split <;> omega
def be4 (n : Int) : List UInt8 := [r8 (n.fdiv 16777216), r8 (n.fdiv 65536), r8 (n.fdiv 256), r8 n]
def beI (bs : List UInt8) : Int := bs.foldl (fun h c => orI .i64 (IntKind.i64.wrap (h * 2 ^ 8)) ((c.toNat : Nat) : Int)) 0
theorem beI_take {bs : List UInt8} {k : Nat} (h : k < bs.length) : beI (bs.take (k + 1)) = orI .i64 (IntKind.i64.wrap (beI (bs.take k) * 2 ^ 8)) (((bs.getD k 0).toNat : Nat) : Int) := by
  rw [beI, beI, List.take_succ_eq_append_getElem h, List.foldl_append, List.getD_eq_getElem?_getD, List.getElem?_eq_getElem h]; rfl
theorem be_step {h : Int} (c : UInt8) (h0 : 0 ≤ h) (h1 : h < 4294967296) : orI .i64 (IntKind.i64.wrap (h * 2 ^ 8)) ((c.toNat : Nat) : Int) = h * 256 + ((c.toNat : Nat) : Int) := by
  have hc := c.toNat_lt
  generalize c.toNat = c at *
  rw [wrap_i64 (by omega) (by omega), orI_add64 8 (by omega) (by omega) (by omega) (by omega)]
  omega
theorem beI_four (a b c d : UInt8) : beI [a, b, c, d] = ((a.toNat : Nat) : Int) * 16777216 + ((b.toNat : Nat) : Int) * 65536 + ((c.toNat : Nat) : Int) * 256 + ((d.toNat : Nat) : Int) := by
  have ha := a.toNat_lt
  have hb := b.toNat_lt
  have hc := c.toNat_lt
  have hd := d.toNat_lt
  simp only [beI, List.foldl_cons, List.foldl_nil]
  rw [be_step a (by omega) (by omega), be_step b (by omega) (by omega), be_step c (by omega) (by omega), be_step d (by omega) (by omega)]
  omega
theorem beI_be4 {n : Int} (h0 : 0 ≤ n) (h1 : n < 4294967296) : beI (be4 n) = n := by
  rw [be4, beI_four, r8_nat, r8_nat, r8_nat, r8_nat, Int.fdiv_eq_ediv_of_nonneg _ (by decide), Int.fdiv_eq_ediv_of_nonneg _ (by decide), Int.fdiv_eq_ediv_of_nonneg _ (by decide)]
  omega
def partP (b : List UInt8) (i : Nat) : List UInt8 := (b.drop (i * 52)).take 52
theorem partP_len (b : List UInt8) (i : Nat) : (partP b i).length ≤ 52 := by rw [partP, List.length_take]; omega
theorem part_le {n k : Nat} (h : k < piecesN n) : k * 52 ≤ n := by unfold piecesN at h; split at h <;> omega
theorem part_eq (b : List UInt8) (k : Nat) : ((b.take (min ((k + 1) * 52) b.length)).drop (k * 52)) = partP b k := by
  rw [partP, List.drop_take, Nat.add_mul, Nat.one_mul]
  by_cases q : k * 52 + 52 ≤ b.length
  · rw [Nat.min_eq_left q, Nat.add_sub_cancel_left]
  · rw [Nat.min_eq_right (by omega), List.take_of_length_le (by rw [List.length_drop]; omega), List.take_of_length_le (by rw [List.length_drop]; omega)]
theorem parts_all (b : List UInt8) : ∀ k, b.length ≤ k * 52 → ((List.range k).map (partP b)).flatten = b := by
  have key : ∀ k, ((List.range k).map (partP b)).flatten = b.take (k * 52) := by
    intro k
    induction k with
    | zero => simp
    | succ k ih =>
      rw [List.range_succ, List.map_append, List.flatten_append, ih, Nat.add_mul, Nat.one_mul, List.take_add]
      simp [partP]
  intro k hk
  rw [key, List.take_of_length_le hk]
def textP (number : Int) (place all : Nat) (p : List UInt8) : List UInt8 := be4 number ++ ([r8 (place : Int), r8 (all : Int), r8 (p.length : Int)] ++ (p ++ List.replicate (52 - p.length) 0))
theorem textP_len {number : Int} {place all : Nat} {p : List UInt8} (h : p.length ≤ 52) : (textP number place all p).length = 59 := by simp [textP, be4]; omega
def sectP (number : Int) (place all : Nat) (p : List UInt8) : Sec := putP (textP number place all p) ++ [1]
theorem sectP_len {number : Int} {place all : Nat} {p : List UInt8} (h : p.length ≤ 52) : (sectP number place all p).length = 64 := by simp [sectP, putP_len, textP_len h]
def sectorsP (number : Int) (b : List UInt8) : List Sec := (List.range (piecesN b.length)).map fun i => sectP number i (piecesN b.length) (partP b i)
def secsN (number : Int) (b : List UInt8) (k : Nat) : List Sec := (List.range k).map fun i => sectP number i (piecesN b.length) (partP b i)
theorem secsN_succ (number : Int) (b : List UInt8) (k : Nat) : secsN number b (k + 1) = secsN number b k ++ [sectP number k (piecesN b.length) (partP b k)] := by simp [secsN, List.range_succ]
theorem secsN_len (number : Int) (b : List UInt8) (k : Nat) : (secsN number b k).length = k := by simp [secsN]
theorem text_copy {number : Int} {place all : Nat} {p : List UInt8} (h : p.length ≤ 52) :
    wr (u8s (be4 number ++ ([r8 (place : Int), r8 (all : Int), r8 (p.length : Int)] ++ List.replicate 52 0))) 7 ((u8s p).take (min p.length 52)) = u8s (textP number place all p) := by
  have e : (u8s p).take (min p.length 52) = u8s p := List.take_of_length_le (by rw [u8s_length]; omega)
  rw [e, wr, u8s_length]
  have e2 : (u8s (be4 number ++ ([r8 (place : Int), r8 (all : Int), r8 (p.length : Int)] ++ List.replicate 52 0))).take 7 = u8s (be4 number ++ [r8 (place : Int), r8 (all : Int), r8 (p.length : Int)]) := rfl
  have e3 : (u8s (be4 number ++ ([r8 (place : Int), r8 (all : Int), r8 (p.length : Int)] ++ List.replicate 52 0))).drop (7 + p.length) = u8s (List.replicate (52 - p.length) 0) := by
    rw [← List.drop_drop]
    have : (u8s (be4 number ++ ([r8 (place : Int), r8 (all : Int), r8 (p.length : Int)] ++ List.replicate 52 0))).drop 7 = u8s (List.replicate 52 0) := rfl
    rw [this, u8s, u8s, ← List.map_drop, List.drop_replicate]
  rw [e2, e3, textP]
  simp [u8s]
theorem sectorsP_len (number : Int) (b : List UInt8) : (sectorsP number b).length = piecesN b.length := by simp [sectorsP]
def pieceP (s : Sec) (number place : Int) : Option (List UInt8 × Int) :=
  match takeP (s.take 63) with
  | none => none
  | some t => if s.getD 63 0 ≠ 1 then none
    else if beI (t.take 4) ≠ number ∨ (((t.getD 4 0).toNat : Nat) : Int) ≠ place ∨ place ≥ (((t.getD 5 0).toNat : Nat) : Int) ∨ (((t.getD 6 0).toNat : Nat) : Int) > 52 then none
    else some ((t.drop 7).take (t.getD 6 0).toNat, (((t.getD 5 0).toNat : Nat) : Int))
theorem pieceP_sect {number : Int} {place all : Nat} {p : List UInt8} (h : p.length ≤ 52) (h0 : 0 ≤ number) (h1 : number < 4294967296) (hp : place < all) (ha : all ≤ 255) : pieceP (sectP number place all p) number place = some (p, (all : Int)) := by
  have e1 : (sectP number place all p).take 63 = putP (textP number place all p) := by
    rw [sectP, List.take_append_of_le_length (by rw [putP_len, textP_len h]; omega), List.take_of_length_le (by rw [putP_len, textP_len h]; omega)]
  have e2 : (sectP number place all p).getD 63 0 = 1 := by
    rw [sectP, List.getD_eq_getElem?_getD, List.getElem?_append_right (by rw [putP_len, textP_len h]; omega), putP_len, textP_len h]; rfl
  have n1 : (((r8 (place : Int)).toNat : Nat) : Int) = place := by rw [r8_nat]; omega
  have n2 : (((r8 (all : Int)).toNat : Nat) : Int) = all := by rw [r8_nat]; omega
  have n3 : (((r8 (p.length : Int)).toNat : Nat) : Int) = p.length := by rw [r8_nat]; omega
  unfold pieceP
  rw [e1, takeP_putP]
  simp only [e2, ne_eq, not_true_eq_false, if_false]
  have t4 : (textP number place all p).take 4 = be4 number := rfl
  have g4 : (textP number place all p).getD 4 0 = r8 (place : Int) := rfl
  have g5 : (textP number place all p).getD 5 0 = r8 (all : Int) := rfl
  have g6 : (textP number place all p).getD 6 0 = r8 (p.length : Int) := rfl
  have g7 : (textP number place all p).drop 7 = p ++ List.replicate (52 - p.length) 0 := rfl
  rw [t4, beI_be4 h0 h1, g4, g5, g6, g7, n1, n2, n3]
  rw [if_neg (by omega)]
  have n3' : (r8 (p.length : Int)).toNat = p.length := by omega
  rw [n3']
  simp
theorem pieceP_end {s : Sec} {number place : Int} (h : s.getD 63 0 ≠ 1) : pieceP s number place = none := by
  unfold pieceP
  split
  · rfl
  · rw [if_pos h]
theorem pieceP_facts {s b : Sec} {number place all : Int} (hs : s.length = 64) (h : pieceP s number place = some (b, all)) : place < all ∧ all ≤ 255 ∧ b.length ≤ 52 := by
  unfold pieceP at h
  split at h
  · cases h
  · rename_i t ht
    have hl := takeP_len ht
    split at h
    · cases h
    · split at h
      · cases h
      · rename_i h2
        injection h with h
        simp only [Prod.mk.injEq] at h
        obtain ⟨rfl, rfl⟩ := h
        have := (t.getD 5 0).toNat_lt
        rw [List.length_take]
        omega

theorem pieceP_none1 {s : Sec} {number place : Int} (h : takeP (s.take 63) = none) : pieceP s number place = none := by simp only [pieceP, h]
theorem pieceP_none2 {s t : Sec} {number place : Int} (h : takeP (s.take 63) = some t) (h2 : beI (t.take 4) ≠ number ∨ (((t.getD 4 0).toNat : Nat) : Int) ≠ place ∨ place ≥ (((t.getD 5 0).toNat : Nat) : Int) ∨ (((t.getD 6 0).toNat : Nat) : Int) > 52) : pieceP s number place = none := by
  simp only [pieceP, h]
  split
  · rfl
  · first | rfl | rw [if_pos h2]
theorem pieceP_some {s t : Sec} {number place : Int} (h : takeP (s.take 63) = some t) (h1 : s.getD 63 0 = 1) (h2 : ¬ (beI (t.take 4) ≠ number ∨ (((t.getD 4 0).toNat : Nat) : Int) ≠ place ∨ place ≥ (((t.getD 5 0).toNat : Nat) : Int) ∨ (((t.getD 6 0).toNat : Nat) : Int) > 52)) :
    pieceP s number place = some ((t.drop 7).take (t.getD 6 0).toNat, (((t.getD 5 0).toNat : Nat) : Int)) := by
  simp only [pieceP, h, h1, ne_eq, not_true_eq_false, if_false]
  rw [if_neg h2]

/-! ### Records -/
/-- The first k pieces of a record. -/
def moreP (rd : Int → Sec) (number at' all : Int) : Nat → Option (List UInt8)
  | 0 => some []
  | k + 1 => match moreP rd number at' all k with
    | none => none
    | some b => match pieceP (rd (at' + k)) number k with
      | none => none
      | some (m, same) => if same = all then some (b ++ m) else none
def standsP (rd : Int → Sec) (number at' : Int) : Option (List UInt8 × Int) :=
  match pieceP (rd at') number 0 with
  | none => none
  | some (_, all) => (moreP rd number at' all all.toNat).map fun b => (b, all)
theorem moreP_none {rd : Int → Sec} {number at' all : Int} {k : Nat} (h : moreP rd number at' all k = none) : ∀ m, k ≤ m → moreP rd number at' all m = none := by
  intro m hm
  induction hm with
  | refl => exact h
  | step _ ih => simp only [moreP, ih]
theorem moreP_stop {rd : Int → Sec} {number at' all : Int} {k : Nat} (h : pieceP (rd (at' + k)) number k = none ∨ ∃ m same, pieceP (rd (at' + k)) number k = some (m, same) ∧ same ≠ all) : ∀ m, k < m → moreP rd number at' all m = none := by
  refine fun m hm => moreP_none (k := k + 1) ?_ m hm
  simp only [moreP]
  cases moreP rd number at' all k with
  | none => rfl
  | some b =>
    rcases h with h | ⟨x, same, h, h2⟩
    · simp only [h]
    · simp only [h, if_neg h2]
theorem moreP_go {rd : Int → Sec} {number at' all : Int} {k : Nat} {b x : List UInt8} (h : moreP rd number at' all k = some b) (h2 : pieceP (rd (at' + k)) number k = some (x, all)) : moreP rd number at' all (k + 1) = some (b ++ x) := by
  simp only [moreP, h, h2, if_true]
theorem moreP_one {rd : Int → Sec} {number at' all : Int} {b : List UInt8} (h : pieceP (rd at') number 0 = some (b, all)) : moreP rd number at' all 1 = some b := by
  have h0 : moreP rd number at' all 0 = some [] := rfl
  have := moreP_go (rd := rd) (number := number) (at' := at') (all := all) (k := 0) h0 (x := b) (by simpa using h)
  simpa using this
theorem standsP_none1 {rd : Int → Sec} {number at' : Int} (h : pieceP (rd at') number 0 = none) : standsP rd number at' = none := by simp only [standsP, h]
theorem standsP_none2 {rd : Int → Sec} {number at' all : Int} {b : List UInt8} (h : pieceP (rd at') number 0 = some (b, all)) (h2 : moreP rd number at' all all.toNat = none) : standsP rd number at' = none := by simp only [standsP, h, h2, Option.map_none]
theorem standsP_some {rd : Int → Sec} {number at' all : Int} {b c : List UInt8} (h : pieceP (rd at') number 0 = some (b, all)) (h2 : moreP rd number at' all all.toNat = some c) : standsP rd number at' = some (c, all) := by simp only [standsP, h, h2, Option.map_some]
def scanP (rd : Int → Sec) : Nat → Int → Int → List (List UInt8) × Int
  | 0, _, used => ([], used)
  | f + 1, cnt, used => match standsP rd (cnt + 1) used with
    | none => ([], used)
    | some (b, all) => let r := scanP rd f (cnt + 1) (used + all); (b :: r.1, r.2)
def wipeP : Nat → Int → DS → Int × DS
  | 0, _, D => (0, D)
  | n + 1, at', D => if D.read at' = zs then wipeP n (at' + 1) D else if (D.write at' []).1 = 0 then wipeP n (at' + 1) (D.write at' []).2 else D.write at' []
structure OpenR where
  err : Int
  recs : List (List UInt8)
  used : Int
  D : DS
def fuel0 : Nat := 2049
theorem fuel0_eq : fuel0 = 2049 := rfl
def openP (D : DS) : OpenR :=
  let r := scanP D.read fuel0 0 0
  let w := wipeP (2048 - r.2).toNat r.2 D
  if w.1 ≠ 0 then ⟨w.1, [], 0, w.2⟩ else if w.2.sync.1 ≠ 0 then ⟨w.2.sync.1, [], 0, w.2.sync.2⟩ else ⟨0, r.1, r.2, w.2.sync.2⟩
def In (s : Secs) : Prop := ∀ p ∈ s, 0 ≤ p.1 ∧ p.1 < 2048
def DS.In (D : DS) : Prop := Wal.In D.s ∧ Wal.In D.ws
end Wal
end

section
namespace Go.Proofs.YtfceaphohlbnbaaGreat

open Go Leg Codec Api Dsk Wal

set_option maxRecDepth 100000

theorem of_does (x : Value) (ps : List (List UInt8)) :
    Does Tryz.prog 131 #[x] (IsBB x ps) [] (Ret (fun v H => v = .int .u32 (crcOf ps.flatten) ∧ H = [])) := by
 refine Does.body (vs := [x]) (n := 39) Tryz.func131 rfl rfl rfl (fun w0 F hF => ?_)
 refine sr fun _ J1 => ?_
 refine sg' ?_
 refine nx J1 ?_
 refine sr fun _ J2 => ?_
 refine sg' ?_
 refine nx J2 ?_
 refine TC.seq fun _ J3 => ?_
 refine sr fun _ J4 => ?_
 refine mv ?_
 refine tp (PV.lenV rfl Tryz.underlying97 rfl hF.len) ?_
 refine mv ?_
 refine nx J4 ?_
 refine TC.block ?_
 refine TC.loop (α := (Nat)) (fun k => k ≤ ps.length) (fun k => [(2, (.int .u32 0)), (3, (.int .u32 (crcRun 4294967295 (ps.take k).flatten))), (8, x), (9, (.int .i64 (((ps.length : Nat) : Int)))), (10, (.int .i64 (((k : Nat) : Int))))]) (fun k => []) (fun k => ps.length - k) 0
     (Nat.zero_le _) (Sub.r (Sub.cons rfl (by congr 1) (Sub.r (Sub.r (Sub.cons rfl (by congr 1) (Sub.nil _))))))
     (fun _ s => s) (fun k hinv => ?_)
 obtain hk := hinv
 refine sr fun _ J5 => ?_
 refine tp (PV.lss rfl rfl rfl) ?_
 refine TL.dec (fun h11 => ?_) (fun h11 => ?_)
 obtain ⟨b_a, off_a, cap_a, cs_a, T_a, z_a, us_a, hv_a, hc_a, hb_a, hl_a, hs_a, hE_a⟩ := IsL.at hF (j := k) (by omega)
 obtain ⟨u_a, rfl, hu_a⟩ := hE_a
 refine nx J5 ?_
 refine TC.seq fun _ J6 => ?_
 refine TC.yes rfl ?_
 refine TC.skip ?_
 refine TE.next J6 ?_
 refine TC.seq fun _ J7 => ?_
 refine TC.block ?_
 refine sr fun _ J8 => ?_
 refine tp (PV.indexSlV (r := off_a + k) hv_a rfl Tryz.underlying97 sz106 rfl rfl (by omega) (by omega) (by omega)) ?_
 refine tp (PV.load1X (v := u_a) rfl Tryz.underlying106 rfl rfl (RdX.frm hb_a (fun _ h => Frm.of h)) (by have := stretch_get (j := 0) hs_a rfl; simpa using this)) ?_
 refine sg' ?_
 refine nx J8 ?_
 refine sr fun _ J9 => ?_
 refine mv ?_
 refine tp (PV.lenV rfl Tryz.underlying106 rfl hu_a.len) ?_
 refine mv ?_
 refine nx J9 ?_
 refine TC.block ?_
 refine TC.loop (α := (Nat)) (fun j => j ≤ ps[k].length) (fun j => [(2, (.int .u32 0)), (3, (.int .u32 (crcRun (crcRun 4294967295 (ps.take k).flatten) (ps[k].take j)))), (8, x), (9, (.int .i64 (((ps.length : Nat) : Int)))), (10, (.int .i64 (((k : Nat) : Int)))), (14, u_a), (15, (.int .i64 (((ps[k].length : Nat) : Int)))), (16, (.int .i64 (((j : Nat) : Int))))]) (fun j => []) (fun j => ps[k].length - j) 0
     (Nat.zero_le _) (Sub.r (Sub.cons rfl (by congr 1) (Sub.r (Sub.r (Sub.r (Sub.r (Sub.r (Sub.cons rfl (by congr 1) (Sub.nil _)))))))))
     (fun _ s => s) (fun j hinv => ?_)
 obtain hj := hinv
 refine sr fun _ J10 => ?_
 refine tp (PV.lss rfl rfl rfl) ?_
 refine TL.dec (fun h17 => ?_) (fun h17 => ?_)
 obtain ⟨b_b, off_b, cap_b, cs_b, T_b, z_b, hv_b, hb_b, hcs_b, hcp_b⟩ := IsW.at hu_a (j := j) (by omega)
 have hlt_b := IsW.lt hu_a
 refine nx J10 ?_
 refine TC.seq fun _ J11 => ?_
 refine TC.yes rfl ?_
 refine TC.skip ?_
 refine TE.next J11 ?_
 refine TC.seq fun _ J12 => ?_
 refine TC.block ?_
 refine sr fun _ J13 => ?_
 refine tp (PV.indexSlV (r := off_b + j) hv_b rfl Tryz.underlying106 sz5 rfl rfl (by omega) (by omega) (by omega)) ?_
 refine tp (PV.load1X (v := (.int .u8 (((((ps[k]).getD j 0).toNat : Nat) : Int)))) rfl Tryz.underlying5 rfl rfl (RdX.frm hb_b (fun _ h => Frm.of h)) (hcs_b j (by omega))) ?_
 refine sg' ?_
 refine nx J13 ?_
 refine sr fun _ J14 => ?_
 refine mv ?_
 refine mv ?_
 refine tp (PV.convI (r := ((((ps[k]).getD j 0).toNat : Nat) : Int)) rfl Tryz.underlying5 Tryz.underlying207 rfl (wrap_u32 (by omega) (by have := (ps[k].getD j 0).toNat_lt; omega))) ?_
 refine tp (PV.xor (r := xorI .u32 (crcRun (crcRun 4294967295 (ps.take k).flatten) (ps[k].take j)) (((((ps[k]).getD j 0).toNat : Nat) : Int))) rfl rfl rfl rfl) ?_
 refine sg' ?_
 refine nx J14 ?_
 refine sr fun _ J15 => ?_
 refine mv ?_
 refine nx J15 ?_
 refine TC.block ?_
 refine TC.loop (α := (Nat)) (fun i => i ≤ 8) (fun i => [(2, (.int .u32 0)), (3, (.int .u32 (crcBits (xorI .u32 (crcRun (crcRun 4294967295 (ps.take k).flatten) (ps[k].take j)) ((((ps[k]).getD j 0).toNat : Nat) : Int)) i))), (8, x), (9, (.int .i64 (((ps.length : Nat) : Int)))), (10, (.int .i64 (((k : Nat) : Int)))), (14, u_a), (15, (.int .i64 (((ps[k].length : Nat) : Int)))), (16, (.int .i64 (((j : Nat) : Int)))), (24, (.int .i64 (((i : Nat) : Int))))]) (fun i => []) (fun i => 8 - i) 0
     (Nat.zero_le _) (Sub.r (Sub.cons rfl (by congr 1) (Sub.r (Sub.r (Sub.r (Sub.r (Sub.r (Sub.r (Sub.cons rfl (by congr 1) (Sub.nil _))))))))))
     (fun _ s => s) (fun i hinv => ?_)
 obtain hi := hinv
 refine sr fun _ J16 => ?_
 refine tp (PV.lss rfl rfl rfl) ?_
 refine TL.dec (fun h25 => ?_) (fun h25 => ?_)
 refine nx J16 ?_
 refine TC.seq fun _ J17 => ?_
 refine TC.yes rfl ?_
 refine TC.skip ?_
 refine TE.next J17 ?_
 refine TC.seq fun _ J18 => ?_
 refine TC.block ?_
 refine sr fun _ J19 => ?_
 refine mv ?_
 refine tp (PV.and (r := andI .u32 (crcBits (xorI .u32 (crcRun (crcRun 4294967295 (ps.take k).flatten) (ps[k].take j)) ((((ps[k]).getD j 0).toNat : Nat) : Int)) i) 1) rfl rfl rfl rfl) ?_
 refine tp (PV.eql rfl rfl rfl) ?_
 refine TL.dec (fun h28 => ?_) (fun h28 => ?_)
 refine nx J19 ?_
 refine TC.yes rfl ?_
 refine TC.region ?_
 refine mv ?_
 refine tp (PV.shr (r := (crcBits (xorI .u32 (crcRun (crcRun 4294967295 (ps.take k).flatten) (ps[k].take j)) ((((ps[k]).getD j 0).toNat : Nat) : Int)) i).fdiv 2) rfl rfl rfl (by omega) rfl) ?_
 refine tp (PV.xor (r := xorI .u32 ((crcBits (xorI .u32 (crcRun (crcRun 4294967295 (ps.take k).flatten) (ps[k].take j)) ((((ps[k]).getD j 0).toNat : Nat) : Int)) i).fdiv 2) 3988292384) rfl rfl rfl rfl) ?_
 refine sg' ?_
 refine TL.nil ?_
 refine TE.blockEnd ?_
 refine TE.next J18 ?_
 refine TC.region ?_
 refine tp (PV.add rfl rfl rfl (wrap_i64 (by omega) (by omega))) ?_
 refine mv ?_
 refine TL.nil ?_
 exact TE.round ((i + 1) : (Nat)) (by omega) (by show 8 - (i + 1) < 8 - i; omega)
   (Sub.r (Sub.cons rfl (congrArg (Value.int .u32) (by rw [crcBits, crcBit, if_pos h28])) (Sub.r (Sub.r (Sub.r (Sub.r (Sub.r (Sub.r (Sub.cons rfl (by simp) (Sub.nil _))))))))))
   (fun _ s => s)
 refine nx J19 ?_
 refine TC.no rfl ?_
 refine TC.region ?_
 refine mv ?_
 refine tp (PV.shr (r := (crcBits (xorI .u32 (crcRun (crcRun 4294967295 (ps.take k).flatten) (ps[k].take j)) ((((ps[k]).getD j 0).toNat : Nat) : Int)) i).fdiv 2) rfl rfl rfl (by omega) rfl) ?_
 refine sg' ?_
 refine TL.nil ?_
 refine TE.blockEnd ?_
 refine TE.next J18 ?_
 refine TC.region ?_
 refine tp (PV.add rfl rfl rfl (wrap_i64 (by omega) (by omega))) ?_
 refine mv ?_
 refine TL.nil ?_
 exact TE.round ((i + 1) : (Nat)) (by omega) (by show 8 - (i + 1) < 8 - i; omega)
   (Sub.r (Sub.cons rfl (congrArg (Value.int .u32) (by rw [crcBits, crcBit, if_neg h28])) (Sub.r (Sub.r (Sub.r (Sub.r (Sub.r (Sub.r (Sub.cons rfl (by simp) (Sub.nil _))))))))))
   (fun _ s => s)
 refine nx J16 ?_
 refine TC.seq fun _ J20 => ?_
 refine TC.no rfl ?_
 refine TC.exit ?_
 refine TE.pass ?_
 refine TE.pass ?_
 refine TE.hit ?_
 refine TE.blockEnd ?_
 refine TE.next J12 ?_
 refine TC.region ?_
 refine tp (PV.add rfl rfl rfl (wrap_i64 (by omega) (by omega))) ?_
 refine mv ?_
 refine TL.nil ?_
 exact TE.round ((j + 1) : (Nat)) (by omega) (by show ps[k].length - (j + 1) < ps[k].length - j; omega)
   (Sub.r (Sub.cons rfl (congrArg (Value.int .u32) (by obtain rfl : i = 8 := (by omega); rw [crcRun_take (by omega)]; rfl)) (Sub.r (Sub.r (Sub.r (Sub.r (Sub.r (Sub.cons rfl (by simp) (Sub.nil _)))))))))
   (fun _ s => s)
 refine nx J10 ?_
 refine TC.seq fun _ J21 => ?_
 refine TC.no rfl ?_
 refine TC.exit ?_
 refine TE.pass ?_
 refine TE.pass ?_
 refine TE.hit ?_
 refine TE.blockEnd ?_
 refine TE.next J7 ?_
 refine TC.region ?_
 refine tp (PV.add rfl rfl rfl (wrap_i64 (by omega) (by omega))) ?_
 refine mv ?_
 refine TL.nil ?_
 exact TE.round ((k + 1) : (Nat)) (by omega) (by show ps.length - (k + 1) < ps.length - k; omega)
   (Sub.r (Sub.cons rfl (congrArg (Value.int .u32) (by rw [show j = ps[k].length by omega, List.take_length, crcRun_flat (by omega)])) (Sub.r (Sub.r (Sub.cons rfl (by simp) (Sub.nil _))))))
   (fun _ s => s)
 refine nx J5 ?_
 refine TC.seq fun _ J22 => ?_
 refine TC.no rfl ?_
 refine TC.exit ?_
 refine TE.pass ?_
 refine TE.pass ?_
 refine TE.hit ?_
 refine TE.next J3 ?_
 refine sr fun _ J23 => ?_
 refine mv ?_
 refine tp (PV.com (r := xorI .u32 4294967295 (crcRun 4294967295 (ps.take k).flatten)) rfl rfl rfl) ?_
 refine sg' ?_
 refine nx J23 ?_
 refine TC.ret ?_
 refine TE.weak (Sub.refl _) (fun _ s => sep_keep [] rfl s) ?_
 refine TE.ret1 rfl rfl ?_
 obtain rfl : k = ps.length := by omega
 rw [List.take_length]
 exact ⟨rfl, rfl⟩
theorem sumPut_does (x : Value) (bs : List UInt8) (hb : bs.length ≤ 1000000000) :
    Does Tryz.prog 132 #[x] (IsW x bs) [] (Ret (fun v H => H = [ownB v (putP bs) 5])) := by
 refine Does.body (vs := [x]) (n := 29) Tryz.func132 rfl rfl rfl (fun w0 F hF => ?_)
 refine sr fun _ J1 => ?_
 refine sg' ?_
 refine nx J1 ?_
 refine sr fun _ J2 => ?_
 refine mv ?_
 refine TL.buildSlice (cells := #[x]) (Want.plain rfl) rfl rfl rfl Tryz.underlying97 in106 rfl rfl rfl (fill_one hF.one (by simp)) (fun b6 => ?_)
 change TL _ _ _ _ _ _ _ _ _ [blkA b6 [x] 106]
 refine TL.callR (A := []) (Want.plain rfl) rfl rfl rfl nm131 rfl (of_does (.slice (some ⟨b6, 0, none⟩) (1) (1)) [bs]) (fun _ s => s) (isBB_one hF 0 rfl rfl) (fun vR HR hR => ?_)
 obtain ⟨rfl, rfl⟩ := hR
 rw [show [bs].flatten = bs by simp]
 change TL _ _ _ _ _ _ _ _ _ [blkA b6 [x] 106]
 refine sg' ?_
 refine nx J2 ?_
 refine sr fun _ J3 => ?_
 refine mv ?_
 refine tp (PV.lenV rfl Tryz.underlying106 rfl hF.len) ?_
 refine tp (PV.add rfl rfl rfl (wrap_i64 (by omega) (by omega))) ?_
 refine TL.makeB (0) (bs.length + 4) (Want.plain rfl) rfl rfl rfl Tryz.underlying106 in5 rfl rfl rfl (by omega) (by omega) (by omega) (fun b11 => ?_)
 refine TL.mono (H' := [ownB (.slice (some ⟨b11, 0, none⟩) 0 (bs.length + 4)) ([]) 5, blkA b6 [x] 106]) (fun _ s => sep_own 0 rfl rfl (by omega) (by simp only [maxLen]; omega) (by simp [u8s]) rfl s) ?_
 refine sg' ?_
 refine nx J3 ?_
 refine sr fun _ J4 => ?_
 refine mv ?_
 refine mv ?_
 refine TL.append (k := 0) (news := u8s (bs)) (nn' := (bs : List UInt8).length) (xs' := u8s (bs)) (Want.plain rfl) rfl rfl rfl Tryz.underlying106 in5 rfl rfl rfl rfl rfl rfl (fun _ _ => hF.src (fun _ h => Frm.of h)) (u8s_one _) (by simp only [maxLen, List.length_nil]; omega) (by simp only [List.length_nil]; omega) (by simp) (List.nil_append _) (fun v14 ov14 => ?_)
 change TL _ _ _ _ _ _ _ _ _ [ownB v14 (bs) 5, blkA b6 [x] 106]
 refine sg' ?_
 refine nx J4 ?_
 refine sr fun _ J5 => ?_
 refine mv ?_
 refine mv ?_
 refine tp (PV.convI (r := (((r8 (crcOf bs)).toNat : Nat) : Int)) rfl Tryz.underlying207 Tryz.underlying5 rfl (r8_wrap _)) ?_
 refine mv ?_
 refine tp (PV.shr (r := (crcOf bs).fdiv 256) rfl rfl rfl (by omega) rfl) ?_
 refine tp (PV.convI (r := (((r8 ((crcOf bs).fdiv 256)).toNat : Nat) : Int)) rfl Tryz.underlying207 Tryz.underlying5 rfl (r8_wrap _)) ?_
 refine mv ?_
 refine tp (PV.shr (r := (crcOf bs).fdiv 65536) rfl rfl rfl (by omega) rfl) ?_
 refine tp (PV.convI (r := (((r8 ((crcOf bs).fdiv 65536)).toNat : Nat) : Int)) rfl Tryz.underlying207 Tryz.underlying5 rfl (r8_wrap _)) ?_
 refine mv ?_
 refine tp (PV.shr (r := (crcOf bs).fdiv 16777216) rfl rfl rfl (by omega) rfl) ?_
 refine tp (PV.convI (r := (((r8 ((crcOf bs).fdiv 16777216)).toNat : Nat) : Int)) rfl Tryz.underlying207 Tryz.underlying5 rfl (r8_wrap _)) ?_
 refine TL.buildSlice (cells := #[(.int .u8 ((((r8 (crcOf bs)).toNat : Nat) : Int))), (.int .u8 ((((r8 ((crcOf bs).fdiv 256)).toNat : Nat) : Int))), (.int .u8 ((((r8 ((crcOf bs).fdiv 65536)).toNat : Nat) : Int))), (.int .u8 ((((r8 ((crcOf bs).fdiv 16777216)).toNat : Nat) : Int)))]) (Want.plain rfl) rfl rfl rfl Tryz.underlying106 in5 rfl rfl rfl (by as_aux_lemma => kernel_rfl) (fun b27 => ?_)
 change TL _ _ _ _ _ _ _ _ _ [blkA b27 [(.int .u8 ((((r8 (crcOf bs)).toNat : Nat) : Int))), (.int .u8 ((((r8 ((crcOf bs).fdiv 256)).toNat : Nat) : Int))), (.int .u8 ((((r8 ((crcOf bs).fdiv 65536)).toNat : Nat) : Int))), (.int .u8 ((((r8 ((crcOf bs).fdiv 16777216)).toNat : Nat) : Int)))] 5, ownB v14 (bs) 5, blkA b6 [x] 106]
 refine TL.append (k := 1) (news := u8s ([(r8 (crcOf bs)), (r8 ((crcOf bs).fdiv 256)), (r8 ((crcOf bs).fdiv 65536)), (r8 ((crcOf bs).fdiv 16777216))])) (nn' := (bs ++ [(r8 (crcOf bs)), (r8 ((crcOf bs).fdiv 256)), (r8 ((crcOf bs).fdiv 65536)), (r8 ((crcOf bs).fdiv 16777216))] : List UInt8).length) (xs' := u8s (bs ++ [(r8 (crcOf bs)), (r8 ((crcOf bs).fdiv 256)), (r8 ((crcOf bs).fdiv 65536)), (r8 ((crcOf bs).fdiv 16777216))])) (Want.plain rfl) rfl rfl rfl Tryz.underlying106 in5 rfl rfl rfl rfl rfl rfl (fun _ _ => Src.rd rfl (Rd.own 0 rfl rfl) rfl) (u8s_one [(r8 (crcOf bs)), (r8 ((crcOf bs).fdiv 256)), (r8 ((crcOf bs).fdiv 65536)), (r8 ((crcOf bs).fdiv 16777216))]) (by simp only [maxLen]; omega) (by omega) (by simp) (u8s_append _ _).symm (fun v28 ov28 => ?_)
 change TL _ _ _ _ _ _ _ _ _ [blkA b27 [(.int .u8 ((((r8 (crcOf bs)).toNat : Nat) : Int))), (.int .u8 ((((r8 ((crcOf bs).fdiv 256)).toNat : Nat) : Int))), (.int .u8 ((((r8 ((crcOf bs).fdiv 65536)).toNat : Nat) : Int))), (.int .u8 ((((r8 ((crcOf bs).fdiv 16777216)).toNat : Nat) : Int)))] 5, ownB v28 (bs ++ [(r8 (crcOf bs)), (r8 ((crcOf bs).fdiv 256)), (r8 ((crcOf bs).fdiv 65536)), (r8 ((crcOf bs).fdiv 16777216))]) 5, blkA b6 [x] 106]
 refine sg' ?_
 refine nx J5 ?_
 refine TC.ret ?_
 refine TE.weak (Sub.refl _) (fun _ s => sep_keep [1] rfl s) ?_
 refine TE.ret1 rfl rfl ?_
 exact rfl
theorem take_form (a : Option Addr) (c : Nat) (bs : List UInt8) (hc : bs.length ≤ c) (hb : bs.length ≤ 1000000000) :
    Does Tryz.prog 119 #[(.slice a bs.length c)] (IsW (.slice a bs.length c) bs) [] (Ret (fun v H => (takeP bs = none ∧ v = .tuple #[.slice none 0 0, .bool false] ∧ H = []) ∨ ∃ t u, takeP bs = some t ∧ v = .tuple #[u, .bool true] ∧ H = [ownB u t 5])) := by
 refine Does.body (vs := [(.slice a bs.length c)]) (n := 50) Tryz.func119 rfl rfl rfl (fun w0 F hF => ?_)
 refine sr fun _ J1 => ?_
 refine sg' ?_
 refine sg' ?_
 refine nx J1 ?_
 refine TC.seq fun _ J2 => ?_
 refine sr fun _ J3 => ?_
 refine mv ?_
 refine tp (PV.lenV rfl Tryz.underlying106 rfl ⟨_, _, rfl⟩) ?_
 refine tp (PV.lss rfl rfl rfl) ?_
 refine TL.dec (fun h9 => ?_) (fun h9 => ?_)
 refine nx J3 ?_
 refine TC.yes rfl ?_
 refine sr fun _ J4 => ?_
 refine sg' ?_
 refine sg' ?_
 refine nx J4 ?_
 refine TC.ret ?_
 refine TE.passRet ?_
 refine TE.weak (Sub.refl _) (fun _ s => sep_keep [] rfl s) ?_
 refine TE.ret2 rfl rfl rfl ?_
 exact .inl ⟨by rw [takeP, if_pos (by omega)], rfl, rfl⟩
 have hT : IsW (cutLH (.slice a bs.length c) 0 (bs.length - 4)) (bs.take (bs.length - 4)) F := by have := hF.cut (lo := 0) (hi := bs.length - 4) (by omega) (by omega); simpa using this
 have hU : IsW (cutLH (.slice a bs.length c) (bs.length - 4) bs.length) (bs.drop (bs.length - 4)) F := by have := hF.cut (lo := bs.length - 4) (hi := bs.length) (by omega) (by omega); rwa [List.take_length] at this
 have hq : (bs.drop (bs.length - 4)).length = 4 := by rw [List.length_drop]; omega
 obtain ⟨b_b, off_b, cap_b, cs_b, T_b, z_b, hv_b, hb_b, hcs_b, hcp_b⟩ := IsW.at hU (j := 0) (by omega)
 have hlt_b := IsW.lt hU
 refine nx J3 ?_
 refine TC.no rfl ?_
 refine TC.skip ?_
 refine TE.next J2 ?_
 refine TC.seq fun _ J5 => ?_
 refine TC.draw (fun w => Frm F w ∧ True) mixedD rfl (fun _ s => ⟨Frm.of s, trivial⟩) ?_
 refine ta 0 rfl (PV.move rfl rfl) ?_
 refine ta 1 rfl (PV.move rfl rfl) ?_
 refine ta 2 rfl (PV.lenV rfl Tryz.underlying106 rfl ⟨_, _, rfl⟩) ?_
 refine ta 3 rfl (PV.sub (r := (((bs.length - 4 : Nat) : Nat) : Int)) rfl rfl rfl (by rw [show (((bs.length : Nat) : Int) - 4) = ((bs.length - 4 : Nat) : Int) by omega]; exact wrap_i64 (by omega) (by omega))) ?_
 refine ta 4 rfl (PV.sliceH (hi := bs.length - 4) rfl Tryz.underlying106 sz5 rfl rfl rfl (by omega)) ?_
 refine ta 5 rfl (PV.move rfl rfl) ?_
 refine ta 6 rfl (PV.move rfl rfl) ?_
 refine ta 7 rfl (PV.lenV rfl Tryz.underlying106 rfl ⟨_, _, rfl⟩) ?_
 refine ta 8 rfl (PV.sub (r := (((bs.length - 4 : Nat) : Nat) : Int)) rfl rfl rfl (by rw [show (((bs.length : Nat) : Int) - 4) = ((bs.length - 4 : Nat) : Int) by omega]; exact wrap_i64 (by omega) (by omega))) ?_
 refine ta 9 rfl (PV.sliceL (lo := bs.length - 4) rfl Tryz.underlying106 sz5 rfl rfl rfl (by omega)) ?_
 refine ta 10 rfl (PV.assign rfl rfl) ?_
 refine ta 11 rfl (PV.assign rfl rfl) ?_
 refine TD.done (by kernel_rfl) ?_
 refine TE.next J5 ?_
 refine TC.seq fun _ J6 => ?_
 refine TC.draw (fun w => Frm F w ∧ True) mixedD rfl (fun _ s => ⟨Frm.of s, trivial⟩) ?_
 refine ta 0 rfl (PV.move rfl rfl) ?_
 refine ta 1 rfl (PV.indexSlV (r := off_b) hv_b rfl Tryz.underlying106 sz5 rfl rfl (by omega) (by omega) (by omega)) ?_
 refine ta 2 rfl (PV.load1X (v := (.int .u8 ((((((bs.drop (bs.length - 4))).getD 0 0).toNat : Nat) : Int)))) rfl Tryz.underlying5 rfl rfl (RdX.frm hb_b (fun _ h => h.1)) (hcs_b 0 (by omega))) ?_
 refine ta 3 rfl (PV.convI (r := (((((bs.drop (bs.length - 4))).getD 0 0).toNat : Nat) : Int)) rfl Tryz.underlying5 Tryz.underlying207 rfl (wrap_u32 (by omega) (by have := UInt8.toNat_lt (n := (bs.drop (bs.length - 4)).getD 0 0); omega))) ?_
 refine ta 4 rfl (PV.move rfl rfl) ?_
 refine ta 5 rfl (PV.indexSlV (r := off_b + 1) hv_b rfl Tryz.underlying106 sz5 rfl rfl (by omega) (by omega) (by omega)) ?_
 refine ta 6 rfl (PV.load1X (v := (.int .u8 ((((((bs.drop (bs.length - 4))).getD 1 0).toNat : Nat) : Int)))) rfl Tryz.underlying5 rfl rfl (RdX.frm hb_b (fun _ h => h.1)) (hcs_b 1 (by omega))) ?_
 refine ta 7 rfl (PV.convI (r := (((((bs.drop (bs.length - 4))).getD 1 0).toNat : Nat) : Int)) rfl Tryz.underlying5 Tryz.underlying207 rfl (wrap_u32 (by omega) (by have := UInt8.toNat_lt (n := (bs.drop (bs.length - 4)).getD 1 0); omega))) ?_
 refine ta 8 rfl (PV.shl (r := IntKind.u32.wrap ((((((bs.drop (bs.length - 4))).getD 1 0).toNat : Nat) : Int) * 2 ^ 8)) rfl rfl rfl (by omega) rfl) ?_
 refine ta 9 rfl (PV.or (r := orI .u32 (((((bs.drop (bs.length - 4))).getD 0 0).toNat : Nat) : Int) (IntKind.u32.wrap ((((((bs.drop (bs.length - 4))).getD 1 0).toNat : Nat) : Int) * 2 ^ 8))) rfl rfl rfl rfl) ?_
 refine ta 10 rfl (PV.move rfl rfl) ?_
 refine ta 11 rfl (PV.indexSlV (r := off_b + 2) hv_b rfl Tryz.underlying106 sz5 rfl rfl (by omega) (by omega) (by omega)) ?_
 refine ta 12 rfl (PV.load1X (v := (.int .u8 ((((((bs.drop (bs.length - 4))).getD 2 0).toNat : Nat) : Int)))) rfl Tryz.underlying5 rfl rfl (RdX.frm hb_b (fun _ h => h.1)) (hcs_b 2 (by omega))) ?_
 refine ta 13 rfl (PV.convI (r := (((((bs.drop (bs.length - 4))).getD 2 0).toNat : Nat) : Int)) rfl Tryz.underlying5 Tryz.underlying207 rfl (wrap_u32 (by omega) (by have := UInt8.toNat_lt (n := (bs.drop (bs.length - 4)).getD 2 0); omega))) ?_
 refine ta 14 rfl (PV.shl (r := IntKind.u32.wrap ((((((bs.drop (bs.length - 4))).getD 2 0).toNat : Nat) : Int) * 2 ^ 16)) rfl rfl rfl (by omega) rfl) ?_
 refine ta 15 rfl (PV.or (r := orI .u32 (orI .u32 (((((bs.drop (bs.length - 4))).getD 0 0).toNat : Nat) : Int) (IntKind.u32.wrap ((((((bs.drop (bs.length - 4))).getD 1 0).toNat : Nat) : Int) * 2 ^ 8))) (IntKind.u32.wrap ((((((bs.drop (bs.length - 4))).getD 2 0).toNat : Nat) : Int) * 2 ^ 16))) rfl rfl rfl rfl) ?_
 refine ta 16 rfl (PV.move rfl rfl) ?_
 refine ta 17 rfl (PV.indexSlV (r := off_b + 3) hv_b rfl Tryz.underlying106 sz5 rfl rfl (by omega) (by omega) (by omega)) ?_
 refine ta 18 rfl (PV.load1X (v := (.int .u8 ((((((bs.drop (bs.length - 4))).getD 3 0).toNat : Nat) : Int)))) rfl Tryz.underlying5 rfl rfl (RdX.frm hb_b (fun _ h => h.1)) (hcs_b 3 (by omega))) ?_
 refine ta 19 rfl (PV.convI (r := (((((bs.drop (bs.length - 4))).getD 3 0).toNat : Nat) : Int)) rfl Tryz.underlying5 Tryz.underlying207 rfl (wrap_u32 (by omega) (by have := UInt8.toNat_lt (n := (bs.drop (bs.length - 4)).getD 3 0); omega))) ?_
 refine ta 20 rfl (PV.shl (r := IntKind.u32.wrap ((((((bs.drop (bs.length - 4))).getD 3 0).toNat : Nat) : Int) * 2 ^ 24)) rfl rfl rfl (by omega) rfl) ?_
 refine ta 21 rfl (PV.or (r := le32 ((bs.drop (bs.length - 4)).getD 0 0) ((bs.drop (bs.length - 4)).getD 1 0) ((bs.drop (bs.length - 4)).getD 2 0) ((bs.drop (bs.length - 4)).getD 3 0)) rfl rfl rfl rfl) ?_
 refine ta 22 rfl (PV.assign rfl rfl) ?_
 refine TD.done (by kernel_rfl) ?_
 refine TE.next J6 ?_
 refine TC.seq fun _ J7 => ?_
 refine sr fun _ J8 => ?_
 refine mv ?_
 refine TL.buildSlice (cells := #[(cutLH (.slice a bs.length c) 0 (bs.length - 4))]) (Want.plain rfl) rfl rfl rfl Tryz.underlying97 in106 rfl rfl rfl (fill_one hT.one (by simp)) (fun b43 => ?_)
 change TL _ _ _ _ _ _ _ _ _ [blkA b43 [(cutLH (.slice a bs.length c) 0 (bs.length - 4))] 106]
 refine TL.callR (A := []) (Want.plain rfl) rfl rfl rfl nm131 rfl (of_does (.slice (some ⟨b43, 0, none⟩) (1) (1)) [(bs.take (bs.length - 4))]) (fun _ s => s) (isBB_one hT 0 rfl rfl) (fun vR HR hR => ?_)
 obtain ⟨rfl, rfl⟩ := hR
 rw [show [(bs.take (bs.length - 4))].flatten = (bs.take (bs.length - 4)) by simp]
 change TL _ _ _ _ _ _ _ _ _ [blkA b43 [(cutLH (.slice a bs.length c) 0 (bs.length - 4))] 106]
 refine mv ?_
 refine tp (PV.neq rfl rfl rfl) ?_
 refine TL.dec (fun h46 => ?_) (fun h46 => ?_)
 refine nx J8 ?_
 refine TC.yes rfl ?_
 refine sr fun _ J9 => ?_
 refine sg' ?_
 refine sg' ?_
 refine nx J9 ?_
 refine TC.ret ?_
 refine TE.passRet ?_
 refine TE.weak (Sub.refl _) (fun _ s => sep_keep [] rfl s) ?_
 refine TE.ret2 rfl rfl rfl ?_
 exact .inl ⟨by rw [takeP, if_neg (by omega), if_neg h46], rfl, rfl⟩
 refine nx J8 ?_
 refine TC.no rfl ?_
 refine TC.skip ?_
 refine TE.next J7 ?_
 refine sr fun _ J10 => ?_
 refine TL.buildSlice0 (Want.plain rfl) rfl rfl rfl Tryz.underlying106 sz5 (fun v47 => ?_)
 change TL _ _ _ _ _ _ _ _ _ [ownB v47 ([]) 5, blkA b43 [(cutLH (.slice a bs.length c) 0 (bs.length - 4))] 106]
 refine mv ?_
 refine TL.append (k := 0) (news := u8s ((bs.take (bs.length - 4)))) (nn' := ((bs.take (bs.length - 4)) : List UInt8).length) (xs' := u8s ((bs.take (bs.length - 4)))) (Want.plain rfl) rfl rfl rfl Tryz.underlying106 in5 rfl rfl rfl rfl rfl rfl (fun _ _ => hT.src (fun _ h => Frm.of h)) (u8s_one _) (by simp only [maxLen, List.length_nil, List.length_take]; omega) (by simp only [List.length_nil, List.length_take]; omega) (by simp) (List.nil_append _) (fun v49 ov49 => ?_)
 change TL _ _ _ _ _ _ _ _ _ [ownB v49 ((bs.take (bs.length - 4))) 5, blkA b43 [(cutLH (.slice a bs.length c) 0 (bs.length - 4))] 106]
 refine sg' ?_
 refine sg' ?_
 refine nx J10 ?_
 refine TC.ret ?_
 refine TE.weak (Sub.refl _) (fun _ s => sep_keep [0] rfl s) ?_
 refine TE.ret2 rfl rfl rfl ?_
 exact .inr ⟨_, _, by rw [takeP, if_neg (by omega), if_pos (by simpa using h46)], rfl, rfl⟩
theorem take_does (x : Value) (bs : List UInt8) (hb : bs.length ≤ 1000000000) : Does Tryz.prog 119 #[x] (IsW x bs) [] (Ret (fun v H => (takeP bs = none ∧ v = .tuple #[.slice none 0 0, .bool false] ∧ H = []) ∨ ∃ t u, takeP bs = some t ∧ v = .tuple #[u, .bool true] ∧ H = [ownB u t 5])) := fun w G h m => by
  obtain ⟨a, c, rfl, hc, _⟩ := h.form
  exact take_form a c bs hc hb w G h m

theorem pieces_does (n : Nat) (hn : n ≤ 1000000000000) :
    Does Tryz.prog 121 #[(.int .i64 (((n : Nat) : Int)))] (fun _ => True) [] (Ret (fun v H => v = .int .i64 ((piecesN n : Nat) : Int) ∧ H = [])) := by
 refine Does.body (vs := [(.int .i64 (((n : Nat) : Int)))]) (n := 9) Tryz.func121 rfl rfl rfl (fun w0 F hF => ?_)
 refine sr fun _ J1 => ?_
 refine sg' ?_
 refine nx J1 ?_
 refine TC.seq fun _ J2 => ?_
 refine sr fun _ J3 => ?_
 refine mv ?_
 refine tp (PV.leq rfl rfl rfl) ?_
 refine TL.dec (fun h4 => ?_) (fun h4 => ?_)
 refine nx J3 ?_
 refine TC.yes rfl ?_
 refine sr fun _ J4 => ?_
 refine sg' ?_
 refine nx J4 ?_
 refine TC.ret ?_
 refine TE.passRet ?_
 refine TE.weak (Sub.refl _) (fun _ s => sep_keep [] rfl s) ?_
 refine TE.ret1 rfl rfl ?_
 obtain rfl : n = 0 := by omega
 exact ⟨rfl, rfl⟩
 refine nx J3 ?_
 refine TC.no rfl ?_
 refine TC.skip ?_
 refine TE.next J2 ?_
 refine sr fun _ J5 => ?_
 refine mv ?_
 refine tp (PV.sub rfl rfl rfl (wrap_i64 (by omega) (by omega))) ?_
 refine tp (PV.quo (r := (((n - 1) / 52 : Nat) : Int)) rfl rfl rfl (by omega) (by rw [show (((n : Nat) : Int) - 1) = ((n - 1 : Nat) : Int) by omega]; exact quoNat (n - 1) 52 (by omega))) ?_
 refine tp (PV.add rfl rfl rfl (wrap_i64 (by omega) (by omega))) ?_
 refine sg' ?_
 refine nx J5 ?_
 refine TC.ret ?_
 refine TE.weak (Sub.refl _) (fun _ s => sep_keep [] rfl s) ?_
 refine TE.ret1 rfl rfl ?_
 rw [piecesN, if_neg (by omega)]
 exact ⟨by simp, rfl⟩
theorem secsN_sect {number : Int} {bs : List UInt8} {k : Nat} : secsN number bs (k + 1) = secsN number bs k ++ [putP (textP number k (piecesN bs.length) (partP bs k)) ++ [1]] := secsN_succ number bs k

theorem sectors_form (a : Option Addr) (c number : Nat) (bs : List UInt8) (hc : bs.length ≤ c) (hb : bs.length ≤ 3000) :
    Does Tryz.prog 123 #[(.int .i64 (((number : Nat) : Int))), (.slice a bs.length c)] (IsW (.slice a bs.length c) bs) [] (Ret (fun v H => H = [recsP 106 5 v (sectorsP ((number : Nat) : Int) bs)])) := by
 refine Does.body (vs := [(.int .i64 (((number : Nat) : Int))), (.slice a bs.length c)]) (n := 68) Tryz.func123 rfl rfl rfl (fun w0 F hF => ?_)
 refine sr fun _ J1 => ?_
 refine sg' ?_
 refine nx J1 ?_
 refine sr fun _ J2 => ?_
 refine mv ?_
 refine tp (PV.lenV rfl Tryz.underlying106 rfl ⟨_, _, rfl⟩) ?_
 refine TL.callR (A := []) (Want.plain rfl) rfl rfl rfl nm121 rfl (pieces_does bs.length (by omega)) (fun _ s => s) (fun _ _ _ => trivial) (fun vR HR hR => ?_)
 obtain ⟨rfl, rfl⟩ := hR
 change TL _ _ _ _ _ _ _ _ _ []
 refine sg' ?_
 refine nx J2 ?_
 refine sr fun _ J3 => ?_
 refine sg' ?_
 refine nx J3 ?_
 refine TC.seq fun _ J4 => ?_
 refine sr fun _ J5 => ?_
 refine mv ?_
 refine mv ?_
 refine nx J5 ?_
 refine TC.block ?_
 refine TC.loop (α := (Nat) × (Value)) (fun ⟨k, vr⟩ => k ≤ piecesN bs.length ∧ vr.oneCell' = true) (fun ⟨k, vr⟩ => [(0, (.int .i64 (((number : Nat) : Int)))), (1, (.slice a bs.length c)), (4, (.slice none 0 0)), (5, (.int .i64 (((piecesN bs.length : Nat) : Int)))), (6, vr), (14, (.int .i64 (((piecesN bs.length : Nat) : Int)))), (15, (.int .i64 (((k : Nat) : Int))))]) (fun ⟨k, vr⟩ => [recsP 106 5 vr (secsN ((number : Nat) : Int) bs k)]) (fun ⟨k, vr⟩ => piecesN bs.length - k) (0, (.slice none 0 0))
     ⟨Nat.zero_le _, rfl⟩ (Sub.r (Sub.r (Sub.r (Sub.r (Sub.r (Sub.r (Sub.cons rfl (by congr 1) (Sub.nil _))))))))
     (fun _ s => sep_recsNil 106 5 s) (fun ⟨k, vr⟩ hinv => ?_)
 obtain ⟨hk, hvr⟩ := hinv
 refine sr fun _ J6 => ?_
 refine tp (PV.lss rfl rfl rfl) ?_
 refine TL.dec (fun h16 => ?_) (fun h16 => ?_)
 have hkn := part_le (n := bs.length) (k := k) (by omega)
 have hpe := part_eq bs k
 have hP : IsW (cutLH (.slice a bs.length c) (k * 52) (min ((k + 1) * 52) bs.length)) (partP bs k) F := by rw [← hpe]; exact hF.cut (by omega) (by omega)
 have hpl := partP_len bs k
 have hpk := piecesN_le hb
 have hP2 := hP.len
 refine nx J6 ?_
 refine TC.seq fun _ J7 => ?_
 refine TC.yes rfl ?_
 refine TC.skip ?_
 refine TE.next J7 ?_
 refine TC.seq fun _ J8 => ?_
 refine TC.block ?_
 refine sr fun _ J9 => ?_
 refine mv ?_
 refine sg' ?_
 refine nx J9 ?_
 refine sr fun _ J10 => ?_
 refine mv ?_
 refine mv ?_
 refine tp (PV.mul (r := ((k * 52 : Nat) : Int)) rfl rfl rfl (by rw [show ((k : Nat) : Int) * 52 = ((k * 52 : Nat) : Int) by omega]; exact wrap_i64 (by omega) (by omega))) ?_
 refine mv ?_
 refine tp (PV.add rfl rfl rfl (wrap_i64 (by omega) (by omega))) ?_
 refine tp (PV.mul (r := (((k + 1) * 52 : Nat) : Int)) rfl rfl rfl (by rw [show (((k : Nat) : Int) + 1) * 52 = (((k + 1) * 52 : Nat) : Int) by omega]; exact wrap_i64 (by omega) (by omega))) ?_
 refine mv ?_
 refine tp (PV.lenV rfl Tryz.underlying106 rfl ⟨_, _, rfl⟩) ?_
 refine tp (PV.minI rfl rfl rfl) ?_
 refine tp (PV.sliceLH (lo := k * 52) (hi := min ((k + 1) * 52) bs.length) rfl Tryz.underlying106 sz5 rfl rfl rfl rfl (by omega) (by omega) (by omega)) ?_
 refine sg' ?_
 refine nx J10 ?_
 refine sr fun _ J11 => ?_
 refine TL.makeB (59) (59) (Want.plain rfl) rfl rfl rfl Tryz.underlying106 in5 rfl rfl rfl rfl (by omega) (by omega) (fun b28 => ?_)
 change TL _ _ _ _ _ _ _ _ _ [blkA b28 [(.int .u8 0), (.int .u8 0), (.int .u8 0), (.int .u8 0), (.int .u8 0), (.int .u8 0), (.int .u8 0), (.int .u8 0), (.int .u8 0), (.int .u8 0), (.int .u8 0), (.int .u8 0), (.int .u8 0), (.int .u8 0), (.int .u8 0), (.int .u8 0), (.int .u8 0), (.int .u8 0), (.int .u8 0), (.int .u8 0), (.int .u8 0), (.int .u8 0), (.int .u8 0), (.int .u8 0), (.int .u8 0), (.int .u8 0), (.int .u8 0), (.int .u8 0), (.int .u8 0), (.int .u8 0), (.int .u8 0), (.int .u8 0), (.int .u8 0), (.int .u8 0), (.int .u8 0), (.int .u8 0), (.int .u8 0), (.int .u8 0), (.int .u8 0), (.int .u8 0), (.int .u8 0), (.int .u8 0), (.int .u8 0), (.int .u8 0), (.int .u8 0), (.int .u8 0), (.int .u8 0), (.int .u8 0), (.int .u8 0), (.int .u8 0), (.int .u8 0), (.int .u8 0), (.int .u8 0), (.int .u8 0), (.int .u8 0), (.int .u8 0), (.int .u8 0), (.int .u8 0), (.int .u8 0)] 5, recsP 106 5 vr (secsN ((number : Nat) : Int) bs k)]
 refine sg' ?_
 refine nx J11 ?_
 refine TC.seq fun _ J12 => ?_
 refine sr fun _ J13 => ?_
 refine mv ?_
 refine nx J13 ?_
 refine TC.block ?_
 refine TC.unroll 5 ?_
 refine sr fun _ J14 => ?_
 refine tp (PV.lss rfl rfl rfl) ?_
 refine nx J14 ?_
 refine TC.seq fun _ J15 => ?_
 refine TC.yes rfl ?_
 refine TC.skip ?_
 refine TE.next J15 ?_
 refine TC.seq fun _ J16 => ?_
 refine TC.block ?_
 refine sr fun _ J17 => ?_
 refine mv ?_
 refine sg' ?_
 refine nx J17 ?_
 refine TC.region ?_
 refine mv ?_
 refine mv ?_
 refine mv ?_
 refine mv ?_
 refine tp (PV.sub (r := 3) rfl rfl rfl (by decide)) ?_
 refine tp (PV.mul (r := 24) rfl rfl rfl (by decide)) ?_
 refine tp (PV.shr (r := ((number : Nat) : Int).fdiv 16777216) rfl rfl rfl (by omega) rfl) ?_
 refine tp (PV.convI (r := (((r8 (((number : Nat) : Int).fdiv 16777216)).toNat : Nat) : Int)) rfl Tryz.underlying3 Tryz.underlying5 rfl (r8_wrap _)) ?_
 refine tp (PV.indexSl (r := 0) rfl Tryz.underlying106 sz5 rfl rfl (by first | omega | decide) (by first | omega | decide) rfl) ?_
 refine TL.store1 (i := 0) (H' := [blkA b28 [(.int .u8 ((((r8 (((number : Nat) : Int).fdiv 16777216)).toNat : Nat) : Int))), (.int .u8 0), (.int .u8 0), (.int .u8 0), (.int .u8 0), (.int .u8 0), (.int .u8 0), (.int .u8 0), (.int .u8 0), (.int .u8 0), (.int .u8 0), (.int .u8 0), (.int .u8 0), (.int .u8 0), (.int .u8 0), (.int .u8 0), (.int .u8 0), (.int .u8 0), (.int .u8 0), (.int .u8 0), (.int .u8 0), (.int .u8 0), (.int .u8 0), (.int .u8 0), (.int .u8 0), (.int .u8 0), (.int .u8 0), (.int .u8 0), (.int .u8 0), (.int .u8 0), (.int .u8 0), (.int .u8 0), (.int .u8 0), (.int .u8 0), (.int .u8 0), (.int .u8 0), (.int .u8 0), (.int .u8 0), (.int .u8 0), (.int .u8 0), (.int .u8 0), (.int .u8 0), (.int .u8 0), (.int .u8 0), (.int .u8 0), (.int .u8 0), (.int .u8 0), (.int .u8 0), (.int .u8 0), (.int .u8 0), (.int .u8 0), (.int .u8 0), (.int .u8 0), (.int .u8 0), (.int .u8 0), (.int .u8 0), (.int .u8 0), (.int .u8 0), (.int .u8 0)] 5, recsP 106 5 vr (secsN ((number : Nat) : Int) bs k)]) (Want.plain rfl) rfl rfl rfl rfl rfl sz5 rfl rfl (lb rfl) rfl rfl ?_
 refine TL.nil ?_
 refine TE.blockEnd ?_
 refine TE.next J16 ?_
 refine TC.region ?_
 refine tp (PV.add (r := 1) rfl rfl rfl (by decide)) ?_
 refine mv ?_
 refine TL.nil ?_
 refine TE.again ?_
 refine sr fun _ J18 => ?_
 refine tp (PV.lss rfl rfl rfl) ?_
 refine nx J18 ?_
 refine TC.seq fun _ J19 => ?_
 refine TC.yes rfl ?_
 refine TC.skip ?_
 refine TE.next J19 ?_
 refine TC.seq fun _ J20 => ?_
 refine TC.block ?_
 refine sr fun _ J21 => ?_
 refine mv ?_
 refine sg' ?_
 refine nx J21 ?_
 refine TC.region ?_
 refine mv ?_
 refine mv ?_
 refine mv ?_
 refine mv ?_
 refine tp (PV.sub (r := 2) rfl rfl rfl (by decide)) ?_
 refine tp (PV.mul (r := 16) rfl rfl rfl (by decide)) ?_
 refine tp (PV.shr (r := ((number : Nat) : Int).fdiv 65536) rfl rfl rfl (by omega) rfl) ?_
 refine tp (PV.convI (r := (((r8 (((number : Nat) : Int).fdiv 65536)).toNat : Nat) : Int)) rfl Tryz.underlying3 Tryz.underlying5 rfl (r8_wrap _)) ?_
 refine tp (PV.indexSl (r := 1) rfl Tryz.underlying106 sz5 rfl rfl (by first | omega | decide) (by first | omega | decide) rfl) ?_
 refine TL.store1 (i := 0) (H' := [blkA b28 [(.int .u8 ((((r8 (((number : Nat) : Int).fdiv 16777216)).toNat : Nat) : Int))), (.int .u8 ((((r8 (((number : Nat) : Int).fdiv 65536)).toNat : Nat) : Int))), (.int .u8 0), (.int .u8 0), (.int .u8 0), (.int .u8 0), (.int .u8 0), (.int .u8 0), (.int .u8 0), (.int .u8 0), (.int .u8 0), (.int .u8 0), (.int .u8 0), (.int .u8 0), (.int .u8 0), (.int .u8 0), (.int .u8 0), (.int .u8 0), (.int .u8 0), (.int .u8 0), (.int .u8 0), (.int .u8 0), (.int .u8 0), (.int .u8 0), (.int .u8 0), (.int .u8 0), (.int .u8 0), (.int .u8 0), (.int .u8 0), (.int .u8 0), (.int .u8 0), (.int .u8 0), (.int .u8 0), (.int .u8 0), (.int .u8 0), (.int .u8 0), (.int .u8 0), (.int .u8 0), (.int .u8 0), (.int .u8 0), (.int .u8 0), (.int .u8 0), (.int .u8 0), (.int .u8 0), (.int .u8 0), (.int .u8 0), (.int .u8 0), (.int .u8 0), (.int .u8 0), (.int .u8 0), (.int .u8 0), (.int .u8 0), (.int .u8 0), (.int .u8 0), (.int .u8 0), (.int .u8 0), (.int .u8 0), (.int .u8 0), (.int .u8 0)] 5, recsP 106 5 vr (secsN ((number : Nat) : Int) bs k)]) (Want.plain rfl) rfl rfl rfl rfl rfl sz5 rfl rfl (lb rfl) rfl rfl ?_
 refine TL.nil ?_
 refine TE.blockEnd ?_
 refine TE.next J20 ?_
 refine TC.region ?_
 refine tp (PV.add (r := 2) rfl rfl rfl (by decide)) ?_
 refine mv ?_
 refine TL.nil ?_
 refine TE.again ?_
 refine sr fun _ J22 => ?_
 refine tp (PV.lss rfl rfl rfl) ?_
 refine nx J22 ?_
 refine TC.seq fun _ J23 => ?_
 refine TC.yes rfl ?_
 refine TC.skip ?_
 refine TE.next J23 ?_
 refine TC.seq fun _ J24 => ?_
 refine TC.block ?_
 refine sr fun _ J25 => ?_
 refine mv ?_
 refine sg' ?_
 refine nx J25 ?_
 refine TC.region ?_
 refine mv ?_
 refine mv ?_
 refine mv ?_
 refine mv ?_
 refine tp (PV.sub (r := 1) rfl rfl rfl (by decide)) ?_
 refine tp (PV.mul (r := 8) rfl rfl rfl (by decide)) ?_
 refine tp (PV.shr (r := ((number : Nat) : Int).fdiv 256) rfl rfl rfl (by omega) rfl) ?_
 refine tp (PV.convI (r := (((r8 (((number : Nat) : Int).fdiv 256)).toNat : Nat) : Int)) rfl Tryz.underlying3 Tryz.underlying5 rfl (r8_wrap _)) ?_
 refine tp (PV.indexSl (r := 2) rfl Tryz.underlying106 sz5 rfl rfl (by first | omega | decide) (by first | omega | decide) rfl) ?_
 refine TL.store1 (i := 0) (H' := [blkA b28 [(.int .u8 ((((r8 (((number : Nat) : Int).fdiv 16777216)).toNat : Nat) : Int))), (.int .u8 ((((r8 (((number : Nat) : Int).fdiv 65536)).toNat : Nat) : Int))), (.int .u8 ((((r8 (((number : Nat) : Int).fdiv 256)).toNat : Nat) : Int))), (.int .u8 0), (.int .u8 0), (.int .u8 0), (.int .u8 0), (.int .u8 0), (.int .u8 0), (.int .u8 0), (.int .u8 0), (.int .u8 0), (.int .u8 0), (.int .u8 0), (.int .u8 0), (.int .u8 0), (.int .u8 0), (.int .u8 0), (.int .u8 0), (.int .u8 0), (.int .u8 0), (.int .u8 0), (.int .u8 0), (.int .u8 0), (.int .u8 0), (.int .u8 0), (.int .u8 0), (.int .u8 0), (.int .u8 0), (.int .u8 0), (.int .u8 0), (.int .u8 0), (.int .u8 0), (.int .u8 0), (.int .u8 0), (.int .u8 0), (.int .u8 0), (.int .u8 0), (.int .u8 0), (.int .u8 0), (.int .u8 0), (.int .u8 0), (.int .u8 0), (.int .u8 0), (.int .u8 0), (.int .u8 0), (.int .u8 0), (.int .u8 0), (.int .u8 0), (.int .u8 0), (.int .u8 0), (.int .u8 0), (.int .u8 0), (.int .u8 0), (.int .u8 0), (.int .u8 0), (.int .u8 0), (.int .u8 0), (.int .u8 0)] 5, recsP 106 5 vr (secsN ((number : Nat) : Int) bs k)]) (Want.plain rfl) rfl rfl rfl rfl rfl sz5 rfl rfl (lb rfl) rfl rfl ?_
 refine TL.nil ?_
 refine TE.blockEnd ?_
 refine TE.next J24 ?_
 refine TC.region ?_
 refine tp (PV.add (r := 3) rfl rfl rfl (by decide)) ?_
 refine mv ?_
 refine TL.nil ?_
 refine TE.again ?_
 refine sr fun _ J26 => ?_
 refine tp (PV.lss rfl rfl rfl) ?_
 refine nx J26 ?_
 refine TC.seq fun _ J27 => ?_
 refine TC.yes rfl ?_
 refine TC.skip ?_
 refine TE.next J27 ?_
 refine TC.seq fun _ J28 => ?_
 refine TC.block ?_
 refine sr fun _ J29 => ?_
 refine mv ?_
 refine sg' ?_
 refine nx J29 ?_
 refine TC.region ?_
 refine mv ?_
 refine mv ?_
 refine mv ?_
 refine mv ?_
 refine tp (PV.sub (r := 0) rfl rfl rfl (by decide)) ?_
 refine tp (PV.mul (r := 0) rfl rfl rfl (by decide)) ?_
 refine tp (PV.shr (r := ((number : Nat) : Int)) rfl rfl rfl (by omega) (Int.fdiv_one _)) ?_
 refine tp (PV.convI (r := (((r8 (((number : Nat) : Int))).toNat : Nat) : Int)) rfl Tryz.underlying3 Tryz.underlying5 rfl (r8_wrap _)) ?_
 refine tp (PV.indexSl (r := 3) rfl Tryz.underlying106 sz5 rfl rfl (by first | omega | decide) (by first | omega | decide) rfl) ?_
 refine TL.store1 (i := 0) (H' := [blkA b28 [(.int .u8 ((((r8 (((number : Nat) : Int).fdiv 16777216)).toNat : Nat) : Int))), (.int .u8 ((((r8 (((number : Nat) : Int).fdiv 65536)).toNat : Nat) : Int))), (.int .u8 ((((r8 (((number : Nat) : Int).fdiv 256)).toNat : Nat) : Int))), (.int .u8 ((((r8 (((number : Nat) : Int))).toNat : Nat) : Int))), (.int .u8 0), (.int .u8 0), (.int .u8 0), (.int .u8 0), (.int .u8 0), (.int .u8 0), (.int .u8 0), (.int .u8 0), (.int .u8 0), (.int .u8 0), (.int .u8 0), (.int .u8 0), (.int .u8 0), (.int .u8 0), (.int .u8 0), (.int .u8 0), (.int .u8 0), (.int .u8 0), (.int .u8 0), (.int .u8 0), (.int .u8 0), (.int .u8 0), (.int .u8 0), (.int .u8 0), (.int .u8 0), (.int .u8 0), (.int .u8 0), (.int .u8 0), (.int .u8 0), (.int .u8 0), (.int .u8 0), (.int .u8 0), (.int .u8 0), (.int .u8 0), (.int .u8 0), (.int .u8 0), (.int .u8 0), (.int .u8 0), (.int .u8 0), (.int .u8 0), (.int .u8 0), (.int .u8 0), (.int .u8 0), (.int .u8 0), (.int .u8 0), (.int .u8 0), (.int .u8 0), (.int .u8 0), (.int .u8 0), (.int .u8 0), (.int .u8 0), (.int .u8 0), (.int .u8 0), (.int .u8 0), (.int .u8 0)] 5, recsP 106 5 vr (secsN ((number : Nat) : Int) bs k)]) (Want.plain rfl) rfl rfl rfl rfl rfl sz5 rfl rfl (lb rfl) rfl rfl ?_
 refine TL.nil ?_
 refine TE.blockEnd ?_
 refine TE.next J28 ?_
 refine TC.region ?_
 refine tp (PV.add (r := 4) rfl rfl rfl (by decide)) ?_
 refine mv ?_
 refine TL.nil ?_
 refine TE.again ?_
 refine sr fun _ J30 => ?_
 refine tp (PV.lss rfl rfl rfl) ?_
 refine nx J30 ?_
 refine TC.seq fun _ J31 => ?_
 refine TC.no rfl ?_
 refine TC.exit ?_
 refine TE.pass ?_
 refine TE.pass ?_
 refine TE.hit ?_
 refine TE.next J12 ?_
 refine sr fun _ J32 => ?_
 refine mv ?_
 refine mv ?_
 refine mv ?_
 refine mv ?_
 refine tp (PV.convI (r := (((r8 (((k : Nat) : Int))).toNat : Nat) : Int)) rfl Tryz.underlying3 Tryz.underlying5 rfl (r8_wrap _)) ?_
 refine mv ?_
 refine tp (PV.convI (r := (((r8 (((piecesN bs.length : Nat) : Int))).toNat : Nat) : Int)) rfl Tryz.underlying3 Tryz.underlying5 rfl (r8_wrap _)) ?_
 refine mv ?_
 refine tp (PV.lenV rfl Tryz.underlying106 rfl hP2) ?_
 refine tp (PV.convI (r := (((r8 ((((partP bs k).length : Nat) : Int))).toNat : Nat) : Int)) rfl Tryz.underlying3 Tryz.underlying5 rfl (r8_wrap _)) ?_
 refine tp (PV.indexSl (r := 4) rfl Tryz.underlying106 sz5 rfl rfl (by first | omega | decide) (by first | omega | decide) rfl) ?_
 refine TL.store1 (i := 0) (H' := [blkA b28 [(.int .u8 ((((r8 (((number : Nat) : Int).fdiv 16777216)).toNat : Nat) : Int))), (.int .u8 ((((r8 (((number : Nat) : Int).fdiv 65536)).toNat : Nat) : Int))), (.int .u8 ((((r8 (((number : Nat) : Int).fdiv 256)).toNat : Nat) : Int))), (.int .u8 ((((r8 (((number : Nat) : Int))).toNat : Nat) : Int))), (.int .u8 ((((r8 (((k : Nat) : Int))).toNat : Nat) : Int))), (.int .u8 0), (.int .u8 0), (.int .u8 0), (.int .u8 0), (.int .u8 0), (.int .u8 0), (.int .u8 0), (.int .u8 0), (.int .u8 0), (.int .u8 0), (.int .u8 0), (.int .u8 0), (.int .u8 0), (.int .u8 0), (.int .u8 0), (.int .u8 0), (.int .u8 0), (.int .u8 0), (.int .u8 0), (.int .u8 0), (.int .u8 0), (.int .u8 0), (.int .u8 0), (.int .u8 0), (.int .u8 0), (.int .u8 0), (.int .u8 0), (.int .u8 0), (.int .u8 0), (.int .u8 0), (.int .u8 0), (.int .u8 0), (.int .u8 0), (.int .u8 0), (.int .u8 0), (.int .u8 0), (.int .u8 0), (.int .u8 0), (.int .u8 0), (.int .u8 0), (.int .u8 0), (.int .u8 0), (.int .u8 0), (.int .u8 0), (.int .u8 0), (.int .u8 0), (.int .u8 0), (.int .u8 0), (.int .u8 0), (.int .u8 0), (.int .u8 0), (.int .u8 0), (.int .u8 0), (.int .u8 0)] 5, recsP 106 5 vr (secsN ((number : Nat) : Int) bs k)]) (Want.plain rfl) rfl rfl rfl rfl rfl sz5 rfl rfl (lb rfl) rfl rfl ?_
 refine tp (PV.indexSl (r := 5) rfl Tryz.underlying106 sz5 rfl rfl (by first | omega | decide) (by first | omega | decide) rfl) ?_
 refine TL.store1 (i := 0) (H' := [blkA b28 [(.int .u8 ((((r8 (((number : Nat) : Int).fdiv 16777216)).toNat : Nat) : Int))), (.int .u8 ((((r8 (((number : Nat) : Int).fdiv 65536)).toNat : Nat) : Int))), (.int .u8 ((((r8 (((number : Nat) : Int).fdiv 256)).toNat : Nat) : Int))), (.int .u8 ((((r8 (((number : Nat) : Int))).toNat : Nat) : Int))), (.int .u8 ((((r8 (((k : Nat) : Int))).toNat : Nat) : Int))), (.int .u8 ((((r8 (((piecesN bs.length : Nat) : Int))).toNat : Nat) : Int))), (.int .u8 0), (.int .u8 0), (.int .u8 0), (.int .u8 0), (.int .u8 0), (.int .u8 0), (.int .u8 0), (.int .u8 0), (.int .u8 0), (.int .u8 0), (.int .u8 0), (.int .u8 0), (.int .u8 0), (.int .u8 0), (.int .u8 0), (.int .u8 0), (.int .u8 0), (.int .u8 0), (.int .u8 0), (.int .u8 0), (.int .u8 0), (.int .u8 0), (.int .u8 0), (.int .u8 0), (.int .u8 0), (.int .u8 0), (.int .u8 0), (.int .u8 0), (.int .u8 0), (.int .u8 0), (.int .u8 0), (.int .u8 0), (.int .u8 0), (.int .u8 0), (.int .u8 0), (.int .u8 0), (.int .u8 0), (.int .u8 0), (.int .u8 0), (.int .u8 0), (.int .u8 0), (.int .u8 0), (.int .u8 0), (.int .u8 0), (.int .u8 0), (.int .u8 0), (.int .u8 0), (.int .u8 0), (.int .u8 0), (.int .u8 0), (.int .u8 0), (.int .u8 0), (.int .u8 0)] 5, recsP 106 5 vr (secsN ((number : Nat) : Int) bs k)]) (Want.plain rfl) rfl rfl rfl rfl rfl sz5 rfl rfl (lb rfl) rfl rfl ?_
 refine tp (PV.indexSl (r := 6) rfl Tryz.underlying106 sz5 rfl rfl (by first | omega | decide) (by first | omega | decide) rfl) ?_
 refine TL.store1 (i := 0) (H' := [blkA b28 [(.int .u8 ((((r8 (((number : Nat) : Int).fdiv 16777216)).toNat : Nat) : Int))), (.int .u8 ((((r8 (((number : Nat) : Int).fdiv 65536)).toNat : Nat) : Int))), (.int .u8 ((((r8 (((number : Nat) : Int).fdiv 256)).toNat : Nat) : Int))), (.int .u8 ((((r8 (((number : Nat) : Int))).toNat : Nat) : Int))), (.int .u8 ((((r8 (((k : Nat) : Int))).toNat : Nat) : Int))), (.int .u8 ((((r8 (((piecesN bs.length : Nat) : Int))).toNat : Nat) : Int))), (.int .u8 ((((r8 ((((partP bs k).length : Nat) : Int))).toNat : Nat) : Int))), (.int .u8 0), (.int .u8 0), (.int .u8 0), (.int .u8 0), (.int .u8 0), (.int .u8 0), (.int .u8 0), (.int .u8 0), (.int .u8 0), (.int .u8 0), (.int .u8 0), (.int .u8 0), (.int .u8 0), (.int .u8 0), (.int .u8 0), (.int .u8 0), (.int .u8 0), (.int .u8 0), (.int .u8 0), (.int .u8 0), (.int .u8 0), (.int .u8 0), (.int .u8 0), (.int .u8 0), (.int .u8 0), (.int .u8 0), (.int .u8 0), (.int .u8 0), (.int .u8 0), (.int .u8 0), (.int .u8 0), (.int .u8 0), (.int .u8 0), (.int .u8 0), (.int .u8 0), (.int .u8 0), (.int .u8 0), (.int .u8 0), (.int .u8 0), (.int .u8 0), (.int .u8 0), (.int .u8 0), (.int .u8 0), (.int .u8 0), (.int .u8 0), (.int .u8 0), (.int .u8 0), (.int .u8 0), (.int .u8 0), (.int .u8 0), (.int .u8 0), (.int .u8 0)] 5, recsP 106 5 vr (secsN ((number : Nat) : Int) bs k)]) (Want.plain rfl) rfl rfl rfl rfl rfl sz5 rfl rfl (lb rfl) rfl rfl ?_
 refine nx J32 ?_
 refine sr fun _ J33 => ?_
 refine mv ?_
 refine tp (PV.sliceLo (k := 7) (v := (.slice (some ⟨b28, 7, none⟩) (52) (52))) rfl Tryz.underlying106 sz5 rfl rfl rfl (by decide) rfl) ?_
 refine mv ?_
 refine TL.copy (i := 0) (m := (partP bs k).length) (news := (u8s (partP bs k))) (H' := [blkA b28 (u8s (textP ((number : Nat) : Int) k (piecesN bs.length) (partP bs k))) 5, recsP 106 5 vr (secsN ((number : Nat) : Int) bs k)]) (Want.plain rfl) rfl rfl rfl Tryz.underlying106 sz5 rfl rfl rfl rfl (fun _ _ => hP.src (fun _ h => Frm.of h)) (u8s_one _) (by show 7 + min (partP bs k).length 52 ≤ 59; omega) (text_copy (number := ((number : Nat) : Int)) (place := k) (all := piecesN bs.length) hpl) rfl ?_
 refine nx J33 ?_
 refine TC.region ?_
 refine mv ?_
 refine mv ?_
 refine TL.callR (A := []) (Want.plain rfl) rfl rfl rfl nm132 rfl (sumPut_does (.slice (some ⟨b28, 0, none⟩) (59) (59)) (textP ((number : Nat) : Int) k (piecesN bs.length) (partP bs k)) (by rw [textP_len hpl]; decide)) (fun _ s => s) (fun g d s => IsB.w (isB_blkN 0 59 (textP_len hpl) (by decide) rfl rfl g d s)) (fun vR HR hR => ?_)
 subst hR
 change TL _ _ _ _ _ _ _ _ _ [ownB vR (putP (textP ((number : Nat) : Int) k (piecesN bs.length) (partP bs k))) 5, blkA b28 (u8s (textP ((number : Nat) : Int) k (piecesN bs.length) (partP bs k))) 5, recsP 106 5 vr (secsN ((number : Nat) : Int) bs k)]
 refine TL.buildSlice (cells := #[(.int .u8 1)]) (Want.plain rfl) rfl rfl rfl Tryz.underlying106 in5 rfl rfl rfl (by as_aux_lemma => kernel_rfl) (fun b62 => ?_)
 change TL _ _ _ _ _ _ _ _ _ [blkA b62 [(.int .u8 1)] 5, ownB vR (putP (textP ((number : Nat) : Int) k (piecesN bs.length) (partP bs k))) 5, blkA b28 (u8s (textP ((number : Nat) : Int) k (piecesN bs.length) (partP bs k))) 5, recsP 106 5 vr (secsN ((number : Nat) : Int) bs k)]
 refine TL.append (k := 1) (news := u8s ([1])) (nn' := (putP (textP ((number : Nat) : Int) k (piecesN bs.length) (partP bs k)) ++ [1] : List UInt8).length) (xs' := u8s (putP (textP ((number : Nat) : Int) k (piecesN bs.length) (partP bs k)) ++ [1])) (Want.plain rfl) rfl rfl rfl Tryz.underlying106 in5 rfl rfl rfl rfl rfl rfl (fun _ _ => Src.rd rfl (Rd.own 0 rfl rfl) rfl) (u8s_one [1]) (by rw [putP_len, textP_len hpl]; simp only [maxLen]; omega) (by rw [putP_len, textP_len hpl]; omega) (by simp) (u8s_append _ _).symm (fun v63 ov63 => ?_)
 change TL _ _ _ _ _ _ _ _ _ [blkA b62 [(.int .u8 1)] 5, ownB v63 (putP (textP ((number : Nat) : Int) k (piecesN bs.length) (partP bs k)) ++ [1]) 5, blkA b28 (u8s (textP ((number : Nat) : Int) k (piecesN bs.length) (partP bs k))) 5, recsP 106 5 vr (secsN ((number : Nat) : Int) bs k)]
 refine TL.buildSlice (cells := #[v63]) (Want.plain rfl) rfl rfl rfl Tryz.underlying97 in106 rfl rfl rfl (fill_one ov63 (by simp)) (fun b64 => ?_)
 change TL _ _ _ _ _ _ _ _ _ [blkA b64 [v63] 106, blkA b62 [(.int .u8 1)] 5, ownB v63 (putP (textP ((number : Nat) : Int) k (piecesN bs.length) (partP bs k)) ++ [1]) 5, blkA b28 (u8s (textP ((number : Nat) : Int) k (piecesN bs.length) (partP bs k))) 5, recsP 106 5 vr (secsN ((number : Nat) : Int) bs k)]
 refine TL.mono (fun _ s => sep_selR [4] rfl s) ?_
 refine TL.recsOpen (fun us65 => ?_)
 change TL _ _ _ _ _ _ _ _ _ [own vr ((secsN ((number : Nat) : Int) bs k).length) (us65) 106 1, bunch us65 (secsN ((number : Nat) : Int) bs k) 5, blkA b64 [v63] 106, blkA b62 [(.int .u8 1)] 5, ownB v63 (putP (textP ((number : Nat) : Int) k (piecesN bs.length) (partP bs k)) ++ [1]) 5, blkA b28 (u8s (textP ((number : Nat) : Int) k (piecesN bs.length) (partP bs k))) 5]
 refine TL.append (k := 0) (m := 1) (news := [v63]) (nn' := (secsN ((number : Nat) : Int) bs k).length + 1) (xs' := us65 ++ [v63]) (Want.plain rfl) rfl rfl rfl Tryz.underlying97 in106 rfl rfl rfl rfl rfl rfl (fun _ _ => Src.rd rfl (Rd.own 2 rfl rfl) rfl) (List.forall_mem_cons.2 ⟨ov63, fun _ h => by cases h⟩) (by rw [secsN_len]; simp only [maxLen]; omega) (by rw [secsN_len]; omega) rfl rfl (fun v65 ov65 => ?_)
 change TL _ _ _ _ _ _ _ _ _ [own v65 ((secsN ((number : Nat) : Int) bs k).length + 1) (us65 ++ [v63]) 106 1, bunch us65 (secsN ((number : Nat) : Int) bs k) 5, blkA b64 [v63] 106, blkA b62 [(.int .u8 1)] 5, ownB v63 (putP (textP ((number : Nat) : Int) k (piecesN bs.length) (partP bs k)) ++ [1]) 5, blkA b28 (u8s (textP ((number : Nat) : Int) k (piecesN bs.length) (partP bs k))) 5]
 refine TL.mono (fun _ s => sep_sub 4 rfl rfl s) ?_
 refine TL.mono (H' := [own v65 ((secsN ((number : Nat) : Int) bs k).length + 1) (us65 ++ [v63]) 106 1, bunch us65 (secsN ((number : Nat) : Int) bs k) 5, subB v63 (putP (textP ((number : Nat) : Int) k (piecesN bs.length) (partP bs k)) ++ [1]) 5, blkA b64 [v63] 106, blkA b62 [(.int .u8 1)] 5, blkA b28 (u8s (textP ((number : Nat) : Int) k (piecesN bs.length) (partP bs k))) 5]) (fun _ s => sep_selR [0, 0, 2] rfl s) ?_
 refine TL.mono (fun _ s => sep_recsAdd s) ?_
 rw [← secsN_sect]
 change TL _ _ _ _ _ _ _ _ _ [recsP 106 5 v65 (secsN ((number : Nat) : Int) bs (k + 1)), blkA b64 [v63] 106, blkA b62 [(.int .u8 1)] 5, blkA b28 (u8s (textP ((number : Nat) : Int) k (piecesN bs.length) (partP bs k))) 5]
 refine sg' ?_
 refine TL.nil ?_
 refine TE.blockEnd ?_
 refine TE.next J8 ?_
 refine TC.region ?_
 refine tp (PV.add rfl rfl rfl (wrap_i64 (by omega) (by omega))) ?_
 refine mv ?_
 refine TL.nil ?_
 exact TE.round ((k + 1, v65) : (Nat) × (Value)) ⟨by omega, ov65⟩ (by show piecesN bs.length - (k + 1) < piecesN bs.length - k; omega)
   (Sub.r (Sub.r (Sub.r (Sub.r (Sub.r (Sub.r (Sub.cons rfl (by simp) (Sub.nil _))))))))
   (fun _ s => sep_keep [0] rfl s)
 refine nx J6 ?_
 refine TC.seq fun _ J34 => ?_
 refine TC.no rfl ?_
 refine TC.exit ?_
 refine TE.pass ?_
 refine TE.pass ?_
 refine TE.hit ?_
 refine TE.next J4 ?_
 refine sr fun _ J35 => ?_
 refine mv ?_
 refine sg' ?_
 refine nx J35 ?_
 refine TC.ret ?_
 refine TE.weak (Sub.refl _) (fun _ s => sep_keep [0] rfl s) ?_
 refine TE.ret1 rfl rfl ?_
 obtain rfl : k = piecesN bs.length := by omega
 exact rfl
theorem sectors_does (x : Value) (number : Nat) (bs : List UInt8) (hb : bs.length ≤ 3000) : Does Tryz.prog 123 #[.int .i64 ((number : Nat) : Int), x] (IsW x bs) [] (Ret (fun v H => H = [recsP 106 5 v (sectorsP ((number : Nat) : Int) bs)])) := fun w G h m => by
  obtain ⟨a, c, rfl, hc, _⟩ := h.form
  exact sectors_form a c number bs hc hb w G h m

theorem piece_does (s : Sec) (number place : Int) (hs : s.length = 64) :
    Does Tryz.prog 97 #[(.agg (u8s s).toArray), (.int .i64 (number)), (.int .i64 (place))] (fun _ => True) [] (Ret (fun v H => (pieceP s number place = none ∧ v = .tuple #[.slice none 0 0, .int .i64 0, .bool false] ∧ H = []) ∨ ∃ b all u, pieceP s number place = some (b, all) ∧ v = .tuple #[u, .int .i64 all, .bool true] ∧ H = [subB u b 5])) := by
 refine Does.body (vs := [(.agg (u8s s).toArray), (.int .i64 (number)), (.int .i64 (place))]) (n := 74) Tryz.func97 rfl rfl rfl (fun w0 F hF => ?_)
 refine sr fun _ J1 => ?_
 refine TL.box (Want.plain rfl) rfl rfl rfl rfl (fun b3 => ?_)
 change TL _ _ _ _ _ _ _ _ _ [blkA b3 (u8s s) 133]
 refine sg' ?_
 refine sg' ?_
 refine sg' ?_
 refine nx J1 ?_
 refine sr fun _ J2 => ?_
 refine tp (PV.sliceArrHi (k := 63) rfl Tryz.underlying133 sz5 rfl rfl (by omega) (by omega) rfl) ?_
 refine TL.callR (A := []) (Want.plain rfl) rfl rfl rfl nm119 rfl (take_does (.slice (some ⟨b3, 0, none⟩) (63) (64)) (s.take 63) (by rw [List.length_take]; omega)) (fun _ s => s) (fun g d s' => IsB.w (isB_piece 0 63 (by omega) (by omega) (by decide) (by rw [List.take_of_length_le (by rw [u8s_length]; omega)]) hs.symm rfl rfl g d s')) (fun vR HR hR => ?_)
 rcases hR with ⟨ht, rfl, rfl⟩ | ⟨t, u, ht, rfl, rfl⟩
 change TL _ _ _ _ _ _ _ _ _ [blkA b3 (u8s s) 133]
 refine mv ?_
 refine tp (PV.extract (vs := [(.slice none 0 0), (.bool false)]) rfl rfl rfl) ?_
 refine tp (PV.extract (vs := [(.slice none 0 0), (.bool false)]) rfl rfl rfl) ?_
 refine sg' ?_
 refine sg' ?_
 refine nx J2 ?_
 refine TC.seq fun _ J3 => ?_
 refine sr fun _ J4 => ?_
 refine mv ?_
 refine tp (PV.not (r := true) rfl rfl rfl) ?_
 refine mv ?_
 refine TL.unmet (b := true) rfl rfl rfl rfl (lb rfl) ?_
 refine TL.unmet (b := true) rfl rfl rfl rfl (lb rfl) ?_
 refine TL.unmet (b := true) rfl rfl rfl rfl (lb rfl) ?_
 refine tp (PV.pick rfl rfl rfl) ?_
 refine nx J4 ?_
 refine TC.yes rfl ?_
 refine sr fun _ J5 => ?_
 refine sg' ?_
 refine sg' ?_
 refine sg' ?_
 refine nx J5 ?_
 refine TC.ret ?_
 refine TE.passRet ?_
 refine TE.weak (Sub.refl _) (fun _ s => sep_keep [] rfl s) ?_
 refine TE.ret3 rfl rfl rfl rfl ?_
 exact .inl ⟨pieceP_none1 ht, rfl, rfl⟩
 have htl := takeP_len ht
 rw [List.length_take] at htl
 have ht59 : t.length = 59 := by omega
 change TL _ _ _ _ _ _ _ _ _ [ownB u (t) 5, blkA b3 (u8s s) 133]
 refine TL.ownAt 0 rfl rfl (by omega) (fun g cap hv hcap => ?_)
 refine mv ?_
 refine tp (PV.extract (vs := [u, (.bool true)]) rfl rfl rfl) ?_
 refine tp (PV.extract (vs := [u, (.bool true)]) rfl rfl rfl) ?_
 refine sg' ?_
 refine sg' ?_
 refine nx J2 ?_
 refine TC.seq fun _ J6 => ?_
 refine sr fun _ J7 => ?_
 refine mv ?_
 refine tp (PV.not (r := false) rfl rfl rfl) ?_
 refine mv ?_
 refine tq (PV.indexArr (r := 63) rfl Tryz.underlying133 sz5 rfl rfl (lz rfl) (lz rfl) rfl) ?_
 refine tq (PV.load1 (v := (.int .u8 ((((s.getD 63 0).toNat : Nat) : Int)))) rfl Tryz.underlying5 rfl rfl (Rd.own 1 rfl rfl) (u8s_at (by omega))) ?_
 refine tq (PV.neq rfl rfl rfl) ?_
 refine TL.dec (fun h26 => ?_) (fun h26 => ?_)
 refine tp (PV.pick rfl rfl rfl) ?_
 refine nx J7 ?_
 refine TC.yes rfl ?_
 refine sr fun _ J8 => ?_
 refine sg' ?_
 refine sg' ?_
 refine sg' ?_
 refine nx J8 ?_
 refine TC.ret ?_
 refine TE.passRet ?_
 refine TE.weak (Sub.refl _) (fun _ s => sep_keep [] rfl s) ?_
 refine TE.ret3 rfl rfl rfl rfl ?_
 exact .inl ⟨pieceP_end (fun h => h26 (by rw [h]; rfl)), rfl, rfl⟩
 refine tp (PV.pick rfl rfl rfl) ?_
 refine nx J7 ?_
 refine TC.no rfl ?_
 refine TC.skip ?_
 refine TE.next J6 ?_
 refine sr fun _ J9 => ?_
 refine sg' ?_
 refine nx J9 ?_
 refine TC.seq fun _ J10 => ?_
 refine sr fun _ J11 => ?_
 refine mv ?_
 refine tp (PV.to (PV.sliceH (a := some ⟨g, 0, none⟩) (len := t.length) (cap := cap) (hi := 4) rfl Tryz.underlying106 sz5 (by rw [← hv]; rfl) rfl rfl (by omega)) (cutLH_0 (by omega))) ?_
 refine tp (PV.lenSl rfl Tryz.underlying106 rfl) ?_
 refine mv ?_
 refine nx J11 ?_
 refine TC.block ?_
 refine TC.loop (α := (Nat)) (fun k => k ≤ 4) (fun k => [(1, (.int .i64 (number))), (2, (.int .i64 (place))), (6, (.slice none 0 0)), (7, (.int .i64 0)), (8, (.bool false)), (9, u), (11, (.int .i64 (beI (t.take k)))), (29, (.slice (some ⟨g, 0, none⟩) (4) (cap))), (30, (.int .i64 4)), (31, (.int .i64 (((k : Nat) : Int))))]) (fun k => [ownB u (t) 5, blkA b3 (u8s s) 133]) (fun k => 4 - k) 0
     (Nat.zero_le _) (Sub.r (Sub.r (Sub.r (Sub.r (Sub.r (Sub.r (Sub.cons rfl (by congr 1) (Sub.r (Sub.r (Sub.cons rfl (by congr 1) (Sub.nil _)))))))))))
     (fun _ s => s) (fun k hinv => ?_)
 obtain hk := hinv
 refine sr fun _ J12 => ?_
 refine tp (PV.lss rfl rfl rfl) ?_
 refine TL.dec (fun h32 => ?_) (fun h32 => ?_)
 refine nx J12 ?_
 refine TC.seq fun _ J13 => ?_
 refine TC.yes rfl ?_
 refine TC.skip ?_
 refine TE.next J13 ?_
 refine TC.seq fun _ J14 => ?_
 refine TC.block ?_
 refine sr fun _ J15 => ?_
 refine tp (PV.indexSl (r := k) rfl Tryz.underlying106 sz5 rfl rfl (by first | omega | decide) (by first | omega | decide) (by omega)) ?_
 refine tp (PV.load1X (v := (.int .u8 ((((t.getD k 0).toNat : Nat) : Int)))) rfl Tryz.underlying5 rfl rfl (RdX.own 0 rfl hv rfl) (u8s_at (by omega))) ?_
 refine sg' ?_
 refine nx J15 ?_
 refine TC.region ?_
 refine mv ?_
 refine tp (PV.shl (r := IntKind.i64.wrap ((beI (t.take k)) * 2 ^ 8)) rfl rfl rfl (by omega) rfl) ?_
 refine mv ?_
 refine tp (PV.convI (r := (((t.getD k 0).toNat : Nat) : Int)) rfl Tryz.underlying5 Tryz.underlying3 rfl (wrap_i64 (by omega) (by have := UInt8.toNat_lt (n := t.getD k 0); omega))) ?_
 refine tp (PV.or (r := orI .i64 (IntKind.i64.wrap ((beI (t.take k)) * 2 ^ 8)) (((t.getD k 0).toNat : Nat) : Int)) rfl rfl rfl rfl) ?_
 refine sg' ?_
 refine TL.nil ?_
 refine TE.blockEnd ?_
 refine TE.next J14 ?_
 refine TC.region ?_
 refine tp (PV.add rfl rfl rfl (wrap_i64 (by omega) (by omega))) ?_
 refine mv ?_
 refine TL.nil ?_
 exact TE.round ((k + 1) : (Nat)) (by omega) (by show 4 - (k + 1) < 4 - k; omega)
   (Sub.r (Sub.r (Sub.r (Sub.r (Sub.r (Sub.r (Sub.cons rfl (congrArg (Value.int .i64) (beI_take (by omega)).symm) (Sub.r (Sub.r (Sub.cons rfl (by simp) (Sub.nil _)))))))))))
   (fun _ s => s)
 refine nx J12 ?_
 refine TC.seq fun _ J16 => ?_
 refine TC.no rfl ?_
 refine TC.exit ?_
 refine TE.pass ?_
 refine TE.pass ?_
 refine TE.hit ?_
 refine TE.next J10 ?_
 refine TC.seq fun _ J17 => ?_
 refine TC.draw (fun w => Frm F w ∧ Hx g (u8s (t)) w ∧ True) mixedD rfl (fun _ s => ⟨Frm.of s, RdX.own 0 rfl hv rfl _ s, trivial⟩) ?_
 refine ta 0 rfl (PV.move rfl rfl) ?_
 refine ta 1 rfl (PV.indexSlV (r := 5) hv rfl Tryz.underlying106 sz5 rfl rfl (by omega) (by omega) rfl) ?_
 refine ta 2 rfl (PV.load1X (v := (.int .u8 ((((t.getD 5 0).toNat : Nat) : Int)))) rfl Tryz.underlying5 rfl rfl (fun _ h => h.2.1) (u8s_at (by omega))) ?_
 refine ta 3 rfl (PV.convI (r := (((t.getD 5 0).toNat : Nat) : Int)) rfl Tryz.underlying5 Tryz.underlying3 rfl (wrap_i64 (by omega) (by have := UInt8.toNat_lt (n := t.getD 5 0); omega))) ?_
 refine ta 4 rfl (PV.move rfl rfl) ?_
 refine ta 5 rfl (PV.indexSlV (r := 6) hv rfl Tryz.underlying106 sz5 rfl rfl (by omega) (by omega) rfl) ?_
 refine ta 6 rfl (PV.load1X (v := (.int .u8 ((((t.getD 6 0).toNat : Nat) : Int)))) rfl Tryz.underlying5 rfl rfl (fun _ h => h.2.1) (u8s_at (by omega))) ?_
 refine ta 7 rfl (PV.convI (r := (((t.getD 6 0).toNat : Nat) : Int)) rfl Tryz.underlying5 Tryz.underlying3 rfl (wrap_i64 (by omega) (by have := UInt8.toNat_lt (n := t.getD 6 0); omega))) ?_
 refine ta 8 rfl (PV.assign rfl rfl) ?_
 refine ta 9 rfl (PV.assign rfl rfl) ?_
 refine TD.done (by kernel_rfl) ?_
 refine TE.next J17 ?_
 refine TC.seq fun _ J18 => ?_
 refine sr fun _ J19 => ?_
 refine mv ?_
 refine mv ?_
 refine tp (PV.neq rfl rfl rfl) ?_
 refine TL.dec (fun h51 => ?_) (fun h51 => ?_)
 refine mv ?_
 refine TL.unmet (b := true) rfl rfl rfl rfl (lb rfl) ?_
 refine TL.unmet (b := true) rfl rfl rfl rfl (lb rfl) ?_
 refine TL.unmet (b := true) rfl rfl rfl rfl (lb rfl) ?_
 refine TL.unmet (b := true) rfl rfl rfl rfl (lb rfl) ?_
 refine TL.unmet (b := true) rfl rfl rfl rfl (lb rfl) ?_
 refine TL.unmet (b := true) rfl rfl rfl rfl (lb rfl) ?_
 refine tp (PV.pick rfl rfl rfl) ?_
 refine mv ?_
 refine TL.unmet (b := true) rfl rfl rfl rfl (lb rfl) ?_
 refine TL.unmet (b := true) rfl rfl rfl rfl (lb rfl) ?_
 refine TL.unmet (b := true) rfl rfl rfl rfl (lb rfl) ?_
 refine tp (PV.pick rfl rfl rfl) ?_
 refine mv ?_
 refine TL.unmet (b := true) rfl rfl rfl rfl (lb rfl) ?_
 refine TL.unmet (b := true) rfl rfl rfl rfl (lb rfl) ?_
 refine tp (PV.pick rfl rfl rfl) ?_
 refine nx J19 ?_
 refine TC.yes rfl ?_
 refine sr fun _ J20 => ?_
 refine sg' ?_
 refine sg' ?_
 refine sg' ?_
 refine nx J20 ?_
 refine TC.ret ?_
 refine TE.passRet ?_
 refine TE.weak (Sub.refl _) (fun _ s => sep_keep [] rfl s) ?_
 refine TE.ret3 rfl rfl rfl rfl ?_
 exact .inl ⟨pieceP_none2 ht (.inl (by have : k = 4 := (by omega); subst this; exact h51)), rfl, rfl⟩
 refine mv ?_
 refine tq (PV.move rfl rfl) ?_
 refine tq (PV.indexSlV (r := 4) hv rfl Tryz.underlying106 sz5 rfl rfl (by omega) (by omega) rfl) ?_
 refine tq (PV.load1X (v := (.int .u8 ((((t.getD 4 0).toNat : Nat) : Int)))) rfl Tryz.underlying5 rfl rfl (RdX.own 0 rfl hv rfl) (u8s_at (by omega))) ?_
 refine tq (PV.convI (r := (((t.getD 4 0).toNat : Nat) : Int)) rfl Tryz.underlying5 Tryz.underlying3 rfl (wrap_i64 (by omega) (by have := UInt8.toNat_lt (n := t.getD 4 0); omega))) ?_
 refine tq (PV.move rfl rfl) ?_
 refine tq (PV.neq rfl rfl rfl) ?_
 refine TL.dec (fun h58 => ?_) (fun h58 => ?_)
 refine tp (PV.pick rfl rfl rfl) ?_
 refine mv ?_
 refine TL.unmet (b := true) rfl rfl rfl rfl (lb rfl) ?_
 refine TL.unmet (b := true) rfl rfl rfl rfl (lb rfl) ?_
 refine TL.unmet (b := true) rfl rfl rfl rfl (lb rfl) ?_
 refine tp (PV.pick rfl rfl rfl) ?_
 refine mv ?_
 refine TL.unmet (b := true) rfl rfl rfl rfl (lb rfl) ?_
 refine TL.unmet (b := true) rfl rfl rfl rfl (lb rfl) ?_
 refine tp (PV.pick rfl rfl rfl) ?_
 refine nx J19 ?_
 refine TC.yes rfl ?_
 refine sr fun _ J21 => ?_
 refine sg' ?_
 refine sg' ?_
 refine sg' ?_
 refine nx J21 ?_
 refine TC.ret ?_
 refine TE.passRet ?_
 refine TE.weak (Sub.refl _) (fun _ s => sep_keep [] rfl s) ?_
 refine TE.ret3 rfl rfl rfl rfl ?_
 exact .inl ⟨pieceP_none2 ht (.inr (.inl h58)), rfl, rfl⟩
 refine tp (PV.pick rfl rfl rfl) ?_
 refine mv ?_
 refine tq (PV.move rfl rfl) ?_
 refine tq (PV.move rfl rfl) ?_
 refine tq (PV.geq rfl rfl rfl) ?_
 refine TL.dec (fun h63 => ?_) (fun h63 => ?_)
 refine tp (PV.pick rfl rfl rfl) ?_
 refine mv ?_
 refine TL.unmet (b := true) rfl rfl rfl rfl (lb rfl) ?_
 refine TL.unmet (b := true) rfl rfl rfl rfl (lb rfl) ?_
 refine tp (PV.pick rfl rfl rfl) ?_
 refine nx J19 ?_
 refine TC.yes rfl ?_
 refine sr fun _ J22 => ?_
 refine sg' ?_
 refine sg' ?_
 refine sg' ?_
 refine nx J22 ?_
 refine TC.ret ?_
 refine TE.passRet ?_
 refine TE.weak (Sub.refl _) (fun _ s => sep_keep [] rfl s) ?_
 refine TE.ret3 rfl rfl rfl rfl ?_
 exact .inl ⟨pieceP_none2 ht (.inr (.inr (.inl h63))), rfl, rfl⟩
 refine tp (PV.pick rfl rfl rfl) ?_
 refine mv ?_
 refine tq (PV.move rfl rfl) ?_
 refine tq (PV.gtr rfl rfl rfl) ?_
 refine TL.dec (fun h67 => ?_) (fun h67 => ?_)
 refine tp (PV.pick rfl rfl rfl) ?_
 refine nx J19 ?_
 refine TC.yes rfl ?_
 refine sr fun _ J23 => ?_
 refine sg' ?_
 refine sg' ?_
 refine sg' ?_
 refine nx J23 ?_
 refine TC.ret ?_
 refine TE.passRet ?_
 refine TE.weak (Sub.refl _) (fun _ s => sep_keep [] rfl s) ?_
 refine TE.ret3 rfl rfl rfl rfl ?_
 exact .inl ⟨pieceP_none2 ht (.inr (.inr (.inr h67))), rfl, rfl⟩
 refine tp (PV.pick rfl rfl rfl) ?_
 refine nx J19 ?_
 refine TC.no rfl ?_
 refine TC.skip ?_
 refine TE.next J18 ?_
 refine sr fun _ J24 => ?_
 refine mv ?_
 refine mv ?_
 refine tp (PV.add (r := ((7 + (t.getD 6 0).toNat : Nat) : Int)) rfl rfl rfl (by rw [show (7 : Int) + (((t.getD 6 0).toNat : Nat) : Int) = ((7 + (t.getD 6 0).toNat : Nat) : Int) by omega]; have := UInt8.toNat_lt (n := t.getD 6 0); exact wrap_i64 (by omega) (by omega))) ?_
 refine tp (PV.to (PV.sliceLH (a := some ⟨g, 0, none⟩) (len := t.length) (cap := cap) (lo := 7) (hi := 7 + (t.getD 6 0).toNat) rfl Tryz.underlying106 sz5 (by rw [← hv]; rfl) rfl rfl rfl rfl (by omega) (by omega)) (congrArg (fun q => cutLH q 7 (7 + (t.getD 6 0).toNat)) hv.symm)) ?_
 refine mv ?_
 refine sg' ?_
 refine sg' ?_
 refine sg' ?_
 refine nx J24 ?_
 refine TC.ret ?_
 refine TE.weak (H' := [subB (cutLH u 7 (7 + (t.getD 6 0).toNat)) ((t.drop 7).take (t.getD 6 0).toNat) 5]) (Sub.refl _) (fun _ s' => sep_keep [0] rfl (sep_ownCut 0 rfl rfl hv (by omega) (by omega) (by omega) (by rw [List.drop_take, Nat.add_sub_cancel_left]) s')) ?_
 refine TE.ret3 rfl rfl rfl rfl ?_
 obtain rfl : k = 4 := by omega
 have h1 : s.getD 63 0 = 1 := UInt8.toNat_inj.1 (by have h1' : (1 : UInt8).toNat = 1 := rfl; omega)
 exact .inr ⟨_, _, _, pieceP_some ht h1 (by omega), rfl, rfl⟩
end Go.Proofs.YtfceaphohlbnbaaGreat
end

section
namespace Wal
open Go Leg Codec Api Dsk

theorem isB_bunch (i : Nat) {us : List Value} {ls : List (List UInt8)} {e k : Nat} {B : List HP} {F : Hl} (hk : k < ls.length) (hi : Nat.blt i B.length = true) (hH : B.getD i (fun _ => True) = bunch us ls e) : ∀ g, Dj g F → sep B g → IsB (us.getD k undef) ls[k] (jn g F) := fun g d s => by
  obtain ⟨h1, h2, d', rfl, a, _⟩ := sep_get i (lb hi) s
  rw [hH] at a
  obtain ⟨hl, a⟩ := a
  obtain ⟨u, e1, k1, k2, dk, rfl, a3⟩ := bunch_at us ls e _ hl a k hk
  rw [List.getD_eq_getElem?_getD, e1]
  exact subB_isB a3 fun b o e => jn_some (jn_some (jn_some e))
theorem In.read {s ws : Secs} (h1 : In s) (h2 : In ws) (at' : Int) (h : ¬ (0 ≤ at' ∧ at' < 2048)) : ∀ k, k ≤ ws.length → readN s ws at' k = zs
  | 0, _ => by
    show sget s at' = zs
    induction s with
    | nil => rfl
    | cons p s ih =>
      obtain ⟨a, b⟩ := p
      simp only [sget]
      have hh := h1 (a, b) (by simp)
      rw [if_neg (fun e => h (by simp only at hh; omega))]
      exact ih fun q hq => h1 q (by simp [hq])
  | k + 1, hk => by
    simp only [readN]
    rw [if_neg, In.read h1 h2 at' h k (by omega)]
    intro e
    rw [wat_eq (by omega)] at e
    have hh := h2 ws[k] (List.getElem_mem _)
    exact h (by omega)
theorem DS.In.read {D : DS} (h : Wal.DS.In D) {at' : Int} (h2 : ¬ (0 ≤ at' ∧ at' < 2048)) : D.read at' = zs := Wal.In.read h.1 h.2 at' h2 _ (Nat.le_refl _)
theorem pieceP_zs (number place : Int) : pieceP zs number place = none := pieceP_end (by decide)
theorem moreP_some {rd : Int → Sec} {number at' all : Int} : ∀ (m : Nat) {b : List UInt8}, moreP rd number at' all m = some b → ∀ k, k < m → ∃ x, pieceP (rd (at' + k)) number k = some (x, all)
  | 0, _, _, k, hk => by omega
  | m + 1, b, h, k, hk => by
    simp only [moreP] at h
    split at h
    · cases h
    · rename_i b' hb
      split at h
      · cases h
      · rename_i x same hx
        split at h
        · rename_i hs
          by_cases e : k = m
          · subst e; exact ⟨x, by rw [hx, hs]⟩
          · exact moreP_some m hb k (by omega)
        · cases h
theorem standsP_facts {rd : Int → Sec} {number at' all : Int} {b : List UInt8} (hl : (rd at').length = 64) (h : standsP rd number at' = some (b, all)) : 0 < all ∧ all ≤ 255 ∧ ∀ k : Nat, (k : Int) < all → ∃ x, pieceP (rd (at' + k)) number k = some (x, all) := by
  unfold standsP at h
  split at h
  · cases h
  · rename_i x al hp
    obtain ⟨f1, f2, _⟩ := pieceP_facts hl hp
    obtain ⟨c, hc, e⟩ := Option.map_eq_some_iff.1 h
    injection e with e1 e2
    subst e1; subst e2
    exact ⟨f1, f2, fun k hk => moreP_some _ hc k (by omega)⟩
theorem standsP_room {D : DS} (hI : Wal.DS.In D) (hD : D.Ok) {number at' all : Int} {b : List UInt8} (h0 : 0 ≤ at') (h : standsP D.read number at' = some (b, all)) : at' + all ≤ 2048 := by
  obtain ⟨f1, f2, f3⟩ := standsP_facts (DS.read_len hD _) h
  obtain ⟨x, hx⟩ := f3 (all - 1).toNat (by omega)
  by_cases q : at' + all ≤ 2048
  · exact q
  · rw [DS.In.read hI (by omega), pieceP_zs] at hx; cases hx
theorem scan_stop {rd : Int → Sec} {f : Nat} {cnt used : Int} (h : standsP rd (cnt + 1) used = none) : scanP rd f cnt used = ([], used) := by
  cases f with
  | zero => rfl
  | succ f => simp only [scanP, h]
theorem scan_go {rd : Int → Sec} {f : Nat} {cnt used all : Int} {b : List UInt8} (h : standsP rd (cnt + 1) used = some (b, all)) : scanP rd (f + 1) cnt used = (b :: (scanP rd f (cnt + 1) (used + all)).1, (scanP rd f (cnt + 1) (used + all)).2) := by simp only [scanP, h]
def Scan (D : DS) (f : Nat) (rs : List (List UInt8)) (used : Int) : Prop :=
  scanP D.read fuel0 0 0 = (rs ++ (scanP D.read f rs.length used).1, (scanP D.read f rs.length used).2) ∧ 0 ≤ used ∧ used ≤ 2048 ∧ 2049 ≤ (f : Int) + used ∧ (rs.length : Int) ≤ used
theorem Scan.start (D : DS) : Scan D fuel0 [] 0 := by
  refine ⟨?_, by omega, by omega, by rw [fuel0_eq]; omega, by simp⟩
  have e : ((([] : List (List UInt8)).length : Nat) : Int) = 0 := rfl
  rw [List.nil_append, e]

theorem Scan.next {D : DS} (hI : Wal.DS.In D) (hD : D.Ok) {f : Nat} {rs : List (List UInt8)} {used all : Int} {b : List UInt8} (h : Scan D f rs used) (h2 : standsP D.read ((rs.length : Int) + 1) used = some (b, all)) : ∃ f', f = f' + 1 ∧ Scan D f' (rs ++ [b]) (used + all) := by
  obtain ⟨h1, h0, h3, h4, h5⟩ := h
  have hr := standsP_room hI hD h0 h2
  have hf := (standsP_facts (DS.read_len hD _) h2).1
  obtain ⟨f', rfl⟩ : ∃ f', f = f' + 1 := ⟨f - 1, by omega⟩
  refine ⟨f', rfl, ?_, by omega, by omega, by omega, by simp; omega⟩
  rw [h1, scan_go h2]
  simp
theorem Scan.stop {D : DS} {f : Nat} {rs : List (List UInt8)} {used : Int} (h : Scan D f rs used) (h2 : standsP D.read ((rs.length : Int) + 1) used = none) : scanP D.read fuel0 0 0 = (rs, used) := by
  rw [h.1, scan_stop h2]; simp
theorem wipe_end {D : DS} {at' : Int} (h : 2048 ≤ at') : wipeP (2048 - at').toNat at' D = (0, D) := by rw [show (2048 - at').toNat = 0 by omega]; rfl
theorem wipe_skip {D : DS} {at' : Int} (h : at' < 2048) (h2 : D.read at' = zs) : wipeP (2048 - at').toNat at' D = wipeP (2048 - (at' + 1)).toNat (at' + 1) D := by
  rw [show (2048 - at').toNat = (2048 - (at' + 1)).toNat + 1 by omega, wipeP, if_pos h2]
theorem wipe_go {D : DS} {at' : Int} (h : at' < 2048) (h2 : D.read at' ≠ zs) (h3 : (D.write at' []).1 = 0) : wipeP (2048 - at').toNat at' D = wipeP (2048 - (at' + 1)).toNat (at' + 1) (D.write at' []).2 := by
  rw [show (2048 - at').toNat = (2048 - (at' + 1)).toNat + 1 by omega, wipeP, if_neg h2, if_pos h3]
theorem wipe_fail {D : DS} {at' : Int} (h : at' < 2048) (h2 : D.read at' ≠ zs) (h3 : (D.write at' []).1 ≠ 0) : wipeP (2048 - at').toNat at' D = D.write at' [] := by
  rw [show (2048 - at').toNat = (2048 - (at' + 1)).toNat + 1 by omega, wipeP, if_neg h2, if_neg h3]
theorem open_fail1 {D D' : DS} {rs : List (List UInt8)} {used e : Int} (h : scanP D.read fuel0 0 0 = (rs, used)) (h2 : wipeP (2048 - used).toNat used D = (e, D')) (h3 : e ≠ 0) : openP D = ⟨e, [], 0, D'⟩ := by
  simp only [openP, h, h2]
  rw [if_pos h3]
theorem open_fail2 {D D' : DS} {rs : List (List UInt8)} {used : Int} (h : scanP D.read fuel0 0 0 = (rs, used)) (h2 : wipeP (2048 - used).toNat used D = (0, D')) (h3 : D'.sync.1 ≠ 0) : openP D = ⟨D'.sync.1, [], 0, D'.sync.2⟩ := by
  simp only [openP, h, h2, ne_eq, not_true_eq_false, if_false]
  rw [if_pos h3]
theorem open_ok {D D' : DS} {rs : List (List UInt8)} {used : Int} (h : scanP D.read fuel0 0 0 = (rs, used)) (h2 : wipeP (2048 - used).toNat used D = (0, D')) (h3 : D'.sync.1 = 0) : openP D = ⟨0, rs, used, D'.sync.2⟩ := by
  simp only [openP, h, h2, ne_eq, not_true_eq_false, if_false]
  rw [if_neg (by simp [h3])]
/-! ### Put -/
def writesP : List Sec → Int → DS → Int × DS
  | [], _, D => (0, D)
  | s :: ss, at', D => if (D.write at' s).1 = 0 then writesP ss (at' + 1) (D.write at' s).2 else D.write at' s
structure PutR where
  err : Int
  cnt : Nat
  used : Int
  D : DS
def putL (D : DS) (cnt : Nat) (used : Int) (bs : List UInt8) : PutR :=
  if 3000 < bs.length then ⟨2, cnt, used, D⟩
  else if (piecesN bs.length : Int) > 2048 - used then ⟨3, cnt, used, D⟩
  else
    let w := writesP (sectorsP ((cnt + 1 : Nat) : Int) bs) used D
    if w.1 ≠ 0 then ⟨w.1, cnt, used, w.2⟩ else if w.2.sync.1 ≠ 0 then ⟨w.2.sync.1, cnt, used, w.2.sync.2⟩ else ⟨0, cnt + 1, used + piecesN bs.length, w.2.sync.2⟩
theorem writes_step {ss : List Sec} {at' : Int} {D : DS} {k : Nat} (hk : k < ss.length) (h : (D.write (at' + k) ss[k]).1 = 0) : writesP (ss.drop k) (at' + k) D = writesP (ss.drop (k + 1)) (at' + (k + 1 : Nat)) (D.write (at' + k) ss[k]).2 := by
  rw [List.drop_eq_getElem_cons hk, writesP, if_pos h]
  congr 1
  omega
theorem writes_fail {ss : List Sec} {at' : Int} {D : DS} {k : Nat} (hk : k < ss.length) (h : (D.write (at' + k) ss[k]).1 ≠ 0) : writesP (ss.drop k) (at' + k) D = D.write (at' + k) ss[k] := by
  rw [List.drop_eq_getElem_cons hk, writesP, if_neg h]
section
variable {D D' : DS} {cnt : Nat} {used : Int} {bs : List UInt8}
theorem put_long (h : 3000 < bs.length) : putL D cnt used bs = ⟨2, cnt, used, D⟩ := by rw [putL, if_pos h]
theorem put_full (h : ¬ 3000 < bs.length) (h2 : (piecesN bs.length : Int) > 2048 - used) : putL D cnt used bs = ⟨3, cnt, used, D⟩ := by rw [putL, if_neg h, if_pos h2]
theorem put_fail1 {e : Int} (h : ¬ 3000 < bs.length) (h2 : ¬ (piecesN bs.length : Int) > 2048 - used) (h3 : writesP (sectorsP ((cnt + 1 : Nat) : Int) bs) used D = (e, D')) (h4 : e ≠ 0) : putL D cnt used bs = ⟨e, cnt, used, D'⟩ := by
  rw [putL, if_neg h, if_neg h2]
  simp only [h3]
  rw [if_pos h4]
theorem put_fail2 (h : ¬ 3000 < bs.length) (h2 : ¬ (piecesN bs.length : Int) > 2048 - used) (h3 : writesP (sectorsP ((cnt + 1 : Nat) : Int) bs) used D = (0, D')) (h4 : D'.sync.1 ≠ 0) : putL D cnt used bs = ⟨D'.sync.1, cnt, used, D'.sync.2⟩ := by
  rw [putL, if_neg h, if_neg h2]
  simp only [h3, ne_eq, not_true_eq_false, if_false]
  rw [if_pos h4]
theorem put_ok (h : ¬ 3000 < bs.length) (h2 : ¬ (piecesN bs.length : Int) > 2048 - used) (h3 : writesP (sectorsP ((cnt + 1 : Nat) : Int) bs) used D = (0, D')) (h4 : D'.sync.1 = 0) : putL D cnt used bs = ⟨0, cnt + 1, used + piecesN bs.length, D'.sync.2⟩ := by
  rw [putL, if_neg h, if_neg h2]
  simp only [h3, ne_eq, not_true_eq_false, if_false]
  rw [if_neg (by simp [h4])]
end
end Wal
end

section
namespace Go.Proofs.YtfceaphohlbnbaaGreat

open Go Leg Codec Api Dsk Wal

set_option maxRecDepth 100000

abbrev lgP (lg d : Nat) (cnt used : Int) : HP := blkA lg [.pointer (some ⟨d, 0, none⟩), .int .i64 cnt, .int .i64 used] 143
abbrev rcP (v : Value) (ls : List (List UInt8)) : HP := recsP 106 5 v ls

theorem stands_does (d : Nat) (D : DS) (number at' : Int) (hD : D.Ok) (hb : D.ws.length ≤ 1000000000) (ha : 0 ≤ at' ∧ at' ≤ 1000000) :
    Does Tryz.prog 68 #[(.pointer (some ⟨d, 0, none⟩)), (.int .i64 (number)), (.int .i64 (at'))] (fun _ => True) [dk d (D)] (Ret (fun v H => (standsP D.read number at' = none ∧ v = .tuple #[.slice none 0 0, .int .i64 0, .bool false] ∧ H = [dk d D]) ∨ ∃ b all u, standsP D.read number at' = some (b, all) ∧ v = .tuple #[u, .int .i64 all, .bool true] ∧ H = [subB u b 5, dk d D])) := by
 refine Does.body (vs := [(.pointer (some ⟨d, 0, none⟩)), (.int .i64 (number)), (.int .i64 (at'))]) (n := 56) Tryz.func68 rfl rfl rfl (fun w0 F hF => ?_)
 refine sr fun _ J1 => ?_
 refine sg' ?_
 refine sg' ?_
 refine sg' ?_
 refine nx J1 ?_
 refine sr fun _ J2 => ?_
 refine mv ?_
 refine mv ?_
 refine TL.callR (A := [dk d (D)]) (Want.plain rfl) rfl rfl rfl nm69 rfl (dk_read d (D) at' hD hb) (fun _ s => s) (fun _ _ _ => trivial) (fun vR HR hR => ?_)
 obtain ⟨hv, rfl⟩ := hR
 subst hv
 change TL _ _ _ _ _ _ _ _ _ [dk d (D)]
 refine mv ?_
 refine TL.callR (A := []) (Want.plain rfl) rfl rfl rfl nm97 rfl (piece_does ((D).read at') number 0 (DS.read_len hD _)) (fun _ s => s) (fun _ _ _ => trivial) (fun vR HR hR => ?_)
 rcases hR with ⟨hp, rfl, rfl⟩ | ⟨b, all, u, hp, rfl, rfl⟩
 change TL _ _ _ _ _ _ _ _ _ [dk d (D)]
 refine mv ?_
 refine tp (PV.extract (vs := [(.slice none 0 0), (.int .i64 0), (.bool false)]) rfl rfl rfl) ?_
 refine tp (PV.extract (vs := [(.slice none 0 0), (.int .i64 0), (.bool false)]) rfl rfl rfl) ?_
 refine tp (PV.extract (vs := [(.slice none 0 0), (.int .i64 0), (.bool false)]) rfl rfl rfl) ?_
 refine sg' ?_
 refine sg' ?_
 refine sg' ?_
 refine nx J2 ?_
 refine TC.seq fun _ J3 => ?_
 refine sr fun _ J4 => ?_
 refine mv ?_
 refine tp (PV.not (r := true) rfl rfl rfl) ?_
 refine nx J4 ?_
 refine TC.yes rfl ?_
 refine sr fun _ J5 => ?_
 refine sg' ?_
 refine sg' ?_
 refine sg' ?_
 refine nx J5 ?_
 refine TC.ret ?_
 refine TE.passRet ?_
 refine TE.weak (Sub.refl _) (fun _ s => sep_keep [0] rfl s) ?_
 refine TE.ret3 rfl rfl rfl rfl ?_
 exact .inl ⟨standsP_none1 hp, rfl, rfl⟩
 change TL _ _ _ _ _ _ _ _ _ [subB u (b) 5, dk d (D)]
 refine TL.subLen 0 rfl rfl (fun hul hu => ?_)
 have hpf := pieceP_facts (DS.read_len hD _) hp
 refine mv ?_
 refine tp (PV.extract (vs := [u, (.int .i64 (all)), (.bool true)]) rfl rfl rfl) ?_
 refine tp (PV.extract (vs := [u, (.int .i64 (all)), (.bool true)]) rfl rfl rfl) ?_
 refine tp (PV.extract (vs := [u, (.int .i64 (all)), (.bool true)]) rfl rfl rfl) ?_
 refine sg' ?_
 refine sg' ?_
 refine sg' ?_
 refine nx J2 ?_
 refine TC.seq fun _ J6 => ?_
 refine sr fun _ J7 => ?_
 refine mv ?_
 refine tp (PV.not (r := false) rfl rfl rfl) ?_
 refine nx J7 ?_
 refine TC.no rfl ?_
 refine TC.skip ?_
 refine TE.next J6 ?_
 refine TC.seq fun _ J8 => ?_
 refine sr fun _ J9 => ?_
 refine sg' ?_
 refine nx J9 ?_
 refine TC.block ?_
 refine TC.loop (α := (Nat) × (List UInt8) × (Value)) (fun ⟨k, c, w⟩ => 1 ≤ k ∧ k ≤ all.toNat ∧ moreP D.read number at' all k = some c ∧ c.length ≤ k * 52 ∧ w.oneCell' = true) (fun ⟨k, c, w⟩ => [(0, (.pointer (some ⟨d, 0, none⟩))), (1, (.int .i64 (number))), (2, (.int .i64 (at'))), (9, w), (10, (.int .i64 (all))), (12, (.int .i64 (((k : Nat) : Int))))]) (fun ⟨k, c, w⟩ => [subB w (c) 5, dk d (D)]) (fun ⟨k, c, w⟩ => all.toNat - k) (1, b, u)
     ⟨Nat.le_refl _, by omega, moreP_one hp, by omega, hu⟩ (Sub.r (Sub.r (Sub.r (Sub.r (Sub.r (Sub.cons rfl (by congr 1) (Sub.nil _)))))))
     (fun _ s => s) (fun ⟨k, c, w⟩ hinv => ?_)
 obtain ⟨hk1, hk2, hk3, hk4, hw⟩ := hinv
 refine TC.seq fun _ J10 => ?_
 refine sr fun _ J11 => ?_
 refine mv ?_
 refine mv ?_
 refine tp (PV.lss rfl rfl rfl) ?_
 refine TL.dec (fun h29 => ?_) (fun h29 => ?_)
 refine nx J11 ?_
 refine TC.yes rfl ?_
 refine TC.skip ?_
 refine TE.next J10 ?_
 refine TC.seq fun _ J12 => ?_
 refine TC.block ?_
 refine sr fun _ J13 => ?_
 refine mv ?_
 refine mv ?_
 refine mv ?_
 refine tp (PV.add rfl rfl rfl (wrap_i64 (by omega) (by omega))) ?_
 refine TL.callR (A := [dk d (D)]) (Want.plain rfl) rfl rfl rfl nm69 rfl (dk_read d (D) (at' + ((k : Nat) : Int)) hD hb) (fun _ s => sep_selR [1] rfl s) (fun _ _ _ => trivial) (fun vR HR hR => ?_)
 obtain ⟨hv, rfl⟩ := hR
 subst hv
 change TL _ _ _ _ _ _ _ _ _ [dk d (D), subB w (c) 5]
 refine mv ?_
 refine mv ?_
 refine TL.callR (A := []) (Want.plain rfl) rfl rfl rfl nm97 rfl (piece_does ((D).read (at' + ((k : Nat) : Int))) number ((k : Nat) : Int) (DS.read_len hD _)) (fun _ s => s) (fun _ _ _ => trivial) (fun vR HR hR => ?_)
 rcases hR with ⟨hp2, rfl, rfl⟩ | ⟨b2, all2, u2, hp2, rfl, rfl⟩
 change TL _ _ _ _ _ _ _ _ _ [dk d (D), subB w (c) 5]
 refine mv ?_
 refine tp (PV.extract (vs := [(.slice none 0 0), (.int .i64 0), (.bool false)]) rfl rfl rfl) ?_
 refine tp (PV.extract (vs := [(.slice none 0 0), (.int .i64 0), (.bool false)]) rfl rfl rfl) ?_
 refine tp (PV.extract (vs := [(.slice none 0 0), (.int .i64 0), (.bool false)]) rfl rfl rfl) ?_
 refine sg' ?_
 refine sg' ?_
 refine sg' ?_
 refine nx J13 ?_
 refine TC.seq fun _ J14 => ?_
 refine sr fun _ J15 => ?_
 refine mv ?_
 refine tp (PV.not (r := true) rfl rfl rfl) ?_
 refine mv ?_
 refine TL.unmet (b := true) rfl rfl rfl rfl (lb rfl) ?_
 refine TL.unmet (b := true) rfl rfl rfl rfl (lb rfl) ?_
 refine TL.unmet (b := true) rfl rfl rfl rfl (lb rfl) ?_
 refine tp (PV.pick rfl rfl rfl) ?_
 refine nx J15 ?_
 refine TC.yes rfl ?_
 refine sr fun _ J16 => ?_
 refine sg' ?_
 refine sg' ?_
 refine sg' ?_
 refine nx J16 ?_
 refine TC.ret ?_
 refine TE.passRet ?_
 refine TE.blockRet ?_
 refine TE.passRet ?_
 refine TE.passRet ?_
 refine TE.blockRet ?_
 refine TE.passRet ?_
 refine TE.weak (Sub.refl _) (fun _ s => sep_keep [0] rfl s) ?_
 refine TE.ret3 rfl rfl rfl rfl ?_
 exact .inl ⟨standsP_none2 hp (moreP_stop (.inl hp2) _ (by omega)), rfl, rfl⟩
 change TL _ _ _ _ _ _ _ _ _ [subB u2 (b2) 5, dk d (D), subB w (c) 5]
 refine TL.subLen 0 rfl rfl (fun hul2 hu2 => ?_)
 have hpf2 := pieceP_facts (DS.read_len hD _) hp2
 refine mv ?_
 refine tp (PV.extract (vs := [u2, (.int .i64 (all2)), (.bool true)]) rfl rfl rfl) ?_
 refine tp (PV.extract (vs := [u2, (.int .i64 (all2)), (.bool true)]) rfl rfl rfl) ?_
 refine tp (PV.extract (vs := [u2, (.int .i64 (all2)), (.bool true)]) rfl rfl rfl) ?_
 refine sg' ?_
 refine sg' ?_
 refine sg' ?_
 refine nx J13 ?_
 refine TC.seq fun _ J17 => ?_
 refine sr fun _ J18 => ?_
 refine mv ?_
 refine tp (PV.not (r := false) rfl rfl rfl) ?_
 refine mv ?_
 refine tq (PV.move rfl rfl) ?_
 refine tq (PV.move rfl rfl) ?_
 refine tq (PV.neq rfl rfl rfl) ?_
 refine TL.dec (fun h49 => ?_) (fun h49 => ?_)
 refine tp (PV.pick rfl rfl rfl) ?_
 refine nx J18 ?_
 refine TC.yes rfl ?_
 refine sr fun _ J19 => ?_
 refine sg' ?_
 refine sg' ?_
 refine sg' ?_
 refine nx J19 ?_
 refine TC.ret ?_
 refine TE.passRet ?_
 refine TE.blockRet ?_
 refine TE.passRet ?_
 refine TE.passRet ?_
 refine TE.blockRet ?_
 refine TE.passRet ?_
 refine TE.weak (Sub.refl _) (fun _ s => sep_keep [1] rfl s) ?_
 refine TE.ret3 rfl rfl rfl rfl ?_
 exact .inl ⟨standsP_none2 hp (moreP_stop (.inr ⟨b2, all2, hp2, h49⟩) _ (by omega)), rfl, rfl⟩
 refine tp (PV.pick rfl rfl rfl) ?_
 refine nx J18 ?_
 refine TC.no rfl ?_
 refine TC.skip ?_
 refine TE.next J17 ?_
 refine TC.region ?_
 refine mv ?_
 refine mv ?_
 refine TL.appendS (k := 2) (news := b2) (bs' := c ++ b2) (Want.plain rfl) rfl rfl rfl Tryz.underlying106 in5 rfl rfl rfl rfl (fun _ s => Src.sub 0 rfl rfl s) (by omega) rfl (fun v53 ov53 => ?_)
 change TL _ _ _ _ _ _ _ _ _ [subB u2 (b2) 5, dk d (D), subB v53 (c ++ b2) 5]
 refine sg' ?_
 refine TL.nil ?_
 refine TE.blockEnd ?_
 refine TE.next J12 ?_
 refine TC.region ?_
 refine mv ?_
 refine tp (PV.add rfl rfl rfl (wrap_i64 (by omega) (by omega))) ?_
 refine sg' ?_
 refine TL.nil ?_
 exact TE.round ((k + 1, c ++ b2, v53) : (Nat) × (List UInt8) × (Value)) ⟨by omega, by omega, moreP_go hk3 (by rw [hp2, show all2 = all by omega]), by rw [List.length_append]; omega, ov53⟩ (by show all.toNat - (k + 1) < all.toNat - k; omega)
   (Sub.r (Sub.r (Sub.r (Sub.r (Sub.r (Sub.cons rfl (by simp) (Sub.nil _)))))))
   (fun _ s => sep_keep [2, 1] rfl s)
 refine nx J11 ?_
 refine TC.no rfl ?_
 refine TC.exit ?_
 refine TE.pass ?_
 refine TE.pass ?_
 refine TE.hit ?_
 refine TE.next J8 ?_
 refine sr fun _ J20 => ?_
 refine mv ?_
 refine mv ?_
 refine sg' ?_
 refine sg' ?_
 refine sg' ?_
 refine nx J20 ?_
 refine TC.ret ?_
 refine TE.weak (Sub.refl _) (fun _ s => sep_keep [0, 0] rfl s) ?_
 refine TE.ret3 rfl rfl rfl rfl ?_
 exact .inr ⟨c, all, w, standsP_some hp (by rw [show all.toNat = k by omega]; exact hk3), rfl, rfl⟩
theorem room_does (lg d : Nat) (cnt used : Int) (h : 0 ≤ used ∧ used ≤ 2048) :
    Does Tryz.prog 122 #[(.pointer (some ⟨lg, 0, none⟩))] (fun _ => True) [blkA lg [(.pointer (some ⟨d, 0, none⟩)), (.int .i64 (cnt)), (.int .i64 (used))] 143] (Ret (fun v H => v = .int .i64 (2048 - used) ∧ H = [lgP lg d cnt used])) := by
 refine Does.body (vs := [(.pointer (some ⟨lg, 0, none⟩))]) (n := 8) Tryz.func122 rfl rfl rfl (fun w0 F hF => ?_)
 refine sr fun _ J1 => ?_
 refine sg' ?_
 refine nx J1 ?_
 refine sr fun _ J2 => ?_
 refine mv ?_
 refine tp (PV.nilCheck rfl rfl) ?_
 refine tp (PV.fieldAddr (r := 2) rfl Tryz.underlying143 rfl sz3 rfl rfl) ?_
 refine tp (PV.load1 (v := (.int .i64 (used))) rfl Tryz.underlying3 rfl rfl (Rd.own 0 rfl rfl) rfl) ?_
 refine tp (PV.sub rfl rfl rfl (wrap_i64 (by omega) (by omega))) ?_
 refine sg' ?_
 refine nx J2 ?_
 refine TC.ret ?_
 refine TE.weak (Sub.refl _) (fun _ s => sep_keep [0] rfl s) ?_
 refine TE.ret1 rfl rfl ?_
 exact ⟨rfl, rfl⟩
theorem walPut_does (lg d cnt : Nat) (used : Int) (x : Value) (bs : List UInt8) (D : DS) (hD : D.Ok) (hb : D.ws.length ≤ 1000000) (hu : 0 ≤ used ∧ used ≤ 2048) (hc : cnt ≤ 1000000) :
    Does Tryz.prog 112 #[(.pointer (some ⟨lg, 0, none⟩)), x] (IsW x bs) [blkA lg [(.pointer (some ⟨d, 0, none⟩)), (.int .i64 (((cnt : Nat) : Int))), (.int .i64 (used))] 143, dk d (D)] (Ret (fun v H => v = .int .i64 (putL D cnt used bs).err ∧ H = [lgP lg d (((putL D cnt used bs).cnt : Nat) : Int) (putL D cnt used bs).used, dk d (putL D cnt used bs).D])) := by
 refine Does.body (vs := [(.pointer (some ⟨lg, 0, none⟩)), x]) (n := 72) Tryz.func112 rfl rfl rfl (fun w0 F hF => ?_)
 refine sr fun _ J1 => ?_
 refine sg' ?_
 refine nx J1 ?_
 refine TC.seq fun _ J2 => ?_
 refine sr fun _ J3 => ?_
 refine mv ?_
 refine tp (PV.lenV rfl Tryz.underlying106 rfl hF.len) ?_
 refine tp (PV.gtr rfl rfl rfl) ?_
 refine TL.dec (fun h12 => ?_) (fun h12 => ?_)
 refine nx J3 ?_
 refine TC.yes rfl ?_
 refine sr fun _ J4 => ?_
 refine sg' ?_
 refine nx J4 ?_
 refine TC.ret ?_
 refine TE.passRet ?_
 refine TE.weak (Sub.refl _) (fun _ s => sep_keep [0, 0] rfl s) ?_
 refine TE.ret1 rfl rfl ?_
 rw [put_long (by omega)]
 exact ⟨rfl, rfl⟩
 refine nx J3 ?_
 refine TC.no rfl ?_
 refine TC.skip ?_
 refine TE.next J2 ?_
 refine sr fun _ J5 => ?_
 refine mv ?_
 refine tp (PV.lenV rfl Tryz.underlying106 rfl hF.len) ?_
 refine TL.callR (A := []) (Want.plain rfl) rfl rfl rfl nm121 rfl (pieces_does bs.length (by omega)) (fun _ s => s) (fun _ _ _ => trivial) (fun vR HR hR => ?_)
 obtain ⟨rfl, rfl⟩ := hR
 change TL _ _ _ _ _ _ _ _ _ [blkA lg [(.pointer (some ⟨d, 0, none⟩)), (.int .i64 (((cnt : Nat) : Int))), (.int .i64 (used))] 143, dk d (D)]
 refine sg' ?_
 refine nx J5 ?_
 refine TC.seq fun _ J6 => ?_
 refine sr fun _ J7 => ?_
 refine mv ?_
 refine mv ?_
 refine TL.callR (A := [blkA lg [(.pointer (some ⟨d, 0, none⟩)), (.int .i64 (((cnt : Nat) : Int))), (.int .i64 (used))] 143]) (Want.plain rfl) rfl rfl rfl nm122 rfl (room_does lg d ((cnt : Nat) : Int) used hu) (fun _ s => s) (fun _ _ _ => trivial) (fun vR HR hR => ?_)
 obtain ⟨rfl, rfl⟩ := hR
 change TL _ _ _ _ _ _ _ _ _ [blkA lg [(.pointer (some ⟨d, 0, none⟩)), (.int .i64 (((cnt : Nat) : Int))), (.int .i64 (used))] 143, dk d (D)]
 refine tp (PV.gtr rfl rfl rfl) ?_
 refine TL.dec (fun h19 => ?_) (fun h19 => ?_)
 refine nx J7 ?_
 refine TC.yes rfl ?_
 refine sr fun _ J8 => ?_
 refine sg' ?_
 refine nx J8 ?_
 refine TC.ret ?_
 refine TE.passRet ?_
 refine TE.weak (Sub.refl _) (fun _ s => sep_keep [0, 0] rfl s) ?_
 refine TE.ret1 rfl rfl ?_
 rw [put_full (by omega) (by omega)]
 exact ⟨rfl, rfl⟩
 refine nx J7 ?_
 refine TC.no rfl ?_
 refine TC.skip ?_
 refine TE.next J6 ?_
 refine TC.seq fun _ J9 => ?_
 refine sr fun _ J10 => ?_
 refine mv ?_
 refine tp (PV.nilCheck rfl rfl) ?_
 refine tp (PV.fieldAddr (r := 1) rfl Tryz.underlying143 rfl sz3 rfl rfl) ?_
 refine tp (PV.load1 (v := (.int .i64 (((cnt : Nat) : Int)))) rfl Tryz.underlying3 rfl rfl (Rd.own 0 rfl rfl) rfl) ?_
 refine tp (PV.to (v' := (.int .i64 (((cnt + 1 : Nat) : Int)))) (PV.add rfl rfl rfl (wrap_i64 (by omega) (by omega))) rfl) ?_
 refine mv ?_
 refine TL.callR (A := []) (Want.plain rfl) rfl rfl rfl nm123 rfl (sectors_does x (cnt + 1) bs (by omega)) (fun _ s => s) (fun g d _ => IsW.more hF d) (fun vR HR hR => ?_)
 have hR := hR
 subst hR
 change TL _ _ _ _ _ _ _ _ _ [recsP 106 5 vR (sectorsP ((cnt + 1 : Nat) : Int) bs), blkA lg [(.pointer (some ⟨d, 0, none⟩)), (.int .i64 (((cnt : Nat) : Int))), (.int .i64 (used))] 143, dk d (D)]
 refine TL.recsLen 0 rfl rfl (fun hrl hro => ?_)
 rw [sectorsP_len] at hrl
 refine tp (PV.lenV rfl Tryz.underlying97 rfl hrl) ?_
 refine mv ?_
 refine nx J10 ?_
 refine TC.block ?_
 refine TC.loop (α := (Nat) × (DS)) (fun ⟨k, D'⟩ => k ≤ piecesN bs.length ∧ writesP (sectorsP ((cnt + 1 : Nat) : Int) bs) used D = writesP ((sectorsP ((cnt + 1 : Nat) : Int) bs).drop k) (used + (k : Nat)) D' ∧ D'.Ok ∧ D'.ws.length ≤ D.ws.length + k) (fun ⟨k, D'⟩ => [(0, (.pointer (some ⟨lg, 0, none⟩))), (5, (.int .i64 (((piecesN bs.length : Nat) : Int)))), (26, vR), (27, (.int .i64 ((((piecesN bs.length) : Nat) : Int)))), (28, (.int .i64 (((k : Nat) : Int))))]) (fun ⟨k, D'⟩ => [blkA lg [(.pointer (some ⟨d, 0, none⟩)), (.int .i64 (((cnt : Nat) : Int))), (.int .i64 (used))] 143, dk d (D'), recsP 106 5 vR (sectorsP ((cnt + 1 : Nat) : Int) bs)]) (fun ⟨k, D'⟩ => piecesN bs.length - k) (0, D)
     ⟨Nat.zero_le _, by simp, hD, by omega⟩ (Sub.r (Sub.r (Sub.r (Sub.r (Sub.cons rfl (by congr 1) (Sub.nil _))))))
     (fun _ s => sep_selR [1, 1, 0] rfl s) (fun ⟨k, D'⟩ hinv => ?_)
 obtain ⟨hk, hwr, hD', hws⟩ := hinv
 refine sr fun _ J11 => ?_
 refine tp (PV.lss rfl rfl rfl) ?_
 refine TL.dec (fun h29 => ?_) (fun h29 => ?_)
 refine TL.mono (fun _ s => sep_selR [2] rfl s) ?_
 refine TL.recsOpen (fun us => ?_)
 change TL _ _ _ _ _ _ _ _ _ [own vR ((sectorsP ((cnt + 1 : Nat) : Int) bs).length) (us) 106 1, bunch us (sectorsP ((cnt + 1 : Nat) : Int) bs) 5, blkA lg [(.pointer (some ⟨d, 0, none⟩)), (.int .i64 (((cnt : Nat) : Int))), (.int .i64 (used))] 143, dk d (D')]
 refine TL.fact (p := us.length = (sectorsP ((cnt + 1 : Nat) : Int) bs).length * 1) (fun w m => m.own_len (i := 0) (lb rfl) rfl) (fun hul => ?_)
 rw [sectorsP_len, Nat.mul_one] at hul
 have hkl : k < (sectorsP ((cnt + 1 : Nat) : Int) bs).length := by rw [sectorsP_len]; omega
 obtain ⟨sk, hsk⟩ : ∃ x, (sectorsP ((cnt + 1 : Nat) : Int) bs)[k] = x := ⟨_, rfl⟩
 refine TL.ownAt 0 rfl rfl (by omega) (fun g cap hv hcap => ?_)
 refine nx J11 ?_
 refine TC.seq fun _ J12 => ?_
 refine TC.yes rfl ?_
 refine TC.skip ?_
 refine TE.next J12 ?_
 refine TC.seq fun _ J13 => ?_
 refine TC.block ?_
 refine sr fun _ J14 => ?_
 refine mv ?_
 refine tp (PV.indexSlV (r := k) hv rfl Tryz.underlying97 sz106 rfl rfl (by omega) (by omega) (by omega)) ?_
 refine tp (PV.load1X (v := (us.getD k undef)) rfl Tryz.underlying106 rfl rfl (RdX.own 0 rfl hv rfl) (by simp [List.getD_eq_getElem?_getD, show k < us.length by omega])) ?_
 refine sg' ?_
 refine sg' ?_
 refine nx J14 ?_
 refine TC.seq fun _ J15 => ?_
 refine TC.draw (fun w => Frm F w ∧ w.heap[lg]? = some (.cells ([(.pointer (some ⟨d, 0, none⟩)), (.int .i64 (((cnt : Nat) : Int))), (.int .i64 (used))]).toArray 143 (0, 0)) ∧ True) mixedD rfl (fun _ s => ⟨Frm.of s, s.block 2 (lb rfl) rfl, trivial⟩) ?_
 refine ta 0 rfl (PV.move rfl rfl) ?_
 refine ta 1 rfl (PV.nilCheck rfl rfl) ?_
 refine ta 2 rfl (PV.fieldAddr (r := 0) rfl Tryz.underlying143 rfl sz28 rfl rfl) ?_
 refine ta 3 rfl (PV.load1 (v := (.pointer (some ⟨d, 0, none⟩))) rfl Tryz.underlying28 rfl rfl (fun _ h => h.2.1) rfl) ?_
 refine ta 4 rfl (PV.move rfl rfl) ?_
 refine ta 5 rfl (PV.nilCheck rfl rfl) ?_
 refine ta 6 rfl (PV.fieldAddr (r := 2) rfl Tryz.underlying143 rfl sz3 rfl rfl) ?_
 refine ta 7 rfl (PV.load1 (v := (.int .i64 (used))) rfl Tryz.underlying3 rfl rfl (fun _ h => h.2.1) rfl) ?_
 refine ta 8 rfl (PV.move rfl rfl) ?_
 refine ta 9 rfl (PV.add rfl rfl rfl (wrap_i64 (by omega) (by omega))) ?_
 refine ta 10 rfl (PV.move rfl rfl) ?_
 refine TD.all [11] (by kernel_rfl) rfl ?_
 refine AllT.cons rfl ?_ ?_
 refine TL.callR (A := [dk d (D')]) (Want.plain rfl) rfl rfl rfl nm70 rfl (dk_write d D' (used + ((k : Nat) : Int)) (us.getD k undef) sk hD' (by omega)) (fun _ s => sep_selR [3] rfl s) (fun g d s => IsB.w (hsk ▸ isB_bunch 1 hkl rfl rfl g d s)) (fun vR HR hR => ?_)
 obtain ⟨hv2, rfl⟩ := hR
 subst hv2
 change TL _ _ _ _ _ _ _ _ _ [dk d ((D'.write (used + ((k : Nat) : Int)) sk).2), own vR ((sectorsP ((cnt + 1 : Nat) : Int) bs).length) (us) 106 1, bunch us (sectorsP ((cnt + 1 : Nat) : Int) bs) 5, blkA lg [(.pointer (some ⟨d, 0, none⟩)), (.int .i64 (((cnt : Nat) : Int))), (.int .i64 (used))] 143]
 refine TL.nil ?_
 refine TE.draw (fun _ s => ⟨Frm.of s, s.block 3 (lb rfl) rfl, trivial⟩) ?_
 refine ta 12 rfl (PV.assign rfl rfl) ?_
 refine TD.done (by kernel_rfl) ?_
 refine TE.next J15 ?_
 refine sr fun _ J16 => ?_
 refine mv ?_
 refine tp (PV.neq rfl rfl rfl) ?_
 refine TL.dec (fun h46 => ?_) (fun h46 => ?_)
 refine nx J16 ?_
 refine TC.yes rfl ?_
 refine sr fun _ J17 => ?_
 refine mv ?_
 refine sg' ?_
 refine nx J17 ?_
 refine TC.ret ?_
 refine TE.blockRet ?_
 refine TE.passRet ?_
 refine TE.passRet ?_
 refine TE.blockRet ?_
 refine TE.passRet ?_
 refine TE.weak (Sub.refl _) (fun _ s => sep_keep [3, 0] rfl s) ?_
 refine TE.ret1 rfl rfl ?_
 have hf := writes_fail (D := D') (at' := used) hkl (by rw [hsk]; exact h46)
 rw [hsk] at hf
 rw [put_fail1 (by omega) (by omega) (hwr.trans hf) h46]
 exact ⟨rfl, rfl⟩
 refine nx J16 ?_
 refine TC.no rfl ?_
 refine TC.skip ?_
 refine TE.blockEnd ?_
 refine TE.next J13 ?_
 refine TC.region ?_
 refine tp (PV.add rfl rfl rfl (wrap_i64 (by omega) (by omega))) ?_
 refine mv ?_
 refine TL.nil ?_
 exact TE.round ((k + 1, (D'.write (used + ((k : Nat) : Int)) sk).2) : (Nat) × (DS)) ⟨by omega, by rw [hwr]; subst hsk; exact writes_step hkl (by simpa using h46), DS.write_ok hD' _ _, by have := DS.write_ws (D := D') (at' := used + ((k : Nat) : Int)) (bs := sk); omega⟩ (by show piecesN bs.length - (k + 1) < piecesN bs.length - k; omega)
   (Sub.r (Sub.r (Sub.r (Sub.r (Sub.cons rfl (by simp) (Sub.nil _))))))
   (fun _ s => sep_selR [1, 1, 0] rfl (sep_close (p := fun us : List Value => [own vR (sectorsP ((cnt + 1 : Nat) : Int) bs).length us 106 1, bunch us (sectorsP ((cnt + 1 : Nat) : Int) bs) 5]) us (sep_keep [1, 1, 1, 0] rfl s)))
 exact AllT.nil
 refine nx J11 ?_
 refine TC.seq fun _ J18 => ?_
 refine TC.no rfl ?_
 refine TC.exit ?_
 refine TE.pass ?_
 refine TE.pass ?_
 refine TE.hit ?_
 refine TE.next J9 ?_
 refine TC.seq fun _ J19 => ?_
 refine sr fun _ J20 => ?_
 refine mv ?_
 refine tp (PV.nilCheck rfl rfl) ?_
 refine tp (PV.fieldAddr (r := 0) rfl Tryz.underlying143 rfl sz28 rfl rfl) ?_
 refine tp (PV.load1 (v := (.pointer (some ⟨d, 0, none⟩))) rfl Tryz.underlying28 rfl rfl (Rd.own 0 rfl rfl) rfl) ?_
 refine TL.callR (A := [dk d (D')]) (Want.plain rfl) rfl rfl rfl nm71 rfl (dk_sync d (D')  hD') (fun _ s => sep_selR [1] rfl s) (fun _ _ _ => trivial) (fun vR HR hR => ?_)
 obtain ⟨hv, rfl⟩ := hR
 subst hv
 change TL _ _ _ _ _ _ _ _ _ [dk d ((D').sync.2), blkA lg [(.pointer (some ⟨d, 0, none⟩)), (.int .i64 (((cnt : Nat) : Int))), (.int .i64 (used))] 143, recsP 106 5 vR (sectorsP ((cnt + 1 : Nat) : Int) bs)]
 refine sg' ?_
 refine nx J20 ?_
 refine sr fun _ J21 => ?_
 refine mv ?_
 refine tp (PV.neq rfl rfl rfl) ?_
 refine TL.dec (fun h55 => ?_) (fun h55 => ?_)
 refine nx J21 ?_
 refine TC.yes rfl ?_
 refine sr fun _ J22 => ?_
 refine mv ?_
 refine sg' ?_
 refine nx J22 ?_
 refine TC.ret ?_
 refine TE.passRet ?_
 refine TE.weak (Sub.refl _) (fun _ s => sep_keep [1, 0] rfl s) ?_
 refine TE.ret1 rfl rfl ?_
 have hf : writesP (sectorsP ((cnt + 1 : Nat) : Int) bs) used D = (0, D') := by rw [hwr, List.drop_of_length_le (by rw [sectorsP_len]; omega)]; rfl
 rw [put_fail2 (by omega) (by omega) hf h55]
 exact ⟨rfl, rfl⟩
 refine nx J21 ?_
 refine TC.no rfl ?_
 refine TC.skip ?_
 refine TE.next J19 ?_
 refine sr fun _ J23 => ?_
 refine mv ?_
 refine tp (PV.nilCheck rfl rfl) ?_
 refine tp (PV.fieldAddr (r := 1) rfl Tryz.underlying143 rfl sz3 rfl rfl) ?_
 refine tp (PV.load1 (v := (.int .i64 (((cnt : Nat) : Int)))) rfl Tryz.underlying3 rfl rfl (Rd.own 1 rfl rfl) rfl) ?_
 refine tp (PV.add rfl rfl rfl (wrap_i64 (by omega) (by omega))) ?_
 refine tp (PV.nilCheck rfl rfl) ?_
 refine tp (PV.fieldAddr (r := 1) rfl Tryz.underlying143 rfl sz3 rfl rfl) ?_
 refine TL.store1 (i := 1) (H' := [dk d ((D').sync.2), blkA lg [(.pointer (some ⟨d, 0, none⟩)), (.int .i64 (((cnt : Nat) : Int) + 1)), (.int .i64 (used))] 143, recsP 106 5 vR (sectorsP ((cnt + 1 : Nat) : Int) bs)]) (Want.plain rfl) rfl rfl rfl rfl rfl sz3 rfl rfl (lb rfl) rfl rfl ?_
 refine nx J23 ?_
 refine sr fun _ J24 => ?_
 refine mv ?_
 refine tp (PV.nilCheck rfl rfl) ?_
 refine tp (PV.fieldAddr (r := 2) rfl Tryz.underlying143 rfl sz3 rfl rfl) ?_
 refine tp (PV.load1 (v := (.int .i64 (used))) rfl Tryz.underlying3 rfl rfl (Rd.own 1 rfl rfl) rfl) ?_
 refine mv ?_
 refine tp (PV.add rfl rfl rfl (wrap_i64 (by omega) (by omega))) ?_
 refine tp (PV.nilCheck rfl rfl) ?_
 refine tp (PV.fieldAddr (r := 2) rfl Tryz.underlying143 rfl sz3 rfl rfl) ?_
 refine TL.store1 (i := 1) (H' := [dk d ((D').sync.2), blkA lg [(.pointer (some ⟨d, 0, none⟩)), (.int .i64 (((cnt : Nat) : Int) + 1)), (.int .i64 (used + ((piecesN bs.length : Nat) : Int)))] 143, recsP 106 5 vR (sectorsP ((cnt + 1 : Nat) : Int) bs)]) (Want.plain rfl) rfl rfl rfl rfl rfl sz3 rfl rfl (lb rfl) rfl rfl ?_
 refine nx J24 ?_
 refine sr fun _ J25 => ?_
 refine sg' ?_
 refine nx J25 ?_
 refine TC.ret ?_
 refine TE.weak (Sub.refl _) (fun _ s => sep_keep [1, 0] rfl s) ?_
 refine TE.ret1 rfl rfl ?_
 have hf : writesP (sectorsP ((cnt + 1 : Nat) : Int) bs) used D = (0, D') := by rw [hwr, List.drop_of_length_le (by rw [sectorsP_len]; omega)]; rfl
 rw [put_ok (by omega) (by omega) hf (by simpa using h55)]
 exact ⟨rfl, rfl⟩
theorem open_does (d : Nat) (D : DS) (hD : D.Ok) (hI : Wal.DS.In D) (hb : D.ws.length ≤ 1000000) :
    Does Tryz.prog 34 #[(.pointer (some ⟨d, 0, none⟩))] (fun _ => True) [dk d (D)] (Ret (fun v H => ((openP D).err ≠ 0 ∧ v = .tuple #[.pointer none, .slice none 0 0, .int .i64 (openP D).err] ∧ H = [dk d (openP D).D]) ∨ ((openP D).err = 0 ∧ ∃ lg vr, v = .tuple #[.pointer (some ⟨lg, 0, none⟩), vr, .int .i64 0] ∧ H = [lgP lg d (((openP D).recs.length : Nat) : Int) (openP D).used, rcP vr (openP D).recs, dk d (openP D).D]))) := by
 refine Does.body (vs := [(.pointer (some ⟨d, 0, none⟩))]) (n := 80) Tryz.func34 rfl rfl rfl (fun w0 F hF => ?_)
 refine sr fun _ J1 => ?_
 refine sg' ?_
 refine sg' ?_
 refine sg' ?_
 refine nx J1 ?_
 refine TC.seq fun _ J2 => ?_
 refine sr fun _ J3 => ?_
 refine mv ?_
 refine tp (PV.ptrNil rfl Tryz.underlying28 rfl rfl) ?_
 refine nx J3 ?_
 refine TC.no rfl ?_
 refine TC.skip ?_
 refine TE.next J2 ?_
 refine sr fun _ J4 => ?_
 refine mv ?_
 refine tp (PV.build (cells := #[(.pointer (some ⟨d, 0, none⟩)), (.int .i64 0), (.int .i64 0)]) rfl rfl (by as_aux_lemma => kernel_rfl)) ?_
 refine TL.box (Want.plain rfl) rfl rfl rfl rfl (fun b17 => ?_)
 change TL _ _ _ _ _ _ _ _ _ [blkA b17 [(.pointer (some ⟨d, 0, none⟩)), (.int .i64 0), (.int .i64 0)] 143, dk d (D)]
 refine sg' ?_
 refine nx J4 ?_
 refine sr fun _ J5 => ?_
 refine sg' ?_
 refine nx J5 ?_
 refine TC.seq fun _ J6 => ?_
 refine TC.block ?_
 refine TC.loop (α := (Nat) × (List (List UInt8)) × (Int) × (Value)) (fun ⟨f, rs, used, vr⟩ => Scan D f rs used ∧ vr.oneCell' = true) (fun ⟨f, rs, used, vr⟩ => [(0, (.pointer (some ⟨d, 0, none⟩))), (2, (.pointer none)), (3, (.slice none 0 0)), (4, (.int .i64 0)), (5, (.pointer (some ⟨b17, 0, none⟩))), (6, vr)]) (fun ⟨f, rs, used, vr⟩ => [blkA b17 [(.pointer (some ⟨d, 0, none⟩)), (.int .i64 (((rs.length : Nat) : Int))), (.int .i64 (used))] 143, dk d (D), recsP 106 5 vr (rs)]) (fun ⟨f, rs, used, vr⟩ => f) (fuel0, [], 0, (.slice none 0 0))
     ⟨Scan.start D, rfl⟩ (Sub.r (Sub.r (Sub.r (Sub.r (Sub.r (Sub.r (Sub.nil _)))))))
     (fun _ s => sep_perm (List.Perm.trans (List.Perm.swap _ _ _) (List.Perm.cons _ (List.Perm.swap _ _ _))) (sep_recsNil 106 5 s)) (fun ⟨f, rs, used, vr⟩ hinv => ?_)
 obtain ⟨hsc, hvr⟩ := hinv
 obtain ⟨hs1, hs2, hs3, hs4, hs5⟩ := id hsc
 refine TC.block ?_
 refine TC.seq fun _ J7 => ?_
 refine TC.draw (fun w => Frm F w ∧ w.heap[b17]? = some (.cells ([(.pointer (some ⟨d, 0, none⟩)), (.int .i64 (((rs.length : Nat) : Int))), (.int .i64 (used))]).toArray 143 (0, 0)) ∧ True) mixedD rfl (fun _ s => ⟨Frm.of s, s.block 0 (lb rfl) rfl, trivial⟩) ?_
 refine ta 0 rfl (PV.move rfl rfl) ?_
 refine ta 1 rfl (PV.move rfl rfl) ?_
 refine ta 2 rfl (PV.nilCheck rfl rfl) ?_
 refine ta 3 rfl (PV.fieldAddr (r := 1) rfl Tryz.underlying143 rfl sz3 rfl rfl) ?_
 refine ta 4 rfl (PV.load1 (v := (.int .i64 (((rs.length : Nat) : Int)))) rfl Tryz.underlying3 rfl rfl (fun _ h => h.2.1) rfl) ?_
 refine ta 5 rfl (PV.add rfl rfl rfl (wrap_i64 (by omega) (by omega))) ?_
 refine ta 6 rfl (PV.move rfl rfl) ?_
 refine ta 7 rfl (PV.nilCheck rfl rfl) ?_
 refine ta 8 rfl (PV.fieldAddr (r := 2) rfl Tryz.underlying143 rfl sz3 rfl rfl) ?_
 refine ta 9 rfl (PV.load1 (v := (.int .i64 (used))) rfl Tryz.underlying3 rfl rfl (fun _ h => h.2.1) rfl) ?_
 refine TD.all [10] (by kernel_rfl) rfl ?_
 refine AllT.cons rfl ?_ ?_
 refine TL.callR (A := [dk d (D)]) (Want.plain rfl) rfl rfl rfl nm68 rfl (stands_does d D (((rs.length : Nat) : Int) + 1) used hD (by omega) (by omega)) (fun _ s => sep_selR [1] rfl s) (fun _ _ _ => trivial) (fun vR HR hR => ?_)
 rcases hR with ⟨hst, rfl, rfl⟩ | ⟨b, all, u, hst, rfl, rfl⟩
 have hss := Scan.stop hsc hst
 change TL _ _ _ _ _ _ _ _ _ [dk d (D), blkA b17 [(.pointer (some ⟨d, 0, none⟩)), (.int .i64 (((rs.length : Nat) : Int))), (.int .i64 (used))] 143, recsP 106 5 vr (rs)]
 refine TL.nil ?_
 refine TE.draw (fun _ s => ⟨Frm.of s, s.block 1 (lb rfl) rfl, trivial⟩) ?_
 refine ta 11 rfl (PV.move rfl rfl) ?_
 refine ta 12 rfl (PV.extract (vs := [(.slice none 0 0), (.int .i64 0), (.bool false)]) rfl rfl rfl) ?_
 refine ta 13 rfl (PV.extract (vs := [(.slice none 0 0), (.int .i64 0), (.bool false)]) rfl rfl rfl) ?_
 refine ta 14 rfl (PV.extract (vs := [(.slice none 0 0), (.int .i64 0), (.bool false)]) rfl rfl rfl) ?_
 refine ta 15 rfl (PV.assign rfl rfl) ?_
 refine ta 16 rfl (PV.assign rfl rfl) ?_
 refine ta 17 rfl (PV.assign rfl rfl) ?_
 refine TD.done (by kernel_rfl) ?_
 refine TE.next J7 ?_
 refine TC.seq fun _ J8 => ?_
 refine sr fun _ J9 => ?_
 refine mv ?_
 refine tp (PV.not (r := true) rfl rfl rfl) ?_
 refine nx J9 ?_
 refine TC.yes rfl ?_
 refine TC.exit ?_
 refine TE.pass ?_
 refine TE.miss (by decide) ?_
 refine TE.pass ?_
 refine TE.hit ?_
 refine TE.next J6 ?_
 refine TC.seq fun _ J10 => ?_
 refine sr fun _ J11 => ?_
 refine mv ?_
 refine tp (PV.nilCheck rfl rfl) ?_
 refine tp (PV.fieldAddr (r := 2) rfl Tryz.underlying143 rfl sz3 rfl rfl) ?_
 refine tp (PV.load1 (v := (.int .i64 (used))) rfl Tryz.underlying3 rfl rfl (Rd.own 1 rfl rfl) rfl) ?_
 refine sg' ?_
 refine nx J11 ?_
 refine TC.block ?_
 refine TC.loop (α := (Int) × (DS)) (fun ⟨at', D'⟩ => used ≤ at' ∧ at' ≤ 2048 ∧ wipeP (2048 - used).toNat used D = wipeP (2048 - at').toNat at' D' ∧ D'.Ok ∧ D'.ws.length ≤ D.ws.length + (at' - used).toNat) (fun ⟨at', D'⟩ => [(0, (.pointer (some ⟨d, 0, none⟩))), (5, (.pointer (some ⟨b17, 0, none⟩))), (6, vr), (10, (.int .i64 (at')))]) (fun ⟨at', D'⟩ => [blkA b17 [(.pointer (some ⟨d, 0, none⟩)), (.int .i64 (((rs.length : Nat) : Int))), (.int .i64 (used))] 143, dk d (D'), recsP 106 5 vr (rs)]) (fun ⟨at', D'⟩ => (2048 - at').toNat) (used, D)
     ⟨by omega, by omega, rfl, hD, by omega⟩ (Sub.r (Sub.r (Sub.r (Sub.cons rfl (by congr 1) (Sub.nil _)))))
     (fun _ s => sep_keep [1, 0, 0] rfl s) (fun ⟨at', D'⟩ hinv => ?_)
 obtain ⟨ha1, ha2, hwi, hD', hws⟩ := hinv
 refine TC.seq fun _ J12 => ?_
 refine sr fun _ J13 => ?_
 refine mv ?_
 refine tp (PV.lss rfl rfl rfl) ?_
 refine TL.dec (fun h59 => ?_) (fun h59 => ?_)
 refine nx J13 ?_
 refine TC.yes rfl ?_
 refine TC.skip ?_
 refine TE.next J12 ?_
 refine TC.seq fun _ J14 => ?_
 refine TC.block ?_
 refine TC.seq fun _ J15 => ?_
 refine sr fun _ J16 => ?_
 refine mv ?_
 refine mv ?_
 refine TL.callR (A := [dk d (D')]) (Want.plain rfl) rfl rfl rfl nm69 rfl (dk_read d (D') at' hD' (by omega)) (fun _ s => sep_selR [1] rfl s) (fun _ _ _ => trivial) (fun vR HR hR => ?_)
 obtain ⟨hv, rfl⟩ := hR
 subst hv
 change TL _ _ _ _ _ _ _ _ _ [dk d (D'), blkA b17 [(.pointer (some ⟨d, 0, none⟩)), (.int .i64 (((rs.length : Nat) : Int))), (.int .i64 (used))] 143, recsP 106 5 vr (rs)]
 refine tp (PV.build (cells := (u8s zs).toArray) rfl rfl (by as_aux_lemma => kernel_rfl)) ?_
 refine tp (PV.eqlBy (a := ((D').read at')) (b := zs) (m := 2) sg133 sk133 rfl sf133 sa133 sc133 (DS.read_len hD' _) (by decide) rfl rfl rfl) ?_
 refine TL.dec (fun h66 => ?_) (fun h66 => ?_)
 refine nx J16 ?_
 refine TC.yes rfl ?_
 refine TC.exit ?_
 refine TE.pass ?_
 refine TE.hit ?_
 refine TE.next J14 ?_
 refine TC.region ?_
 refine mv ?_
 refine tp (PV.add rfl rfl rfl (wrap_i64 (by omega) (by omega))) ?_
 refine sg' ?_
 refine TL.nil ?_
 exact TE.round ((at' + 1, D') : (Int) × (DS)) ⟨by omega, by omega, by rw [hwi]; exact wipe_skip (by omega) h66, hD', by omega⟩ (by show (2048 - (at' + 1)).toNat < (2048 - at').toNat; omega)
   (Sub.r (Sub.r (Sub.r (Sub.r (Sub.nil _)))))
   (fun _ s => sep_keep [1, 0, 0] rfl s)
 refine nx J16 ?_
 refine TC.no rfl ?_
 refine TC.skip ?_
 refine TE.next J15 ?_
 refine sr fun _ J17 => ?_
 refine mv ?_
 refine mv ?_
 refine TL.callR (A := [dk d (D')]) (Want.plain rfl) rfl rfl rfl nm70 rfl (dk_write d (D') at' (.slice none 0 0) ([]) hD' (by omega)) (fun _ s => s) (fun _ _ _ => .inl (.inl ⟨rfl, rfl⟩)) (fun vR HR hR => ?_)
 obtain ⟨hv, rfl⟩ := hR
 subst hv
 change TL _ _ _ _ _ _ _ _ _ [dk d (((D').write at' ([])).2), blkA b17 [(.pointer (some ⟨d, 0, none⟩)), (.int .i64 (((rs.length : Nat) : Int))), (.int .i64 (used))] 143, recsP 106 5 vr (rs)]
 refine sg' ?_
 refine nx J17 ?_
 refine sr fun _ J18 => ?_
 refine mv ?_
 refine tp (PV.neq rfl rfl rfl) ?_
 refine TL.dec (fun h71 => ?_) (fun h71 => ?_)
 refine nx J18 ?_
 refine TC.yes rfl ?_
 refine sr fun _ J19 => ?_
 refine mv ?_
 refine sg' ?_
 refine sg' ?_
 refine sg' ?_
 refine nx J19 ?_
 refine TC.ret ?_
 refine TE.blockRet ?_
 refine TE.passRet ?_
 refine TE.passRet ?_
 refine TE.blockRet ?_
 refine TE.passRet ?_
 refine TE.weak (Sub.refl _) (fun _ s => sep_keep [0] rfl s) ?_
 refine TE.ret3 rfl rfl rfl rfl ?_
 rw [open_fail1 hss (hwi.trans (wipe_fail (by omega) h66 h71)) h71]
 exact .inl ⟨h71, rfl, rfl⟩
 refine nx J18 ?_
 refine TC.no rfl ?_
 refine TC.skip ?_
 refine TE.blockEnd ?_
 refine TE.next J14 ?_
 refine TC.region ?_
 refine mv ?_
 refine tp (PV.add rfl rfl rfl (wrap_i64 (by omega) (by omega))) ?_
 refine sg' ?_
 refine TL.nil ?_
 exact TE.round ((at' + 1, (D'.write at' []).2) : (Int) × (DS)) ⟨by omega, by omega, by rw [hwi]; exact wipe_go (by omega) h66 (by simpa using h71), DS.write_ok hD' _ _, by have := DS.write_ws (D := D') (at' := at') (bs := []); omega⟩ (by show (2048 - (at' + 1)).toNat < (2048 - at').toNat; omega)
   (Sub.r (Sub.r (Sub.r (Sub.r (Sub.nil _)))))
   (fun _ s => sep_keep [1, 0, 0] rfl s)
 refine nx J13 ?_
 refine TC.no rfl ?_
 refine TC.exit ?_
 refine TE.pass ?_
 refine TE.pass ?_
 refine TE.hit ?_
 refine TE.next J10 ?_
 refine TC.seq fun _ J20 => ?_
 refine sr fun _ J21 => ?_
 refine mv ?_
 refine TL.callR (A := [dk d (D')]) (Want.plain rfl) rfl rfl rfl nm71 rfl (dk_sync d (D')  hD') (fun _ s => sep_selR [1] rfl s) (fun _ _ _ => trivial) (fun vR HR hR => ?_)
 obtain ⟨hv, rfl⟩ := hR
 subst hv
 change TL _ _ _ _ _ _ _ _ _ [dk d ((D').sync.2), blkA b17 [(.pointer (some ⟨d, 0, none⟩)), (.int .i64 (((rs.length : Nat) : Int))), (.int .i64 (used))] 143, recsP 106 5 vr (rs)]
 refine sg' ?_
 refine nx J21 ?_
 refine sr fun _ J22 => ?_
 refine mv ?_
 refine tp (PV.neq rfl rfl rfl) ?_
 refine TL.dec (fun h76 => ?_) (fun h76 => ?_)
 refine nx J22 ?_
 refine TC.yes rfl ?_
 refine sr fun _ J23 => ?_
 refine mv ?_
 refine sg' ?_
 refine sg' ?_
 refine sg' ?_
 refine nx J23 ?_
 refine TC.ret ?_
 refine TE.passRet ?_
 refine TE.weak (Sub.refl _) (fun _ s => sep_keep [0] rfl s) ?_
 refine TE.ret3 rfl rfl rfl rfl ?_
 rw [open_fail2 hss (hwi.trans (wipe_end (by omega))) h76]
 exact .inl ⟨h76, rfl, rfl⟩
 refine nx J22 ?_
 refine TC.no rfl ?_
 refine TC.skip ?_
 refine TE.next J20 ?_
 refine sr fun _ J24 => ?_
 refine mv ?_
 refine mv ?_
 refine sg' ?_
 refine sg' ?_
 refine sg' ?_
 refine nx J24 ?_
 refine TC.ret ?_
 refine TE.weak (Sub.refl _) (fun _ s => sep_keep [1, 1, 0] rfl s) ?_
 refine TE.ret3 rfl rfl rfl rfl ?_
 have h76' : D'.sync.1 = 0 := by omega
 rw [open_ok hss (hwi.trans (wipe_end (by omega))) h76']
 exact .inr ⟨rfl, b17, vr, rfl, rfl⟩
 have hro := standsP_room hI hD (by omega) hst
 have hfa := (standsP_facts (DS.read_len hD _) hst).1
 obtain ⟨f', rfl, hsn⟩ := Scan.next hI hD hsc hst
 change TL _ _ _ _ _ _ _ _ _ [subB u (b) 5, dk d (D), blkA b17 [(.pointer (some ⟨d, 0, none⟩)), (.int .i64 (((rs.length : Nat) : Int))), (.int .i64 (used))] 143, recsP 106 5 vr (rs)]
 refine TL.subLen 0 rfl rfl (fun hul hu => ?_)
 refine TL.nil ?_
 refine TE.draw (fun _ s => ⟨Frm.of s, s.block 2 (lb rfl) rfl, trivial⟩) ?_
 refine ta 11 rfl (PV.move rfl rfl) ?_
 refine ta 12 rfl (PV.extract (vs := [u, (.int .i64 (all)), (.bool true)]) rfl rfl rfl) ?_
 refine ta 13 rfl (PV.extract (vs := [u, (.int .i64 (all)), (.bool true)]) rfl rfl rfl) ?_
 refine ta 14 rfl (PV.extract (vs := [u, (.int .i64 (all)), (.bool true)]) rfl rfl rfl) ?_
 refine ta 15 rfl (PV.assign rfl rfl) ?_
 refine ta 16 rfl (PV.assign rfl rfl) ?_
 refine ta 17 rfl (PV.assign rfl rfl) ?_
 refine TD.done (by kernel_rfl) ?_
 refine TE.next J7 ?_
 refine TC.seq fun _ J25 => ?_
 refine sr fun _ J26 => ?_
 refine mv ?_
 refine tp (PV.not (r := false) rfl rfl rfl) ?_
 refine nx J26 ?_
 refine TC.no rfl ?_
 refine TC.skip ?_
 refine TE.next J25 ?_
 refine sr fun _ J27 => ?_
 refine mv ?_
 refine mv ?_
 refine TL.buildSlice (cells := #[u]) (Want.plain rfl) rfl rfl rfl Tryz.underlying97 in106 rfl rfl rfl (fill_one hu (by simp)) (fun b37 => ?_)
 change TL _ _ _ _ _ _ _ _ _ [blkA b37 [u] 106, subB u (b) 5, dk d (D), blkA b17 [(.pointer (some ⟨d, 0, none⟩)), (.int .i64 (((rs.length : Nat) : Int))), (.int .i64 (used))] 143, recsP 106 5 vr (rs)]
 refine TL.mono (fun _ s => sep_selR [4] rfl s) ?_
 refine TL.recsOpen (fun us38 => ?_)
 change TL _ _ _ _ _ _ _ _ _ [own vr ((rs).length) (us38) 106 1, bunch us38 (rs) 5, blkA b37 [u] 106, subB u (b) 5, dk d (D), blkA b17 [(.pointer (some ⟨d, 0, none⟩)), (.int .i64 (((rs.length : Nat) : Int))), (.int .i64 (used))] 143]
 refine TL.append (k := 0) (m := 1) (news := [u]) (nn' := (rs).length + 1) (xs' := us38 ++ [u]) (Want.plain rfl) rfl rfl rfl Tryz.underlying97 in106 rfl rfl rfl rfl rfl rfl (fun _ _ => Src.rd rfl (Rd.own 2 rfl rfl) rfl) (List.forall_mem_cons.2 ⟨hu, fun _ h => by cases h⟩) (by simp only [maxLen]; omega) (by omega) rfl rfl (fun v38 ov38 => ?_)
 change TL _ _ _ _ _ _ _ _ _ [own v38 ((rs).length + 1) (us38 ++ [u]) 106 1, bunch us38 (rs) 5, blkA b37 [u] 106, subB u (b) 5, dk d (D), blkA b17 [(.pointer (some ⟨d, 0, none⟩)), (.int .i64 (((rs.length : Nat) : Int))), (.int .i64 (used))] 143]
 refine TL.mono (H' := [own v38 ((rs).length + 1) (us38 ++ [u]) 106 1, bunch us38 (rs) 5, subB u (b) 5, blkA b37 [u] 106, dk d (D), blkA b17 [(.pointer (some ⟨d, 0, none⟩)), (.int .i64 (((rs.length : Nat) : Int))), (.int .i64 (used))] 143]) (fun _ s => sep_selR [0, 0, 1] rfl s) ?_
 refine TL.mono (fun _ s => sep_recsAdd s) ?_
 change TL _ _ _ _ _ _ _ _ _ [recsP 106 5 v38 (rs ++ [b]), blkA b37 [u] 106, dk d (D), blkA b17 [(.pointer (some ⟨d, 0, none⟩)), (.int .i64 (((rs.length : Nat) : Int))), (.int .i64 (used))] 143]
 refine sg' ?_
 refine nx J27 ?_
 refine sr fun _ J28 => ?_
 refine mv ?_
 refine tp (PV.nilCheck rfl rfl) ?_
 refine tp (PV.fieldAddr (r := 1) rfl Tryz.underlying143 rfl sz3 rfl rfl) ?_
 refine tp (PV.load1 (v := (.int .i64 (((rs.length : Nat) : Int)))) rfl Tryz.underlying3 rfl rfl (Rd.own 3 rfl rfl) rfl) ?_
 refine tp (PV.to (v' := (.int .i64 ((((rs ++ [b]).length : Nat) : Int)))) (PV.add rfl rfl rfl (wrap_i64 (by omega) (by omega))) (congrArg (Value.int .i64) (by simp))) ?_
 refine tp (PV.nilCheck rfl rfl) ?_
 refine tp (PV.fieldAddr (r := 1) rfl Tryz.underlying143 rfl sz3 rfl rfl) ?_
 refine TL.store1 (i := 3) (H' := [recsP 106 5 v38 (rs ++ [b]), blkA b37 [u] 106, dk d (D), blkA b17 [(.pointer (some ⟨d, 0, none⟩)), (.int .i64 ((((rs ++ [b]).length : Nat) : Int))), (.int .i64 (used))] 143]) (Want.plain rfl) rfl rfl rfl rfl rfl sz3 rfl rfl (lb rfl) rfl rfl ?_
 refine nx J28 ?_
 refine TC.region ?_
 refine mv ?_
 refine tp (PV.nilCheck rfl rfl) ?_
 refine tp (PV.fieldAddr (r := 2) rfl Tryz.underlying143 rfl sz3 rfl rfl) ?_
 refine tp (PV.load1 (v := (.int .i64 (used))) rfl Tryz.underlying3 rfl rfl (Rd.own 3 rfl rfl) rfl) ?_
 refine mv ?_
 refine tp (PV.add rfl rfl rfl (wrap_i64 (by omega) (by omega))) ?_
 refine tp (PV.nilCheck rfl rfl) ?_
 refine tp (PV.fieldAddr (r := 2) rfl Tryz.underlying143 rfl sz3 rfl rfl) ?_
 refine TL.store1 (i := 3) (H' := [recsP 106 5 v38 (rs ++ [b]), blkA b37 [u] 106, dk d (D), blkA b17 [(.pointer (some ⟨d, 0, none⟩)), (.int .i64 ((((rs ++ [b]).length : Nat) : Int))), (.int .i64 (used + all))] 143]) (Want.plain rfl) rfl rfl rfl rfl rfl sz3 rfl rfl (lb rfl) rfl rfl ?_
 refine TL.nil ?_
 refine TE.blockEnd ?_
 exact TE.round ((f', rs ++ [b], used + all, v38) : (Nat) × (List (List UInt8)) × (Int) × (Value)) ⟨hsn, ov38⟩ (Nat.lt_succ_self _)
   (Sub.r (Sub.r (Sub.r (Sub.r (Sub.r (Sub.r (Sub.nil _)))))))
   (fun _ s => sep_keep [3, 2, 0] rfl s)
 exact AllT.nil
end Go.Proofs.YtfceaphohlbnbaaGreat
end
