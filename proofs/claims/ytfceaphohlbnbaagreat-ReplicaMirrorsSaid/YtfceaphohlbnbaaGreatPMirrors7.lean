/-
  Joined texts: what a statement's proof reaches.
-/
import Derived.Test.YtfceaphohlbnbaaGreatPMirrors6
set_option maxHeartbeats 8000000
section
namespace Go.Proofs.YtfceaphohlbnbaaGreat

open Go Leg Codec Api Dsk Wal

set_option linter.unusedSimpArgs false
set_option linter.unusedVariables false

set_option maxRecDepth 100000

set_option maxHeartbeats 8000000

theorem said_to (e : SaidT) : (ints (List.flatMap SaidT.flat [e]))[0]? = some (.int .i64 e.to') := by rw [said_one]; exact (SaidT.at_to' e rfl)

theorem said_kind (e : SaidT) : (ints (List.flatMap SaidT.flat [e]))[1]? = some (.int .i64 e.msg.kind) := by rw [said_one]; exact (SaidT.pt_msg e 0 rfl (by decide) (MsgT.at_kind e.msg rfl))

theorem said_version (e : SaidT) : (ints (List.flatMap SaidT.flat [e]))[177]? = some (.int .i64 e.msg.version) := by rw [said_one]; exact (SaidT.pt_msg e 176 rfl (by decide) (MsgT.at_version e.msg rfl))

theorem said_row (e : SaidT) : ((ints (List.flatMap SaidT.flat [e])).drop 3).take 174 = ints e.msg.row.flat := by rw [said_one]; exact (SaidT.sub_msg e 2 rfl (by decide) (MsgT.sub_row e.msg 0 rfl (by decide) (whole (RowT.len e.msg.row))))

theorem z77 : (Tryz.prog.info? 77).map (·.zero) = some (some (.agg (MirT.cells MirT.zero).toArray)) := by kernel_rfl

theorem sg48 : Tryz.prog.eqGuardType Tryz.prog.depth 48 = false := by kernel_rfl
theorem sk48 : Tryz.prog.keyTypeAt 8 48 = true := by kernel_rfl
theorem fI48 : flatI Tryz.prog 8 48 = some 174 := by kernel_rfl
theorem fC48 : (match Tryz.prog.underlying 48 with | some (.struct _) | some (.array _ _) => true | _ => false) = true := by kernel_rfl
theorem cC48 : Tryz.prog.cellsOf 48 = 174 := by kernel_rfl

theorem sg52 : Tryz.prog.eqGuardType Tryz.prog.depth 52 = false := by kernel_rfl
theorem sk52 : Tryz.prog.keyTypeAt 4 52 = true := by kernel_rfl
theorem fI52 : flatI Tryz.prog 4 52 = some 7 := by kernel_rfl
theorem fC52 : (match Tryz.prog.underlying 52 with | some (.struct _) | some (.array _ _) => true | _ => false) = true := by kernel_rfl
theorem cC52 : Tryz.prog.cellsOf 52 = 7 := by kernel_rfl

theorem takeM_does (r ob lg d : Nat) (sd : Bool) (M : MirT) (fr : Int) (m : MsgT) (y : RowT) (recs : List (List UInt8)) (hk : m.kind = 0) (hw : m.whose = fr) (hr : m.row = y) (hfr : fr ≠ 2) (hx : WF y.flat) (hroom : sizeS recs + 34 ≤ 2048) :
  Does Tryz.prog 13 #[.pointer (some ⟨r, 0, none⟩), .iface 34 (.pointer (some ⟨ob, 0, none⟩)), .int .i64 fr, .agg (ints m.flat).toArray] (fun _ => True) [blkA r (RepT.cells (mirY lg sd M)) 104, lgL lg d (recs), dkL d (recs), outP ob ([])] (Ret (fun _ H => H = [blkA r (RepT.cells (mirY lg sd (mirKeep M fr y).1)) 104, lgL lg d (rowC (mirY lg sd M) fr fr y recs), dkL d (rowC (mirY lg sd M) fr fr y recs), outP ob (if mirSealed (mirKeep M fr y).1 fr then [] else [SaidT.mk fr (keptMsg (mirRow (mirKeep M fr y).1 fr).version)])])) := by
  have := take0_does r ob lg d (mirY lg sd M) fr m recs [] (mirY_log lg sd M) hk hroom (by rw [hr]; exact hx) (by decide) (by rw [mirY_id]; exact hfr)
  rw [hw, hr, (row_mir lg sd M fr y).1, (row_mir lg sd M fr y).2, ← mirSealed_keep M fr fr y] at this
  exact this

theorem sealM_does (r ob lg d : Nat) (M : MirT) (m : MsgT) (recs : List (List UInt8)) (hk : m.kind = 8) (hw : m.whose = 0) (hv : m.view = viewS) (hs : mirSealed M 0 = false) (hroom : sizeS recs + 4 ≤ 2048) :
  Does Tryz.prog 13 #[.pointer (some ⟨r, 0, none⟩), .iface 34 (.pointer (some ⟨ob, 0, none⟩)), .int .i64 1, .agg (ints m.flat).toArray] (fun _ => True) [blkA r (RepT.cells (mirY lg false M)) 104, lgL lg d (recs), dkL d (recs), outP ob ([])] (Ret (fun _ H => H = [blkA r (RepT.cells (mirY lg true (mirClose M 0))) 104, lgL lg d (sealC (mirY lg false M) 1 0 viewS recs), dkL d (sealC (mirY lg false M) 1 0 viewS recs), outP ob ([SaidT.mk 1 (sealedMsg 0 (mirRow (mirClose M 0) 0))])])) := by
  have := take8_does r ob lg d (mirY lg false M) 1 m recs [] (mirY_log lg false M) hk hroom (by rw [hv]; exact mirY_alone lg false M) (by rw [hv]; exact learn_rng lg M) (by decide) (by rw [mirY_id]; decide)
  rw [hw, hv, (seal_mir lg M hs recs).1, (seal_mir lg M hs recs).2.2] at this
  exact this

theorem otherM_does (r ob lg d : Nat) (sd : Bool) (M : MirT) (m : MsgT) (recs : List (List UInt8)) (hk : m.kind = 0) (hw : m.whose = 3) (hx : WF m.row.flat) (hroom : sizeS recs + 34 ≤ 2048) :
  Does Tryz.prog 13 #[.pointer (some ⟨r, 0, none⟩), .iface 34 (.pointer (some ⟨ob, 0, none⟩)), .int .i64 4, .agg (ints m.flat).toArray] (fun _ => True) [blkA r (RepT.cells (mirY lg sd M)) 104, lgL lg d (recs), dkL d (recs), outP ob ([])] (Ret (fun _ H => H = [blkA r (RepT.cells (mirY lg sd M)) 104, lgL lg d (recs), dkL d (recs), outP ob ([])])) := by
  have := take0_does r ob lg d (mirY lg sd M) 4 m recs [] (mirY_log lg sd M) hk hroom hx (by decide) (by rw [mirY_id]; decide)
  have e := row_other lg sd M 4 m.whose m.row recs (by rw [hw]; decide)
  rw [e.1, e.2.1, e.2.2] at this
  exact this

theorem outNewS {b : Nat} {H : List HP} {h : Hl} (s : sep (blkA b [.slice none 0 0] 32 :: H) h) : sep (outP b [] :: H) h :=
  sep_close (p := fun vs : Value => [blkA b [vs] 32, own vs 0 [] 84 193]) _ (sep_perm (List.Perm.swap _ _ _) ⟨em, h, Dj.em' h, (em_jn h).symm, ⟨by simp, .inl ⟨rfl, rfl, rfl⟩⟩, s⟩)

theorem replicaMirrors_does (x : Value) (l : List RowT) (n1 n2 : Int) :
    Does Tryz.prog 6 #[x, (.int .i64 (n1)), (.int .i64 (n2))] (IsL 174 ER x l) [] (Ret (fun r' H => r' = .bool true ∧ H = [])) := by
 refine Does.body (vs := [x, (.int .i64 (n1)), (.int .i64 (n2))]) (n := 179) Tryz.func6 rfl rfl rfl (fun w0 F hF => ?_)
 refine sr fun _ J1 => ?_
 refine sg' ?_
 refine nx J1 ?_
 refine TC.seq fun _ J2 => ?_
 refine sr fun _ J3 => ?_
 refine TL.callR (A := []) (Want.plain rfl) rfl rfl rfl nm9 rfl (fit_does) (fun _ s => s) (fun _ _ _ => trivial) (fun vR HR hR => ?_)
 obtain ⟨rfl, rfl⟩ := hR
 change TL _ _ _ _ _ _ _ _ _ []
 refine tp (PV.not (r := false) rfl rfl rfl) ?_
 refine nx J3 ?_
 refine TC.no rfl ?_
 refine TC.skip ?_
 refine TE.next J2 ?_
 refine TC.seq fun _ J4 => ?_
 refine sr fun _ J5 => ?_
 refine mv ?_
 refine tp (PV.lenV rfl Tryz.underlying68 rfl hF.len) ?_
 refine tp (PV.gtr rfl rfl rfl) ?_
 refine TL.dec (fun h23 => ?_) (fun h23 => ?_)
 refine nx J5 ?_
 refine TC.yes rfl ?_
 refine sr fun _ J6 => ?_
 refine sg' ?_
 refine nx J6 ?_
 refine TC.ret ?_
 refine TE.passRet ?_
 refine TE.weak (Sub.refl _) (fun _ s => sep_keep [] rfl s) ?_
 refine TE.ret1 rfl rfl ?_
 exact ⟨rfl, rfl⟩
 refine nx J5 ?_
 refine TC.no rfl ?_
 refine TC.skip ?_
 refine TE.next J4 ?_
 refine sr fun _ J7 => ?_
 refine TL.callR (A := []) (Want.plain rfl) rfl rfl rfl nm11 rfl (dkNew_does) (fun _ s => s) (fun _ _ _ => trivial) (fun vR HR hR => ?_)
 obtain ⟨d, rfl, rfl⟩ := hR
 change TL _ _ _ _ _ _ _ _ _ [dkL d ([])]
 refine TL.callR (A := [dkL d ([])]) (Want.plain rfl) rfl rfl rfl nm10 rfl (start0_does 2 d) (fun _ s => s) (fun _ _ _ => trivial) (fun vR HR hR => ?_)
 obtain ⟨r, lg, rfl, rfl⟩ := hR
 rw [mirY_zero]
 change TL _ _ _ _ _ _ _ _ _ [blkA r (RepT.cells (mirY lg false MirT.zero)) 104, lgP lg d ((([]).length : Nat) : Int) ((sizeS ([]) : Nat) : Int), dkL d ([])]
 refine mv ?_
 refine tp (PV.extract (vs := [(.pointer (some ⟨r, 0, none⟩)), (.int .i64 0)]) rfl rfl rfl) ?_
 refine tp (PV.extract (vs := [(.pointer (some ⟨r, 0, none⟩)), (.int .i64 0)]) rfl rfl rfl) ?_
 refine sg' ?_
 refine sg' ?_
 refine nx J7 ?_
 refine sr fun _ J8 => ?_
 refine TL.buildSlice (cells := #[(.int .i64 0), (.int .i64 1), (.int .i64 3), (.int .i64 4)]) (Want.plain rfl) rfl rfl rfl Tryz.underlying74 in3 rfl rfl rfl (by as_aux_lemma => kernel_rfl) (fun b29 => ?_)
 change TL _ _ _ _ _ _ _ _ _ [blkA b29 [(.int .i64 0), (.int .i64 1), (.int .i64 3), (.int .i64 4)] 3, blkA r (RepT.cells (mirY lg false MirT.zero)) 104, lgP lg d ((([]).length : Nat) : Int) ((sizeS ([]) : Nat) : Int), dkL d ([])]
 refine mv ?_
 refine tp (PV.and (r := (n1 % 4)) rfl rfl rfl (mask (k := 2) (by decide) _)) ?_
 obtain ⟨fr, hfr⟩ : ∃ fr : Int, fromM (n1 % 4).toNat = fr := ⟨_, rfl⟩
 have hfr4 : fr = 0 ∨ fr = 1 ∨ fr = 3 ∨ fr = 4 := by rw [← hfr]; exact fromM_is (by omega)
 refine tp (PV.indexSl (r := ((n1 % 4)).toNat) rfl Tryz.underlying74 sz3 rfl rfl (by first | omega | decide) (by first | omega | decide) (by omega)) ?_
 refine tp (PV.to (v' := (.int .i64 (fr))) (PV.load1 (v := (.int .i64 ((fromM (n1 % 4).toNat)))) rfl Tryz.underlying3 rfl rfl (Rd.own 0 rfl rfl) (fromM_at (by omega))) (by rw [hfr])) ?_
 refine sg' ?_
 refine nx J8 ?_
 refine sr fun _ J9 => ?_
 refine TL.alloc (Want.plain rfl) rfl rfl rfl z77 (fun b9 => ?_)
 change TL _ _ _ _ _ _ _ _ _ [blkA b9 (MirT.cells MirT.zero) 77, blkA b29 [(.int .i64 0), (.int .i64 1), (.int .i64 3), (.int .i64 4)] 3, blkA r (RepT.cells (mirY lg false MirT.zero)) 104, lgP lg d ((([]).length : Nat) : Int) ((sizeS ([]) : Nat) : Int), dkL d ([])]
 refine nx J9 ?_
 refine sr fun _ J10 => ?_
 refine TL.callR (A := []) (Want.plain rfl) rfl rfl rfl nm24 rfl (first_does) (fun _ s => s) (fun _ _ _ => trivial) (fun vR HR hR => ?_)
 obtain ⟨rfl, rfl⟩ := hR
 change TL _ _ _ _ _ _ _ _ _ [blkA b9 (MirT.cells MirT.zero) 77, blkA b29 [(.int .i64 0), (.int .i64 1), (.int .i64 3), (.int .i64 4)] 3, blkA r (RepT.cells (mirY lg false MirT.zero)) 104, lgP lg d ((([]).length : Nat) : Int) ((sizeS ([]) : Nat) : Int), dkL d ([])]
 refine tp (PV.buildSegs (cs := ints (ChangeT.mk 1 0 1).flat) (segs := [[Value.int .i64 0], [Value.int .i64 0], [Value.int .i64 0]]) (res := [[Value.int .i64 1], [Value.int .i64 0], [Value.int .i64 1]]) (parts := [(0, [Value.int .i64 1]), (1, [Value.int .i64 0]), (2, [Value.int .i64 1])]) rfl rfl Tryz.underlying36 (by kernel_rfl) (by kernel_rfl) rfl (putSegs_step rfl ((rfl : [Value.int .i64 1].length = 1).trans (rfl : [Value.int .i64 0].length = 1).symm) (putSegs_step rfl ((rfl : [Value.int .i64 0].length = 1).trans (rfl : [Value.int .i64 0].length = 1).symm) (putSegs_step rfl ((rfl : [Value.int .i64 1].length = 1).trans (rfl : [Value.int .i64 0].length = 1).symm) putSegs_nil))) (ChangeT.eq (ChangeT.mk 1 0 1)).symm) ?_
 refine TL.callR (A := []) (Want.plain rfl) rfl rfl rfl nm23 rfl (next_does firstV (ChangeT.mk 1 0 1) Rng.first) (fun _ s => s) (fun _ _ _ => trivial) (fun vR HR hR => ?_)
 obtain ⟨hv, rfl⟩ := hR
 rw [show nextV firstV (ChangeT.mk 1 0 1) = (viewS, 0) from nextS] at hv
 subst hv
 change TL _ _ _ _ _ _ _ _ _ [blkA b9 (MirT.cells MirT.zero) 77, blkA b29 [(.int .i64 0), (.int .i64 1), (.int .i64 3), (.int .i64 4)] 3, blkA r (RepT.cells (mirY lg false MirT.zero)) 104, lgP lg d ((([]).length : Nat) : Int) ((sizeS ([]) : Nat) : Int), dkL d ([])]
 refine mv ?_
 refine tp (PV.extract (vs := [(.agg (ints viewS.flat).toArray), (.int .i64 0)]) rfl rfl rfl) ?_
 refine tp (PV.extract (vs := [(.agg (ints viewS.flat).toArray), (.int .i64 0)]) rfl rfl rfl) ?_
 refine TL.alloc (Want.plain rfl) rfl rfl rfl z52 (fun b10 => ?_)
 change TL _ _ _ _ _ _ _ _ _ [blkA b10 (ints ViewT.zero.flat) 52, blkA b9 (MirT.cells MirT.zero) 77, blkA b29 [(.int .i64 0), (.int .i64 1), (.int .i64 3), (.int .i64 4)] 3, blkA r (RepT.cells (mirY lg false MirT.zero)) 104, lgP lg d ((([]).length : Nat) : Int) ((sizeS ([]) : Nat) : Int), dkL d ([])]
 refine TL.store (vs := ints viewS.flat) (i := 0) (H' := [blkA b10 (ints viewS.flat) 52, blkA b9 (MirT.cells MirT.zero) 77, blkA b29 [(.int .i64 0), (.int .i64 1), (.int .i64 3), (.int .i64 4)] 3, blkA r (RepT.cells (mirY lg false MirT.zero)) 104, lgP lg d ((([]).length : Nat) : Int) ((sizeS ([]) : Nat) : Int), dkL d ([])]) (Want.plain rfl) rfl rfl rfl rfl rfl (by rw [(ViewT.len viewS)]; exact sz52) (ints_one _) rfl rfl (by have h0 := (ViewT.len ViewT.zero); have h1 := (ViewT.len viewS); omega) (wwhole ((ViewT.len ViewT.zero).trans (ViewT.len viewS).symm)) rfl ?_
 refine sg' ?_
 refine nx J10 ?_
 refine TC.seq fun _ J11 => ?_
 refine sr fun _ J12 => ?_
 refine mv ?_
 refine tp (PV.neq rfl rfl rfl) ?_
 refine nx J12 ?_
 refine TC.no rfl ?_
 refine TC.skip ?_
 refine TE.next J11 ?_
 refine TC.seq fun _ J13 => ?_
 refine sr fun _ J14 => ?_
 refine mv ?_
 refine tp (PV.lenV rfl Tryz.underlying68 rfl hF.len) ?_
 refine mv ?_
 refine nx J14 ?_
 refine TC.block ?_
 refine TC.loop (α := (Nat) × (Bool) × (MirT) × (List (List UInt8))) (fun ⟨i, sd, M, recs⟩ => i ≤ l.length ∧ MirOk M ∧ mirSealed M fr = sd ∧ (sd = true → fr = 0) ∧ (sd = true → n2 % 32 < i) ∧ (sd = false → sizeS recs ≤ 34 * i) ∧ sizeS recs ≤ 34 * i + 4) (fun ⟨i, sd, M, recs⟩ => [(1, (.int .i64 (fr))), (2, (.int .i64 (n2))), (7, (.pointer (some ⟨r, 0, none⟩))), (9, (.pointer (some ⟨b9, 0, none⟩))), (10, (.pointer (some ⟨b10, 0, none⟩))), (42, x), (43, (.int .i64 (((l.length : Nat) : Int)))), (44, (.int .i64 (((i : Nat) : Int))))]) (fun ⟨i, sd, M, recs⟩ => [blkA r (RepT.cells (mirY lg sd M)) 104, lgP lg d (((recs).length : Nat) : Int) ((sizeS (recs) : Nat) : Int), dkL d (recs), blkA b9 (MirT.cells M) 77, blkA b10 (ints viewS.flat) 52]) (fun ⟨i, sd, M, recs⟩ => l.length - i) (0, false, MirT.zero, [])
     ⟨Nat.zero_le _, MirOk.zero, mirSealed_zero fr, fun q => (nomatch q), fun q => (nomatch q), fun _ => Nat.le_refl 0, by decide⟩ (Sub.r (Sub.r (Sub.r (Sub.r (Sub.r (Sub.r (Sub.r (Sub.cons rfl (by congr 1) (Sub.nil _)))))))))
     (fun _ s => sep_keep [3, 3, 3, 1, 0] rfl s) (fun ⟨i, sd, M, recs⟩ hinv => ?_)
 obtain ⟨hi, hM, hS, hz, hlt, hsf, hsz⟩ := hinv
 refine sr fun _ J15 => ?_
 refine tp (PV.lss rfl rfl rfl) ?_
 refine TL.dec (fun h45 => ?_) (fun h45 => ?_)
 obtain ⟨b_a, off_a, cap_a, cs_a, T_a, z_a, us_a, hv_a, hc_a, hb_a, hl_a, hs_a, hE_a⟩ := IsL.at hF (j := i) (by omega)
 replace hE_a : us_a = ints l[i].flat ∧ WF l[i].flat := hE_a
 refine nx J15 ?_
 refine TC.seq fun _ J16 => ?_
 refine TC.yes rfl ?_
 refine TC.skip ?_
 refine TE.next J16 ?_
 refine TC.seq fun _ J17 => ?_
 refine TC.block ?_
 refine sr fun _ J18 => ?_
 refine mv ?_
 refine tp (PV.indexSlV (r := off_a + i * 174) hv_a rfl Tryz.underlying68 sz48 rfl rfl (by omega) (by omega) (by omega)) ?_
 refine tp (PV.loadNX (vs := ints (l[i]).flat) rfl Tryz.underlying48 rfl sz48 rfl (RdX.frm hb_a (fun _ h => Frm.of h)) (RowT.len _) (hs_a.trans hE_a.1)) ?_
 refine TL.alloc (Want.plain rfl) rfl rfl rfl z48 (fun b13 => ?_)
 change TL _ _ _ _ _ _ _ _ _ [blkA b13 (ints RowT.zero.flat) 48, blkA r (RepT.cells (mirY lg sd M)) 104, lgP lg d (((recs).length : Nat) : Int) ((sizeS (recs) : Nat) : Int), dkL d (recs), blkA b9 (MirT.cells M) 77, blkA b10 (ints viewS.flat) 52]
 refine sg' ?_
 refine TL.store (vs := ints (l[i]).flat) (i := 0) (H' := [blkA b13 (ints (l[i]).flat) 48, blkA r (RepT.cells (mirY lg sd M)) 104, lgP lg d (((recs).length : Nat) : Int) ((sizeS (recs) : Nat) : Int), dkL d (recs), blkA b9 (MirT.cells M) 77, blkA b10 (ints viewS.flat) 52]) (Want.plain rfl) rfl rfl rfl rfl rfl (by rw [(RowT.len (l[i]))]; exact sz48) (ints_one _) rfl rfl (by have h0 := (RowT.len RowT.zero); have h1 := (RowT.len (l[i])); omega) (wwhole ((RowT.len RowT.zero).trans (RowT.len (l[i])).symm)) rfl ?_
 refine nx J18 ?_
 refine sr fun _ J19 => ?_
 refine TL.alloc (Want.plain rfl) rfl rfl rfl z32 (fun b14 => ?_)
 change TL _ _ _ _ _ _ _ _ _ [blkA b14 [(.slice none 0 0)] 32, blkA b13 (ints (l[i]).flat) 48, blkA r (RepT.cells (mirY lg sd M)) 104, lgP lg d (((recs).length : Nat) : Int) ((sizeS (recs) : Nat) : Int), dkL d (recs), blkA b9 (MirT.cells M) 77, blkA b10 (ints viewS.flat) 52]
 refine nx J19 ?_
 refine TC.seq fun _ J20 => ?_
 refine TC.cut (α := (Bool) × (MirT) × (List (List UInt8))) (fun ⟨sd2, M2, recs2⟩ => MirOk M2 ∧ mirSealed M2 fr = sd2 ∧ (sd2 = true → fr = 0) ∧ (sd2 = true → n2 % 32 ≤ i) ∧ (sd2 = false → sizeS recs2 ≤ 34 * i) ∧ sizeS recs2 ≤ 34 * i + 4) (fun ⟨sd2, M2, recs2⟩ => [(1, (.int .i64 (fr))), (2, (.int .i64 (n2))), (7, (.pointer (some ⟨r, 0, none⟩))), (9, (.pointer (some ⟨b9, 0, none⟩))), (10, (.pointer (some ⟨b10, 0, none⟩))), (13, (.pointer (some ⟨b13, 0, none⟩))), (14, (.pointer (some ⟨b14, 0, none⟩))), (42, x), (43, (.int .i64 (((l.length : Nat) : Int)))), (44, (.int .i64 (((i : Nat) : Int))))]) (fun ⟨sd2, M2, recs2⟩ => [outP b14 ([]), blkA r (RepT.cells (mirY lg sd2 M2)) 104, lgP lg d (((recs2).length : Nat) : Int) ((sizeS (recs2) : Nat) : Int), dkL d (recs2), blkA b9 (MirT.cells M2) 77, blkA b13 (ints (l[i]).flat) 48, blkA b10 (ints viewS.flat) 52]) (fun ⟨sd2, M2, recs2⟩ hinv => ?_) (fun tl20 => ?_)
 obtain ⟨hM2, hS2, hz2, hle2, hsf2, hszz⟩ := hinv
 refine TE.next J20 ?_
 refine sr fun _ J21 => ?_
 refine mv ?_
 refine tp (PV.loadN (vs := ints (l[i]).flat) rfl Tryz.underlying48 rfl sz48 rfl (Rd.own 5 rfl rfl) (RowT.len (l[i])) (whole (RowT.len (l[i])))) ?_
 refine TL.callR (A := [blkA b9 (MirT.cells M2) 77]) (Want.plain rfl) rfl rfl rfl nm28 rfl (mirKeep_does b9 0 77 _ Arnd.whole M2 fr (l[i]) hE_a.2) (fun _ s => sep_selR [4] rfl s) (fun _ _ _ => trivial) (fun vR HR hR => ?_)
 obtain ⟨rfl, rfl⟩ := hR
 change TL _ _ _ _ _ _ _ _ _ [blkA b9 (MirT.cells ((mirKeep M2 fr (l[i])).1)) 77, outP b14 ([]), blkA r (RepT.cells (mirY lg sd2 M2)) 104, lgP lg d (((recs2).length : Nat) : Int) ((sizeS (recs2) : Nat) : Int), dkL d (recs2), blkA b13 (ints (l[i]).flat) 48, blkA b10 (ints viewS.flat) 52]
 refine TL.decB (fun h103 => ?_) (fun h103 => ?_)
 refine sg' ?_
 refine nx J21 ?_
 refine sr fun _ J22 => ?_
 refine mv ?_
 refine tp (PV.mkIface rfl Tryz.underlying34 rfl rfl) ?_
 refine mv ?_
 refine mv ?_
 refine tp (PV.loadN (vs := ints (l[i]).flat) rfl Tryz.underlying48 rfl sz48 rfl (Rd.own 5 rfl rfl) (RowT.len (l[i])) (whole (RowT.len (l[i])))) ?_
 refine tp (PV.buildSegs (cs := ints (MsgT.mk 0 fr (l[i]) 0 0 BallotT.zero BallotT.zero ChangeT.zero ViewT.zero).flat) (segs := [[Value.int .i64 0], [Value.int .i64 0], ints RowT.zero.flat, [Value.int .i64 0], [Value.int .i64 0], ints BallotT.zero.flat, ints BallotT.zero.flat, ints ChangeT.zero.flat, ints ViewT.zero.flat]) (res := [[Value.int .i64 0], [Value.int .i64 fr], ints (l[i]).flat, [Value.int .i64 0], [Value.int .i64 0], ints BallotT.zero.flat, ints BallotT.zero.flat, ints ChangeT.zero.flat, ints ViewT.zero.flat]) (parts := [(0, [Value.int .i64 0]), (1, [Value.int .i64 fr]), (2, ints (l[i]).flat)]) rfl rfl Tryz.underlying54 (by kernel_rfl) (by kernel_rfl) rfl (putSegs_step rfl ((rfl : [Value.int .i64 0].length = 1).trans (rfl : [Value.int .i64 0].length = 1).symm) (putSegs_step rfl ((rfl : [Value.int .i64 fr].length = 1).trans (rfl : [Value.int .i64 0].length = 1).symm) (putSegs_step rfl ((RowT.len (l[i])).trans (RowT.len RowT.zero).symm) putSegs_nil))) (MsgT.eq (MsgT.mk 0 fr (l[i]) 0 0 BallotT.zero BallotT.zero ChangeT.zero ViewT.zero)).symm) ?_
 refine TL.callR (A := [blkA r (RepT.cells (mirY lg sd2 M2)) 104, lgP lg d (((recs2).length : Nat) : Int) ((sizeS (recs2) : Nat) : Int), dkL d (recs2), outP b14 ([])]) (Want.plain rfl) rfl rfl rfl nm13 rfl (takeM_does r b14 lg d sd2 M2 fr (MsgT.mk 0 fr (l[i]) 0 0 BallotT.zero BallotT.zero ChangeT.zero ViewT.zero) l[i] (recs2) rfl rfl rfl (by omega) hE_a.2 (by omega)) (fun _ s => sep_selR [2, 2, 2, 1] rfl s) (fun _ _ _ => trivial) (fun vR HR hR => ?_)
 obtain rfl := hR
 change TL _ _ _ _ _ _ _ _ _ [blkA r (RepT.cells (mirY lg sd2 ((mirKeep M2 fr l[i]).1))) 104, lgP lg d (((rowC (mirY lg sd2 M2) fr fr l[i] (recs2)).length : Nat) : Int) ((sizeS (rowC (mirY lg sd2 M2) fr fr l[i] (recs2)) : Nat) : Int), dkL d (rowC (mirY lg sd2 M2) fr fr l[i] (recs2)), outP b14 (if mirSealed (mirKeep M2 fr l[i]).1 fr then [] else [SaidT.mk fr (keptMsg (mirRow (mirKeep M2 fr l[i]).1 fr).version)]), blkA b9 (MirT.cells ((mirKeep M2 fr (l[i])).1)) 77, blkA b13 (ints (l[i]).flat) 48, blkA b10 (ints viewS.flat) 52]
 have hsz3 := rowC_size (mirY lg sd2 M2) fr fr l[i] (recs2)
 have hM3 := hM2.keep fr hE_a.2
 refine nx J22 ?_
 refine sr fun _ J23 => ?_
 refine mv ?_
 refine mv ?_
 refine TL.callR (A := [blkA r (RepT.cells (mirY lg sd2 ((mirKeep M2 fr l[i]).1))) 104]) (Want.plain rfl) rfl rfl rfl nm29 rfl (rMirrored_does r (mirY lg sd2 ((mirKeep M2 fr l[i]).1)) fr) (fun _ s => s) (fun _ _ _ => trivial) (fun vR HR hR => ?_)
 obtain ⟨hv, rfl⟩ := hR
 rw [mirY_mirror] at hv
 subst hv
 change TL _ _ _ _ _ _ _ _ _ [blkA r (RepT.cells (mirY lg sd2 ((mirKeep M2 fr l[i]).1))) 104, lgP lg d (((rowC (mirY lg sd2 M2) fr fr l[i] (recs2)).length : Nat) : Int) ((sizeS (rowC (mirY lg sd2 M2) fr fr l[i] (recs2)) : Nat) : Int), dkL d (rowC (mirY lg sd2 M2) fr fr l[i] (recs2)), outP b14 (if mirSealed (mirKeep M2 fr l[i]).1 fr then [] else [SaidT.mk fr (keptMsg (mirRow (mirKeep M2 fr l[i]).1 fr).version)]), blkA b9 (MirT.cells ((mirKeep M2 fr (l[i])).1)) 77, blkA b13 (ints (l[i]).flat) 48, blkA b10 (ints viewS.flat) 52]
 refine mv ?_
 refine tp (PV.extract (vs := [(.agg (ints (mirRow ((mirKeep M2 fr l[i]).1) fr).flat).toArray), (.bool (mirSealed ((mirKeep M2 fr l[i]).1) fr))]) rfl rfl rfl) ?_
 refine tp (PV.extract (vs := [(.agg (ints (mirRow ((mirKeep M2 fr l[i]).1) fr).flat).toArray), (.bool (mirSealed ((mirKeep M2 fr l[i]).1) fr))]) rfl rfl rfl) ?_
 refine TL.decB (fun h116 => ?_) (fun h116 => ?_)
 · exact absurd h103 (by rw [mirKeep_sealed _ _ _ (by rw [← mirSealed_keep M2 fr fr l[i]]; exact h116)]; exact Bool.false_ne_true)
 rw [if_neg (show ¬ mirSealed (mirKeep M2 fr l[i]).1 fr = true by rw [h116]; decide)]
 change TL _ _ _ _ _ _ _ _ _ [blkA r (RepT.cells (mirY lg sd2 ((mirKeep M2 fr l[i]).1))) 104, lgP lg d (((rowC (mirY lg sd2 M2) fr fr l[i] (recs2)).length : Nat) : Int) ((sizeS (rowC (mirY lg sd2 M2) fr fr l[i] (recs2)) : Nat) : Int), dkL d (rowC (mirY lg sd2 M2) fr fr l[i] (recs2)), outP b14 ([SaidT.mk fr (keptMsg (mirRow (mirKeep M2 fr l[i]).1 fr).version)]), blkA b9 (MirT.cells ((mirKeep M2 fr (l[i])).1)) 77, blkA b13 (ints (l[i]).flat) 48, blkA b10 (ints viewS.flat) 52]
 refine TL.mono (fun _ s => sep_selR [3] rfl s) ?_
 refine outOpen (fun vs => ?_)
 change TL _ _ _ _ _ _ _ _ _ [blkA b14 [vs] 32, own vs (1) (ints (List.flatMap SaidT.flat [SaidT.mk fr (keptMsg (mirRow (mirKeep M2 fr l[i]).1 fr).version)])) 84 193, blkA r (RepT.cells (mirY lg sd2 ((mirKeep M2 fr l[i]).1))) 104, lgP lg d (((rowC (mirY lg sd2 M2) fr fr l[i] (recs2)).length : Nat) : Int) ((sizeS (rowC (mirY lg sd2 M2) fr fr l[i] (recs2)) : Nat) : Int), dkL d (rowC (mirY lg sd2 M2) fr fr l[i] (recs2)), blkA b9 (MirT.cells ((mirKeep M2 fr (l[i])).1)) 77, blkA b13 (ints (l[i]).flat) 48, blkA b10 (ints viewS.flat) 52]
 refine TL.ownLen 1 rfl rfl (fun hlvs _ => ?_)
 refine TL.ownAt 1 rfl rfl (by decide) (fun gs cps hvs hcps => ?_)
 refine TL.alloc (Want.plain rfl) rfl rfl rfl z48 (fun b16 => ?_)
 change TL _ _ _ _ _ _ _ _ _ [blkA b16 (ints RowT.zero.flat) 48, blkA b14 [vs] 32, own vs (1) (ints (List.flatMap SaidT.flat [SaidT.mk fr (keptMsg (mirRow (mirKeep M2 fr l[i]).1 fr).version)])) 84 193, blkA r (RepT.cells (mirY lg sd2 ((mirKeep M2 fr l[i]).1))) 104, lgP lg d (((rowC (mirY lg sd2 M2) fr fr l[i] (recs2)).length : Nat) : Int) ((sizeS (rowC (mirY lg sd2 M2) fr fr l[i] (recs2)) : Nat) : Int), dkL d (rowC (mirY lg sd2 M2) fr fr l[i] (recs2)), blkA b9 (MirT.cells ((mirKeep M2 fr (l[i])).1)) 77, blkA b13 (ints (l[i]).flat) 48, blkA b10 (ints viewS.flat) 52]
 refine TL.store (vs := ints (mirRow ((mirKeep M2 fr l[i]).1) fr).flat) (i := 0) (H' := [blkA b16 (ints (mirRow ((mirKeep M2 fr l[i]).1) fr).flat) 48, blkA b14 [vs] 32, own vs (1) (ints (List.flatMap SaidT.flat [SaidT.mk fr (keptMsg (mirRow (mirKeep M2 fr l[i]).1 fr).version)])) 84 193, blkA r (RepT.cells (mirY lg sd2 ((mirKeep M2 fr l[i]).1))) 104, lgP lg d (((rowC (mirY lg sd2 M2) fr fr l[i] (recs2)).length : Nat) : Int) ((sizeS (rowC (mirY lg sd2 M2) fr fr l[i] (recs2)) : Nat) : Int), dkL d (rowC (mirY lg sd2 M2) fr fr l[i] (recs2)), blkA b9 (MirT.cells ((mirKeep M2 fr (l[i])).1)) 77, blkA b13 (ints (l[i]).flat) 48, blkA b10 (ints viewS.flat) 52]) (Want.plain rfl) rfl rfl rfl rfl rfl (by rw [(RowT.len (mirRow ((mirKeep M2 fr l[i]).1) fr))]; exact sz48) (ints_one _) rfl rfl (by have h0 := (RowT.len RowT.zero); have h1 := (RowT.len (mirRow ((mirKeep M2 fr l[i]).1) fr)); omega) (wwhole ((RowT.len RowT.zero).trans (RowT.len (mirRow ((mirKeep M2 fr l[i]).1) fr)).symm)) rfl ?_
 refine sg' ?_
 refine nx J23 ?_
 refine TC.seq fun _ J24 => ?_
 refine TC.seq fun _ J25 => ?_
 refine TC.draw (fun w => Frm F w ∧ w.heap[b16]? = some (.cells (ints (mirRow ((mirKeep M2 fr l[i]).1) fr).flat).toArray 48 (0, 0)) ∧ True) mixed rfl (fun _ s => ⟨Frm.of s, s.block 0 (lb rfl) rfl, trivial⟩) ?_
 refine ta 0 rfl (PV.loadN (vs := ints (mirRow ((mirKeep M2 fr l[i]).1) fr).flat) rfl Tryz.underlying48 rfl sz48 rfl (fun _ h => h.2.1) (RowT.len (mirRow ((mirKeep M2 fr l[i]).1) fr)) (whole (RowT.len (mirRow ((mirKeep M2 fr l[i]).1) fr)))) ?_
 refine ta 1 rfl (PV.move rfl rfl) ?_
 refine TD.all [2] (by kernel_rfl) rfl ?_
 refine AllT.cons rfl ?_ ?_
 refine TL.callR (A := [blkA b9 (MirT.cells ((mirKeep M2 fr (l[i])).1)) 77]) (Want.plain rfl) rfl rfl rfl nm26 rfl (mirRow_does b9 0 77 _ Arnd.whole ((mirKeep M2 fr (l[i])).1) fr) (fun _ s => sep_selR [6] rfl s) (fun _ _ _ => trivial) (fun vR HR hR => ?_)
 obtain ⟨rfl, rfl⟩ := hR
 change TL _ _ _ _ _ _ _ _ _ [blkA b9 (MirT.cells ((mirKeep M2 fr (l[i])).1)) 77, blkA b16 (ints (mirRow ((mirKeep M2 fr l[i]).1) fr).flat) 48, blkA b14 [vs] 32, own vs (1) (ints (List.flatMap SaidT.flat [SaidT.mk fr (keptMsg (mirRow (mirKeep M2 fr l[i]).1 fr).version)])) 84 193, blkA r (RepT.cells (mirY lg sd2 ((mirKeep M2 fr l[i]).1))) 104, lgP lg d (((rowC (mirY lg sd2 M2) fr fr l[i] (recs2)).length : Nat) : Int) ((sizeS (rowC (mirY lg sd2 M2) fr fr l[i] (recs2)) : Nat) : Int), dkL d (rowC (mirY lg sd2 M2) fr fr l[i] (recs2)), blkA b13 (ints (l[i]).flat) 48, blkA b10 (ints viewS.flat) 52]
 refine TL.nil ?_
 refine TE.draw (fun _ s => ⟨Frm.of s, s.block 1 (lb rfl) rfl, trivial⟩) ?_
 refine ta 3 rfl (PV.neqAgg (a := (mirRow ((mirKeep M2 fr l[i]).1) fr).flat) (b := (mirRow ((mirKeep M2 fr (l[i])).1) fr).flat) (m := 8) (c := 174) sg48 sk48 rfl fI48 (ints_len (RowT.len (mirRow ((mirKeep M2 fr l[i]).1) fr))) (ints_len (RowT.len (mirRow ((mirKeep M2 fr (l[i])).1) fr))) ⟨formed_ag fC48 cC48 (ints_len (RowT.len (mirRow ((mirKeep M2 fr l[i]).1) fr))), formed_ag fC48 cC48 (ints_len (RowT.len (mirRow ((mirKeep M2 fr (l[i])).1) fr)))⟩ (hM3 fr) (hM3 fr) rfl rfl rfl) ?_
 refine TD.dec (fun h120 => ?_) (fun h120 => ?_)
 · exact absurd rfl h120
 refine ta 4 rfl (PV.move rfl rfl) ?_
 refine tb 5 rfl (PV.move rfl rfl) ?_
 refine tb 6 rfl (PV.move rfl rfl) ?_
 refine TD.all [7] (by kernel_rfl) rfl ?_
 refine AllT.cons rfl ?_ ?_
 refine TL.callR (A := [blkA b9 (MirT.cells ((mirKeep M2 fr (l[i])).1)) 77]) (Want.met rfl rfl rfl) rfl rfl rfl nm30 rfl (mirSealed_does b9 0 77 _ Arnd.whole ((mirKeep M2 fr (l[i])).1) fr) (fun _ s => s) (fun _ _ _ => trivial) (fun vR HR hR => ?_)
 obtain ⟨rfl, rfl⟩ := hR
 change TL _ _ _ _ _ _ _ _ _ [blkA b9 (MirT.cells ((mirKeep M2 fr (l[i])).1)) 77, blkA b16 (ints (mirRow ((mirKeep M2 fr l[i]).1) fr).flat) 48, blkA b14 [vs] 32, own vs (1) (ints (List.flatMap SaidT.flat [SaidT.mk fr (keptMsg (mirRow (mirKeep M2 fr l[i]).1 fr).version)])) 84 193, blkA r (RepT.cells (mirY lg sd2 ((mirKeep M2 fr l[i]).1))) 104, lgP lg d (((rowC (mirY lg sd2 M2) fr fr l[i] (recs2)).length : Nat) : Int) ((sizeS (rowC (mirY lg sd2 M2) fr fr l[i] (recs2)) : Nat) : Int), dkL d (rowC (mirY lg sd2 M2) fr fr l[i] (recs2)), blkA b13 (ints (l[i]).flat) 48, blkA b10 (ints viewS.flat) 52]
 refine TL.nil ?_
 refine TE.draw (fun _ s => ⟨Frm.of s, s.block 1 (lb rfl) rfl, trivial⟩) ?_
 refine tb 8 rfl (PV.neqBo rfl Tryz.underlying4 rfl rfl) ?_
 refine TD.decB (fun h125 => ?_) (fun h125 => ?_)
 · exact absurd h125 (by rw [h116]; decide)
 refine ta 9 rfl (PV.pick rfl rfl rfl) ?_
 refine TD.done (by kernel_rfl) ?_
 refine TE.next J25 ?_
 refine TC.no rfl ?_
 refine TC.skip ?_
 refine TE.next J24 ?_
 refine TC.seq fun _ J26 => ?_
 refine sr fun _ J27 => ?_
 refine mv ?_
 refine nx J27 ?_
 refine TC.no rfl ?_
 refine TC.skip ?_
 refine TE.next J26 ?_
 refine TC.seq fun _ J28 => ?_
 refine TC.draw (fun w => Frm F w ∧ w.heap[b14]? = some (.cells ([vs]).toArray 32 (0, 0)) ∧ Hx gs (ints (List.flatMap SaidT.flat [SaidT.mk fr (keptMsg (mirRow (mirKeep M2 fr l[i]).1 fr).version)])) w ∧ True) mixed rfl (fun _ s => ⟨Frm.of s, s.block 2 (lb rfl) rfl, RdX.own 3 rfl hvs rfl _ s, trivial⟩) ?_
 refine ta 0 rfl (PV.fieldAddr (r := 0) rfl Tryz.underlying32 rfl sz30 rfl rfl) ?_
 refine ta 1 rfl (PV.load1 (v := vs) rfl Tryz.underlying30 rfl rfl (fun _ h => h.2.1) rfl) ?_
 refine ta 2 rfl (PV.lenV rfl Tryz.underlying30 rfl hlvs) ?_
 refine ta 3 rfl (PV.neq rfl rfl rfl) ?_
 refine ta 4 rfl (PV.move rfl rfl) ?_
 refine tb 5 rfl (PV.fieldAddr (r := 0) rfl Tryz.underlying32 rfl sz30 rfl rfl) ?_
 refine tb 6 rfl (PV.load1 (v := vs) rfl Tryz.underlying30 rfl rfl (fun _ h => h.2.1) rfl) ?_
 refine tb 7 rfl (PV.indexSlV (r := 0) hvs rfl Tryz.underlying30 sz84 rfl rfl (by omega) (by omega) rfl) ?_
 refine tb 8 rfl (PV.fieldAddr (r := 0) rfl Tryz.underlying84 rfl sz3 rfl rfl) ?_
 refine tb 9 rfl (PV.load1X (v := (.int .i64 (fr))) rfl Tryz.underlying3 rfl rfl (fun _ h => h.2.2.1) (said_to _)) ?_
 refine tb 10 rfl (PV.move rfl rfl) ?_
 refine tb 11 rfl (PV.neq rfl rfl rfl) ?_
 refine TD.dec (fun h146 => ?_) (fun h146 => ?_)
 · exact absurd rfl h146
 refine ta 12 rfl (PV.pick rfl rfl rfl) ?_
 refine ta 13 rfl (PV.move rfl rfl) ?_
 refine tb 14 rfl (PV.fieldAddr (r := 0) rfl Tryz.underlying32 rfl sz30 rfl rfl) ?_
 refine tb 15 rfl (PV.load1 (v := vs) rfl Tryz.underlying30 rfl rfl (fun _ h => h.2.1) rfl) ?_
 refine tb 16 rfl (PV.indexSlV (r := 0) hvs rfl Tryz.underlying30 sz84 rfl rfl (by omega) (by omega) rfl) ?_
 refine tb 17 rfl (PV.fieldAddr (r := 1) rfl Tryz.underlying84 rfl sz54 rfl rfl) ?_
 refine tb 18 rfl (PV.fieldAddr (r := 1) rfl Tryz.underlying54 rfl sz3 rfl rfl) ?_
 refine tb 19 rfl (PV.load1X (v := (.int .i64 1)) rfl Tryz.underlying3 rfl rfl (fun _ h => h.2.2.1) (said_kind _)) ?_
 refine tb 20 rfl (PV.neq rfl rfl rfl) ?_
 refine ta 21 rfl (PV.pick rfl rfl rfl) ?_
 refine ta 22 rfl (PV.move rfl rfl) ?_
 refine tb 23 rfl (PV.fieldAddr (r := 0) rfl Tryz.underlying32 rfl sz30 rfl rfl) ?_
 refine tb 24 rfl (PV.load1 (v := vs) rfl Tryz.underlying30 rfl rfl (fun _ h => h.2.1) rfl) ?_
 refine tb 25 rfl (PV.indexSlV (r := 0) hvs rfl Tryz.underlying30 sz84 rfl rfl (by omega) (by omega) rfl) ?_
 refine tb 26 rfl (PV.fieldAddr (r := 1) rfl Tryz.underlying84 rfl sz54 rfl rfl) ?_
 refine tb 27 rfl (PV.fieldAddr (r := 177) rfl Tryz.underlying54 rfl sz3 rfl rfl) ?_
 refine tb 28 rfl (PV.load1X (v := (.int .i64 ((mirRow (mirKeep M2 fr l[i]).1 fr).version))) rfl Tryz.underlying3 rfl rfl (fun _ h => h.2.2.1) (said_version _)) ?_
 refine tb 29 rfl (PV.move rfl rfl) ?_
 refine TD.all [30] (by kernel_rfl) rfl ?_
 refine AllT.cons rfl ?_ ?_
 refine TL.callR (A := [blkA b9 (MirT.cells ((mirKeep M2 fr (l[i])).1)) 77]) (Want.met rfl rfl rfl) rfl rfl rfl nm26 rfl (mirRow_does b9 0 77 _ Arnd.whole ((mirKeep M2 fr (l[i])).1) fr) (fun _ s => s) (fun _ _ _ => trivial) (fun vR HR hR => ?_)
 obtain ⟨rfl, rfl⟩ := hR
 change TL _ _ _ _ _ _ _ _ _ [blkA b9 (MirT.cells ((mirKeep M2 fr (l[i])).1)) 77, blkA b16 (ints (mirRow ((mirKeep M2 fr l[i]).1) fr).flat) 48, blkA b14 [vs] 32, own vs (1) (ints (List.flatMap SaidT.flat [SaidT.mk fr (keptMsg (mirRow (mirKeep M2 fr l[i]).1 fr).version)])) 84 193, blkA r (RepT.cells (mirY lg sd2 ((mirKeep M2 fr l[i]).1))) 104, lgP lg d (((rowC (mirY lg sd2 M2) fr fr l[i] (recs2)).length : Nat) : Int) ((sizeS (rowC (mirY lg sd2 M2) fr fr l[i] (recs2)) : Nat) : Int), dkL d (rowC (mirY lg sd2 M2) fr fr l[i] (recs2)), blkA b13 (ints (l[i]).flat) 48, blkA b10 (ints viewS.flat) 52]
 refine TL.nil ?_
 refine TE.draw (fun _ s => ⟨Frm.of s, s.block 2 (lb rfl) rfl, RdX.own 3 rfl hvs rfl _ s, trivial⟩) ?_
 refine tb 31 rfl (PV.field1 (cs := ints (mirRow ((mirKeep M2 fr (l[i])).1) fr).flat) (v := Value.int .i64 ((mirRow ((mirKeep M2 fr (l[i])).1) fr).version)) rfl Tryz.underlying48 rfl Tryz.underlying3 rfl rfl (RowT.at_version (mirRow ((mirKeep M2 fr (l[i])).1) fr) rfl)) ?_
 refine tb 32 rfl (PV.neq rfl rfl rfl) ?_
 refine TD.dec (fun h167 => ?_) (fun h167 => ?_)
 · exact absurd rfl h167
 refine ta 33 rfl (PV.pick rfl rfl rfl) ?_
 refine TD.done (by kernel_rfl) ?_
 refine TE.next J28 ?_
 refine TC.no rfl ?_
 refine TC.skip ?_
 refine TE.blockEnd ?_
 refine TE.next J17 ?_
 refine TC.region ?_
 refine tp (PV.add rfl rfl rfl (wrap_i64 (by omega) (by omega))) ?_
 refine mv ?_
 refine TL.nil ?_
 exact TE.round ((i + 1, sd2, (mirKeep M2 fr l[i]).1, rowC (mirY lg sd2 M2) fr fr l[i] (recs2)) : (Nat) × (Bool) × (MirT) × (List (List UInt8))) ⟨by omega, hM3, by rw [mirSealed_keep]; exact hS2, hz2, fun q => by have := hle2 q; omega, fun q => by have := hsf2 q; omega, by omega⟩ (by show l.length - (i + 1) < l.length - i; omega)
   (Sub.r (Sub.r (Sub.r (Sub.r (Sub.r (Sub.r (Sub.r (Sub.cons rfl (by simp) (Sub.nil _)))))))))
   (fun _ s => sep_keep [4, 4, 4, 0, 4] rfl s)
 exact AllT.nil
 exact AllT.nil
 exact AllT.nil
 refine sg' ?_
 refine nx J21 ?_
 refine sr fun _ J29 => ?_
 refine mv ?_
 refine tp (PV.mkIface rfl Tryz.underlying34 rfl rfl) ?_
 refine mv ?_
 refine mv ?_
 refine tp (PV.loadN (vs := ints (l[i]).flat) rfl Tryz.underlying48 rfl sz48 rfl (Rd.own 5 rfl rfl) (RowT.len (l[i])) (whole (RowT.len (l[i])))) ?_
 refine tp (PV.buildSegs (cs := ints (MsgT.mk 0 fr (l[i]) 0 0 BallotT.zero BallotT.zero ChangeT.zero ViewT.zero).flat) (segs := [[Value.int .i64 0], [Value.int .i64 0], ints RowT.zero.flat, [Value.int .i64 0], [Value.int .i64 0], ints BallotT.zero.flat, ints BallotT.zero.flat, ints ChangeT.zero.flat, ints ViewT.zero.flat]) (res := [[Value.int .i64 0], [Value.int .i64 fr], ints (l[i]).flat, [Value.int .i64 0], [Value.int .i64 0], ints BallotT.zero.flat, ints BallotT.zero.flat, ints ChangeT.zero.flat, ints ViewT.zero.flat]) (parts := [(0, [Value.int .i64 0]), (1, [Value.int .i64 fr]), (2, ints (l[i]).flat)]) rfl rfl Tryz.underlying54 (by kernel_rfl) (by kernel_rfl) rfl (putSegs_step rfl ((rfl : [Value.int .i64 0].length = 1).trans (rfl : [Value.int .i64 0].length = 1).symm) (putSegs_step rfl ((rfl : [Value.int .i64 fr].length = 1).trans (rfl : [Value.int .i64 0].length = 1).symm) (putSegs_step rfl ((RowT.len (l[i])).trans (RowT.len RowT.zero).symm) putSegs_nil))) (MsgT.eq (MsgT.mk 0 fr (l[i]) 0 0 BallotT.zero BallotT.zero ChangeT.zero ViewT.zero)).symm) ?_
 refine TL.callR (A := [blkA r (RepT.cells (mirY lg sd2 M2)) 104, lgP lg d (((recs2).length : Nat) : Int) ((sizeS (recs2) : Nat) : Int), dkL d (recs2), outP b14 ([])]) (Want.plain rfl) rfl rfl rfl nm13 rfl (takeM_does r b14 lg d sd2 M2 fr (MsgT.mk 0 fr (l[i]) 0 0 BallotT.zero BallotT.zero ChangeT.zero ViewT.zero) l[i] (recs2) rfl rfl rfl (by omega) hE_a.2 (by omega)) (fun _ s => sep_selR [2, 2, 2, 1] rfl s) (fun _ _ _ => trivial) (fun vR HR hR => ?_)
 obtain rfl := hR
 change TL _ _ _ _ _ _ _ _ _ [blkA r (RepT.cells (mirY lg sd2 ((mirKeep M2 fr l[i]).1))) 104, lgP lg d (((rowC (mirY lg sd2 M2) fr fr l[i] (recs2)).length : Nat) : Int) ((sizeS (rowC (mirY lg sd2 M2) fr fr l[i] (recs2)) : Nat) : Int), dkL d (rowC (mirY lg sd2 M2) fr fr l[i] (recs2)), outP b14 (if mirSealed (mirKeep M2 fr l[i]).1 fr then [] else [SaidT.mk fr (keptMsg (mirRow (mirKeep M2 fr l[i]).1 fr).version)]), blkA b9 (MirT.cells ((mirKeep M2 fr (l[i])).1)) 77, blkA b13 (ints (l[i]).flat) 48, blkA b10 (ints viewS.flat) 52]
 have hsz3 := rowC_size (mirY lg sd2 M2) fr fr l[i] (recs2)
 have hM3 := hM2.keep fr hE_a.2
 refine nx J29 ?_
 refine sr fun _ J30 => ?_
 refine mv ?_
 refine mv ?_
 refine TL.callR (A := [blkA r (RepT.cells (mirY lg sd2 ((mirKeep M2 fr l[i]).1))) 104]) (Want.plain rfl) rfl rfl rfl nm29 rfl (rMirrored_does r (mirY lg sd2 ((mirKeep M2 fr l[i]).1)) fr) (fun _ s => s) (fun _ _ _ => trivial) (fun vR HR hR => ?_)
 obtain ⟨hv, rfl⟩ := hR
 rw [mirY_mirror] at hv
 subst hv
 change TL _ _ _ _ _ _ _ _ _ [blkA r (RepT.cells (mirY lg sd2 ((mirKeep M2 fr l[i]).1))) 104, lgP lg d (((rowC (mirY lg sd2 M2) fr fr l[i] (recs2)).length : Nat) : Int) ((sizeS (rowC (mirY lg sd2 M2) fr fr l[i] (recs2)) : Nat) : Int), dkL d (rowC (mirY lg sd2 M2) fr fr l[i] (recs2)), outP b14 (if mirSealed (mirKeep M2 fr l[i]).1 fr then [] else [SaidT.mk fr (keptMsg (mirRow (mirKeep M2 fr l[i]).1 fr).version)]), blkA b9 (MirT.cells ((mirKeep M2 fr (l[i])).1)) 77, blkA b13 (ints (l[i]).flat) 48, blkA b10 (ints viewS.flat) 52]
 refine mv ?_
 refine tp (PV.extract (vs := [(.agg (ints (mirRow ((mirKeep M2 fr l[i]).1) fr).flat).toArray), (.bool (mirSealed ((mirKeep M2 fr l[i]).1) fr))]) rfl rfl rfl) ?_
 refine tp (PV.extract (vs := [(.agg (ints (mirRow ((mirKeep M2 fr l[i]).1) fr).flat).toArray), (.bool (mirSealed ((mirKeep M2 fr l[i]).1) fr))]) rfl rfl rfl) ?_
 refine TL.decB (fun h116 => ?_) (fun h116 => ?_)
 rw [if_pos h116]
 change TL _ _ _ _ _ _ _ _ _ [blkA r (RepT.cells (mirY lg sd2 ((mirKeep M2 fr l[i]).1))) 104, lgP lg d (((rowC (mirY lg sd2 M2) fr fr l[i] (recs2)).length : Nat) : Int) ((sizeS (rowC (mirY lg sd2 M2) fr fr l[i] (recs2)) : Nat) : Int), dkL d (rowC (mirY lg sd2 M2) fr fr l[i] (recs2)), outP b14 ([]), blkA b9 (MirT.cells ((mirKeep M2 fr (l[i])).1)) 77, blkA b13 (ints (l[i]).flat) 48, blkA b10 (ints viewS.flat) 52]
 refine TL.mono (fun _ s => sep_selR [3] rfl s) ?_
 refine outOpen (fun vs => ?_)
 change TL _ _ _ _ _ _ _ _ _ [blkA b14 [vs] 32, own vs (0) (ints (List.flatMap SaidT.flat [])) 84 193, blkA r (RepT.cells (mirY lg sd2 ((mirKeep M2 fr l[i]).1))) 104, lgP lg d (((rowC (mirY lg sd2 M2) fr fr l[i] (recs2)).length : Nat) : Int) ((sizeS (rowC (mirY lg sd2 M2) fr fr l[i] (recs2)) : Nat) : Int), dkL d (rowC (mirY lg sd2 M2) fr fr l[i] (recs2)), blkA b9 (MirT.cells ((mirKeep M2 fr (l[i])).1)) 77, blkA b13 (ints (l[i]).flat) 48, blkA b10 (ints viewS.flat) 52]
 refine TL.ownLen 1 rfl rfl (fun hlvs _ => ?_)
 refine TL.alloc (Want.plain rfl) rfl rfl rfl z48 (fun b16 => ?_)
 change TL _ _ _ _ _ _ _ _ _ [blkA b16 (ints RowT.zero.flat) 48, blkA b14 [vs] 32, own vs (0) (ints (List.flatMap SaidT.flat [])) 84 193, blkA r (RepT.cells (mirY lg sd2 ((mirKeep M2 fr l[i]).1))) 104, lgP lg d (((rowC (mirY lg sd2 M2) fr fr l[i] (recs2)).length : Nat) : Int) ((sizeS (rowC (mirY lg sd2 M2) fr fr l[i] (recs2)) : Nat) : Int), dkL d (rowC (mirY lg sd2 M2) fr fr l[i] (recs2)), blkA b9 (MirT.cells ((mirKeep M2 fr (l[i])).1)) 77, blkA b13 (ints (l[i]).flat) 48, blkA b10 (ints viewS.flat) 52]
 refine TL.store (vs := ints (mirRow ((mirKeep M2 fr l[i]).1) fr).flat) (i := 0) (H' := [blkA b16 (ints (mirRow ((mirKeep M2 fr l[i]).1) fr).flat) 48, blkA b14 [vs] 32, own vs (0) (ints (List.flatMap SaidT.flat [])) 84 193, blkA r (RepT.cells (mirY lg sd2 ((mirKeep M2 fr l[i]).1))) 104, lgP lg d (((rowC (mirY lg sd2 M2) fr fr l[i] (recs2)).length : Nat) : Int) ((sizeS (rowC (mirY lg sd2 M2) fr fr l[i] (recs2)) : Nat) : Int), dkL d (rowC (mirY lg sd2 M2) fr fr l[i] (recs2)), blkA b9 (MirT.cells ((mirKeep M2 fr (l[i])).1)) 77, blkA b13 (ints (l[i]).flat) 48, blkA b10 (ints viewS.flat) 52]) (Want.plain rfl) rfl rfl rfl rfl rfl (by rw [(RowT.len (mirRow ((mirKeep M2 fr l[i]).1) fr))]; exact sz48) (ints_one _) rfl rfl (by have h0 := (RowT.len RowT.zero); have h1 := (RowT.len (mirRow ((mirKeep M2 fr l[i]).1) fr)); omega) (wwhole ((RowT.len RowT.zero).trans (RowT.len (mirRow ((mirKeep M2 fr l[i]).1) fr)).symm)) rfl ?_
 refine sg' ?_
 refine nx J30 ?_
 refine TC.seq fun _ J31 => ?_
 refine TC.seq fun _ J32 => ?_
 refine TC.draw (fun w => Frm F w ∧ w.heap[b16]? = some (.cells (ints (mirRow ((mirKeep M2 fr l[i]).1) fr).flat).toArray 48 (0, 0)) ∧ True) mixed rfl (fun _ s => ⟨Frm.of s, s.block 0 (lb rfl) rfl, trivial⟩) ?_
 refine ta 0 rfl (PV.loadN (vs := ints (mirRow ((mirKeep M2 fr l[i]).1) fr).flat) rfl Tryz.underlying48 rfl sz48 rfl (fun _ h => h.2.1) (RowT.len (mirRow ((mirKeep M2 fr l[i]).1) fr)) (whole (RowT.len (mirRow ((mirKeep M2 fr l[i]).1) fr)))) ?_
 refine ta 1 rfl (PV.move rfl rfl) ?_
 refine TD.all [2] (by kernel_rfl) rfl ?_
 refine AllT.cons rfl ?_ ?_
 refine TL.callR (A := [blkA b9 (MirT.cells ((mirKeep M2 fr (l[i])).1)) 77]) (Want.plain rfl) rfl rfl rfl nm26 rfl (mirRow_does b9 0 77 _ Arnd.whole ((mirKeep M2 fr (l[i])).1) fr) (fun _ s => sep_selR [6] rfl s) (fun _ _ _ => trivial) (fun vR HR hR => ?_)
 obtain ⟨rfl, rfl⟩ := hR
 change TL _ _ _ _ _ _ _ _ _ [blkA b9 (MirT.cells ((mirKeep M2 fr (l[i])).1)) 77, blkA b16 (ints (mirRow ((mirKeep M2 fr l[i]).1) fr).flat) 48, blkA b14 [vs] 32, own vs (0) (ints (List.flatMap SaidT.flat [])) 84 193, blkA r (RepT.cells (mirY lg sd2 ((mirKeep M2 fr l[i]).1))) 104, lgP lg d (((rowC (mirY lg sd2 M2) fr fr l[i] (recs2)).length : Nat) : Int) ((sizeS (rowC (mirY lg sd2 M2) fr fr l[i] (recs2)) : Nat) : Int), dkL d (rowC (mirY lg sd2 M2) fr fr l[i] (recs2)), blkA b13 (ints (l[i]).flat) 48, blkA b10 (ints viewS.flat) 52]
 refine TL.nil ?_
 refine TE.draw (fun _ s => ⟨Frm.of s, s.block 1 (lb rfl) rfl, trivial⟩) ?_
 refine ta 3 rfl (PV.neqAgg (a := (mirRow ((mirKeep M2 fr l[i]).1) fr).flat) (b := (mirRow ((mirKeep M2 fr (l[i])).1) fr).flat) (m := 8) (c := 174) sg48 sk48 rfl fI48 (ints_len (RowT.len (mirRow ((mirKeep M2 fr l[i]).1) fr))) (ints_len (RowT.len (mirRow ((mirKeep M2 fr (l[i])).1) fr))) ⟨formed_ag fC48 cC48 (ints_len (RowT.len (mirRow ((mirKeep M2 fr l[i]).1) fr))), formed_ag fC48 cC48 (ints_len (RowT.len (mirRow ((mirKeep M2 fr (l[i])).1) fr)))⟩ (hM3 fr) (hM3 fr) rfl rfl rfl) ?_
 refine TD.dec (fun h120 => ?_) (fun h120 => ?_)
 · exact absurd rfl h120
 refine ta 4 rfl (PV.move rfl rfl) ?_
 refine tb 5 rfl (PV.move rfl rfl) ?_
 refine tb 6 rfl (PV.move rfl rfl) ?_
 refine TD.all [7] (by kernel_rfl) rfl ?_
 refine AllT.cons rfl ?_ ?_
 refine TL.callR (A := [blkA b9 (MirT.cells ((mirKeep M2 fr (l[i])).1)) 77]) (Want.met rfl rfl rfl) rfl rfl rfl nm30 rfl (mirSealed_does b9 0 77 _ Arnd.whole ((mirKeep M2 fr (l[i])).1) fr) (fun _ s => s) (fun _ _ _ => trivial) (fun vR HR hR => ?_)
 obtain ⟨rfl, rfl⟩ := hR
 change TL _ _ _ _ _ _ _ _ _ [blkA b9 (MirT.cells ((mirKeep M2 fr (l[i])).1)) 77, blkA b16 (ints (mirRow ((mirKeep M2 fr l[i]).1) fr).flat) 48, blkA b14 [vs] 32, own vs (0) (ints (List.flatMap SaidT.flat [])) 84 193, blkA r (RepT.cells (mirY lg sd2 ((mirKeep M2 fr l[i]).1))) 104, lgP lg d (((rowC (mirY lg sd2 M2) fr fr l[i] (recs2)).length : Nat) : Int) ((sizeS (rowC (mirY lg sd2 M2) fr fr l[i] (recs2)) : Nat) : Int), dkL d (rowC (mirY lg sd2 M2) fr fr l[i] (recs2)), blkA b13 (ints (l[i]).flat) 48, blkA b10 (ints viewS.flat) 52]
 refine TL.nil ?_
 refine TE.draw (fun _ s => ⟨Frm.of s, s.block 1 (lb rfl) rfl, trivial⟩) ?_
 refine tb 8 rfl (PV.neqBo rfl Tryz.underlying4 rfl rfl) ?_
 refine TD.decB (fun h125 => ?_) (fun h125 => ?_)
 · exact absurd h125 (by rw [h116]; decide)
 refine ta 9 rfl (PV.pick rfl rfl rfl) ?_
 refine TD.done (by kernel_rfl) ?_
 refine TE.next J32 ?_
 refine TC.no rfl ?_
 refine TC.skip ?_
 refine TE.next J31 ?_
 refine TC.seq fun _ J33 => ?_
 refine sr fun _ J34 => ?_
 refine mv ?_
 refine nx J34 ?_
 refine TC.yes rfl ?_
 refine TC.seq fun _ J35 => ?_
 refine sr fun _ J36 => ?_
 refine tp (PV.fieldAddr (r := 0) rfl Tryz.underlying32 rfl sz30 rfl rfl) ?_
 refine tp (PV.load1 (v := vs) rfl Tryz.underlying30 rfl rfl (Rd.own 2 rfl rfl) rfl) ?_
 refine tp (PV.lenV rfl Tryz.underlying30 rfl hlvs) ?_
 refine tp (PV.neq rfl rfl rfl) ?_
 refine mv ?_
 refine tq (PV.move rfl rfl) ?_
 refine tp (PV.pick rfl rfl rfl) ?_
 refine nx J36 ?_
 refine TC.no rfl ?_
 refine TC.skip ?_
 refine TE.next J35 ?_
 refine TC.exit ?_
 refine TE.pass ?_
 refine TE.hit ?_
 refine TE.next J17 ?_
 refine TC.region ?_
 refine tp (PV.add rfl rfl rfl (wrap_i64 (by omega) (by omega))) ?_
 refine mv ?_
 refine TL.nil ?_
 exact TE.round ((i + 1, sd2, (mirKeep M2 fr l[i]).1, rowC (mirY lg sd2 M2) fr fr l[i] (recs2)) : (Nat) × (Bool) × (MirT) × (List (List UInt8))) ⟨by omega, hM3, by rw [mirSealed_keep]; exact hS2, hz2, fun q => by have := hle2 q; omega, fun q => by have := hsf2 q; omega, by omega⟩ (by show l.length - (i + 1) < l.length - i; omega)
   (Sub.r (Sub.r (Sub.r (Sub.r (Sub.r (Sub.r (Sub.r (Sub.cons rfl (by simp) (Sub.nil _)))))))))
   (fun _ s => sep_keep [4, 4, 4, 0, 4] rfl s)
 exact AllT.nil
 exact AllT.nil
 rw [if_neg (show ¬ mirSealed (mirKeep M2 fr l[i]).1 fr = true by rw [h116]; decide)]
 change TL _ _ _ _ _ _ _ _ _ [blkA r (RepT.cells (mirY lg sd2 ((mirKeep M2 fr l[i]).1))) 104, lgP lg d (((rowC (mirY lg sd2 M2) fr fr l[i] (recs2)).length : Nat) : Int) ((sizeS (rowC (mirY lg sd2 M2) fr fr l[i] (recs2)) : Nat) : Int), dkL d (rowC (mirY lg sd2 M2) fr fr l[i] (recs2)), outP b14 ([SaidT.mk fr (keptMsg (mirRow (mirKeep M2 fr l[i]).1 fr).version)]), blkA b9 (MirT.cells ((mirKeep M2 fr (l[i])).1)) 77, blkA b13 (ints (l[i]).flat) 48, blkA b10 (ints viewS.flat) 52]
 refine TL.mono (fun _ s => sep_selR [3] rfl s) ?_
 refine outOpen (fun vs => ?_)
 change TL _ _ _ _ _ _ _ _ _ [blkA b14 [vs] 32, own vs (1) (ints (List.flatMap SaidT.flat [SaidT.mk fr (keptMsg (mirRow (mirKeep M2 fr l[i]).1 fr).version)])) 84 193, blkA r (RepT.cells (mirY lg sd2 ((mirKeep M2 fr l[i]).1))) 104, lgP lg d (((rowC (mirY lg sd2 M2) fr fr l[i] (recs2)).length : Nat) : Int) ((sizeS (rowC (mirY lg sd2 M2) fr fr l[i] (recs2)) : Nat) : Int), dkL d (rowC (mirY lg sd2 M2) fr fr l[i] (recs2)), blkA b9 (MirT.cells ((mirKeep M2 fr (l[i])).1)) 77, blkA b13 (ints (l[i]).flat) 48, blkA b10 (ints viewS.flat) 52]
 refine TL.ownLen 1 rfl rfl (fun hlvs _ => ?_)
 refine TL.ownAt 1 rfl rfl (by decide) (fun gs cps hvs hcps => ?_)
 refine TL.alloc (Want.plain rfl) rfl rfl rfl z48 (fun b16 => ?_)
 change TL _ _ _ _ _ _ _ _ _ [blkA b16 (ints RowT.zero.flat) 48, blkA b14 [vs] 32, own vs (1) (ints (List.flatMap SaidT.flat [SaidT.mk fr (keptMsg (mirRow (mirKeep M2 fr l[i]).1 fr).version)])) 84 193, blkA r (RepT.cells (mirY lg sd2 ((mirKeep M2 fr l[i]).1))) 104, lgP lg d (((rowC (mirY lg sd2 M2) fr fr l[i] (recs2)).length : Nat) : Int) ((sizeS (rowC (mirY lg sd2 M2) fr fr l[i] (recs2)) : Nat) : Int), dkL d (rowC (mirY lg sd2 M2) fr fr l[i] (recs2)), blkA b9 (MirT.cells ((mirKeep M2 fr (l[i])).1)) 77, blkA b13 (ints (l[i]).flat) 48, blkA b10 (ints viewS.flat) 52]
 refine TL.store (vs := ints (mirRow ((mirKeep M2 fr l[i]).1) fr).flat) (i := 0) (H' := [blkA b16 (ints (mirRow ((mirKeep M2 fr l[i]).1) fr).flat) 48, blkA b14 [vs] 32, own vs (1) (ints (List.flatMap SaidT.flat [SaidT.mk fr (keptMsg (mirRow (mirKeep M2 fr l[i]).1 fr).version)])) 84 193, blkA r (RepT.cells (mirY lg sd2 ((mirKeep M2 fr l[i]).1))) 104, lgP lg d (((rowC (mirY lg sd2 M2) fr fr l[i] (recs2)).length : Nat) : Int) ((sizeS (rowC (mirY lg sd2 M2) fr fr l[i] (recs2)) : Nat) : Int), dkL d (rowC (mirY lg sd2 M2) fr fr l[i] (recs2)), blkA b9 (MirT.cells ((mirKeep M2 fr (l[i])).1)) 77, blkA b13 (ints (l[i]).flat) 48, blkA b10 (ints viewS.flat) 52]) (Want.plain rfl) rfl rfl rfl rfl rfl (by rw [(RowT.len (mirRow ((mirKeep M2 fr l[i]).1) fr))]; exact sz48) (ints_one _) rfl rfl (by have h0 := (RowT.len RowT.zero); have h1 := (RowT.len (mirRow ((mirKeep M2 fr l[i]).1) fr)); omega) (wwhole ((RowT.len RowT.zero).trans (RowT.len (mirRow ((mirKeep M2 fr l[i]).1) fr)).symm)) rfl ?_
 refine sg' ?_
 refine nx J30 ?_
 refine TC.seq fun _ J37 => ?_
 refine TC.seq fun _ J38 => ?_
 refine TC.draw (fun w => Frm F w ∧ w.heap[b16]? = some (.cells (ints (mirRow ((mirKeep M2 fr l[i]).1) fr).flat).toArray 48 (0, 0)) ∧ True) mixed rfl (fun _ s => ⟨Frm.of s, s.block 0 (lb rfl) rfl, trivial⟩) ?_
 refine ta 0 rfl (PV.loadN (vs := ints (mirRow ((mirKeep M2 fr l[i]).1) fr).flat) rfl Tryz.underlying48 rfl sz48 rfl (fun _ h => h.2.1) (RowT.len (mirRow ((mirKeep M2 fr l[i]).1) fr)) (whole (RowT.len (mirRow ((mirKeep M2 fr l[i]).1) fr)))) ?_
 refine ta 1 rfl (PV.move rfl rfl) ?_
 refine TD.all [2] (by kernel_rfl) rfl ?_
 refine AllT.cons rfl ?_ ?_
 refine TL.callR (A := [blkA b9 (MirT.cells ((mirKeep M2 fr (l[i])).1)) 77]) (Want.plain rfl) rfl rfl rfl nm26 rfl (mirRow_does b9 0 77 _ Arnd.whole ((mirKeep M2 fr (l[i])).1) fr) (fun _ s => sep_selR [6] rfl s) (fun _ _ _ => trivial) (fun vR HR hR => ?_)
 obtain ⟨rfl, rfl⟩ := hR
 change TL _ _ _ _ _ _ _ _ _ [blkA b9 (MirT.cells ((mirKeep M2 fr (l[i])).1)) 77, blkA b16 (ints (mirRow ((mirKeep M2 fr l[i]).1) fr).flat) 48, blkA b14 [vs] 32, own vs (1) (ints (List.flatMap SaidT.flat [SaidT.mk fr (keptMsg (mirRow (mirKeep M2 fr l[i]).1 fr).version)])) 84 193, blkA r (RepT.cells (mirY lg sd2 ((mirKeep M2 fr l[i]).1))) 104, lgP lg d (((rowC (mirY lg sd2 M2) fr fr l[i] (recs2)).length : Nat) : Int) ((sizeS (rowC (mirY lg sd2 M2) fr fr l[i] (recs2)) : Nat) : Int), dkL d (rowC (mirY lg sd2 M2) fr fr l[i] (recs2)), blkA b13 (ints (l[i]).flat) 48, blkA b10 (ints viewS.flat) 52]
 refine TL.nil ?_
 refine TE.draw (fun _ s => ⟨Frm.of s, s.block 1 (lb rfl) rfl, trivial⟩) ?_
 refine ta 3 rfl (PV.neqAgg (a := (mirRow ((mirKeep M2 fr l[i]).1) fr).flat) (b := (mirRow ((mirKeep M2 fr (l[i])).1) fr).flat) (m := 8) (c := 174) sg48 sk48 rfl fI48 (ints_len (RowT.len (mirRow ((mirKeep M2 fr l[i]).1) fr))) (ints_len (RowT.len (mirRow ((mirKeep M2 fr (l[i])).1) fr))) ⟨formed_ag fC48 cC48 (ints_len (RowT.len (mirRow ((mirKeep M2 fr l[i]).1) fr))), formed_ag fC48 cC48 (ints_len (RowT.len (mirRow ((mirKeep M2 fr (l[i])).1) fr)))⟩ (hM3 fr) (hM3 fr) rfl rfl rfl) ?_
 refine TD.dec (fun h120 => ?_) (fun h120 => ?_)
 · exact absurd rfl h120
 refine ta 4 rfl (PV.move rfl rfl) ?_
 refine tb 5 rfl (PV.move rfl rfl) ?_
 refine tb 6 rfl (PV.move rfl rfl) ?_
 refine TD.all [7] (by kernel_rfl) rfl ?_
 refine AllT.cons rfl ?_ ?_
 refine TL.callR (A := [blkA b9 (MirT.cells ((mirKeep M2 fr (l[i])).1)) 77]) (Want.met rfl rfl rfl) rfl rfl rfl nm30 rfl (mirSealed_does b9 0 77 _ Arnd.whole ((mirKeep M2 fr (l[i])).1) fr) (fun _ s => s) (fun _ _ _ => trivial) (fun vR HR hR => ?_)
 obtain ⟨rfl, rfl⟩ := hR
 change TL _ _ _ _ _ _ _ _ _ [blkA b9 (MirT.cells ((mirKeep M2 fr (l[i])).1)) 77, blkA b16 (ints (mirRow ((mirKeep M2 fr l[i]).1) fr).flat) 48, blkA b14 [vs] 32, own vs (1) (ints (List.flatMap SaidT.flat [SaidT.mk fr (keptMsg (mirRow (mirKeep M2 fr l[i]).1 fr).version)])) 84 193, blkA r (RepT.cells (mirY lg sd2 ((mirKeep M2 fr l[i]).1))) 104, lgP lg d (((rowC (mirY lg sd2 M2) fr fr l[i] (recs2)).length : Nat) : Int) ((sizeS (rowC (mirY lg sd2 M2) fr fr l[i] (recs2)) : Nat) : Int), dkL d (rowC (mirY lg sd2 M2) fr fr l[i] (recs2)), blkA b13 (ints (l[i]).flat) 48, blkA b10 (ints viewS.flat) 52]
 refine TL.nil ?_
 refine TE.draw (fun _ s => ⟨Frm.of s, s.block 1 (lb rfl) rfl, trivial⟩) ?_
 refine tb 8 rfl (PV.neqBo rfl Tryz.underlying4 rfl rfl) ?_
 refine TD.decB (fun h125 => ?_) (fun h125 => ?_)
 · exact absurd h125 (by rw [h116]; decide)
 refine ta 9 rfl (PV.pick rfl rfl rfl) ?_
 refine TD.done (by kernel_rfl) ?_
 refine TE.next J38 ?_
 refine TC.no rfl ?_
 refine TC.skip ?_
 refine TE.next J37 ?_
 refine TC.seq fun _ J39 => ?_
 refine sr fun _ J40 => ?_
 refine mv ?_
 refine nx J40 ?_
 refine TC.no rfl ?_
 refine TC.skip ?_
 refine TE.next J39 ?_
 refine TC.seq fun _ J41 => ?_
 refine TC.draw (fun w => Frm F w ∧ w.heap[b14]? = some (.cells ([vs]).toArray 32 (0, 0)) ∧ Hx gs (ints (List.flatMap SaidT.flat [SaidT.mk fr (keptMsg (mirRow (mirKeep M2 fr l[i]).1 fr).version)])) w ∧ True) mixed rfl (fun _ s => ⟨Frm.of s, s.block 2 (lb rfl) rfl, RdX.own 3 rfl hvs rfl _ s, trivial⟩) ?_
 refine ta 0 rfl (PV.fieldAddr (r := 0) rfl Tryz.underlying32 rfl sz30 rfl rfl) ?_
 refine ta 1 rfl (PV.load1 (v := vs) rfl Tryz.underlying30 rfl rfl (fun _ h => h.2.1) rfl) ?_
 refine ta 2 rfl (PV.lenV rfl Tryz.underlying30 rfl hlvs) ?_
 refine ta 3 rfl (PV.neq rfl rfl rfl) ?_
 refine ta 4 rfl (PV.move rfl rfl) ?_
 refine tb 5 rfl (PV.fieldAddr (r := 0) rfl Tryz.underlying32 rfl sz30 rfl rfl) ?_
 refine tb 6 rfl (PV.load1 (v := vs) rfl Tryz.underlying30 rfl rfl (fun _ h => h.2.1) rfl) ?_
 refine tb 7 rfl (PV.indexSlV (r := 0) hvs rfl Tryz.underlying30 sz84 rfl rfl (by omega) (by omega) rfl) ?_
 refine tb 8 rfl (PV.fieldAddr (r := 0) rfl Tryz.underlying84 rfl sz3 rfl rfl) ?_
 refine tb 9 rfl (PV.load1X (v := (.int .i64 (fr))) rfl Tryz.underlying3 rfl rfl (fun _ h => h.2.2.1) (said_to _)) ?_
 refine tb 10 rfl (PV.move rfl rfl) ?_
 refine tb 11 rfl (PV.neq rfl rfl rfl) ?_
 refine TD.dec (fun h146 => ?_) (fun h146 => ?_)
 · exact absurd rfl h146
 refine ta 12 rfl (PV.pick rfl rfl rfl) ?_
 refine ta 13 rfl (PV.move rfl rfl) ?_
 refine tb 14 rfl (PV.fieldAddr (r := 0) rfl Tryz.underlying32 rfl sz30 rfl rfl) ?_
 refine tb 15 rfl (PV.load1 (v := vs) rfl Tryz.underlying30 rfl rfl (fun _ h => h.2.1) rfl) ?_
 refine tb 16 rfl (PV.indexSlV (r := 0) hvs rfl Tryz.underlying30 sz84 rfl rfl (by omega) (by omega) rfl) ?_
 refine tb 17 rfl (PV.fieldAddr (r := 1) rfl Tryz.underlying84 rfl sz54 rfl rfl) ?_
 refine tb 18 rfl (PV.fieldAddr (r := 1) rfl Tryz.underlying54 rfl sz3 rfl rfl) ?_
 refine tb 19 rfl (PV.load1X (v := (.int .i64 1)) rfl Tryz.underlying3 rfl rfl (fun _ h => h.2.2.1) (said_kind _)) ?_
 refine tb 20 rfl (PV.neq rfl rfl rfl) ?_
 refine ta 21 rfl (PV.pick rfl rfl rfl) ?_
 refine ta 22 rfl (PV.move rfl rfl) ?_
 refine tb 23 rfl (PV.fieldAddr (r := 0) rfl Tryz.underlying32 rfl sz30 rfl rfl) ?_
 refine tb 24 rfl (PV.load1 (v := vs) rfl Tryz.underlying30 rfl rfl (fun _ h => h.2.1) rfl) ?_
 refine tb 25 rfl (PV.indexSlV (r := 0) hvs rfl Tryz.underlying30 sz84 rfl rfl (by omega) (by omega) rfl) ?_
 refine tb 26 rfl (PV.fieldAddr (r := 1) rfl Tryz.underlying84 rfl sz54 rfl rfl) ?_
 refine tb 27 rfl (PV.fieldAddr (r := 177) rfl Tryz.underlying54 rfl sz3 rfl rfl) ?_
 refine tb 28 rfl (PV.load1X (v := (.int .i64 ((mirRow (mirKeep M2 fr l[i]).1 fr).version))) rfl Tryz.underlying3 rfl rfl (fun _ h => h.2.2.1) (said_version _)) ?_
 refine tb 29 rfl (PV.move rfl rfl) ?_
 refine TD.all [30] (by kernel_rfl) rfl ?_
 refine AllT.cons rfl ?_ ?_
 refine TL.callR (A := [blkA b9 (MirT.cells ((mirKeep M2 fr (l[i])).1)) 77]) (Want.met rfl rfl rfl) rfl rfl rfl nm26 rfl (mirRow_does b9 0 77 _ Arnd.whole ((mirKeep M2 fr (l[i])).1) fr) (fun _ s => s) (fun _ _ _ => trivial) (fun vR HR hR => ?_)
 obtain ⟨rfl, rfl⟩ := hR
 change TL _ _ _ _ _ _ _ _ _ [blkA b9 (MirT.cells ((mirKeep M2 fr (l[i])).1)) 77, blkA b16 (ints (mirRow ((mirKeep M2 fr l[i]).1) fr).flat) 48, blkA b14 [vs] 32, own vs (1) (ints (List.flatMap SaidT.flat [SaidT.mk fr (keptMsg (mirRow (mirKeep M2 fr l[i]).1 fr).version)])) 84 193, blkA r (RepT.cells (mirY lg sd2 ((mirKeep M2 fr l[i]).1))) 104, lgP lg d (((rowC (mirY lg sd2 M2) fr fr l[i] (recs2)).length : Nat) : Int) ((sizeS (rowC (mirY lg sd2 M2) fr fr l[i] (recs2)) : Nat) : Int), dkL d (rowC (mirY lg sd2 M2) fr fr l[i] (recs2)), blkA b13 (ints (l[i]).flat) 48, blkA b10 (ints viewS.flat) 52]
 refine TL.nil ?_
 refine TE.draw (fun _ s => ⟨Frm.of s, s.block 2 (lb rfl) rfl, RdX.own 3 rfl hvs rfl _ s, trivial⟩) ?_
 refine tb 31 rfl (PV.field1 (cs := ints (mirRow ((mirKeep M2 fr (l[i])).1) fr).flat) (v := Value.int .i64 ((mirRow ((mirKeep M2 fr (l[i])).1) fr).version)) rfl Tryz.underlying48 rfl Tryz.underlying3 rfl rfl (RowT.at_version (mirRow ((mirKeep M2 fr (l[i])).1) fr) rfl)) ?_
 refine tb 32 rfl (PV.neq rfl rfl rfl) ?_
 refine TD.dec (fun h167 => ?_) (fun h167 => ?_)
 · exact absurd rfl h167
 refine ta 33 rfl (PV.pick rfl rfl rfl) ?_
 refine TD.done (by kernel_rfl) ?_
 refine TE.next J41 ?_
 refine TC.no rfl ?_
 refine TC.skip ?_
 refine TE.blockEnd ?_
 refine TE.next J17 ?_
 refine TC.region ?_
 refine tp (PV.add rfl rfl rfl (wrap_i64 (by omega) (by omega))) ?_
 refine mv ?_
 refine TL.nil ?_
 exact TE.round ((i + 1, sd2, (mirKeep M2 fr l[i]).1, rowC (mirY lg sd2 M2) fr fr l[i] (recs2)) : (Nat) × (Bool) × (MirT) × (List (List UInt8))) ⟨by omega, hM3, by rw [mirSealed_keep]; exact hS2, hz2, fun q => by have := hle2 q; omega, fun q => by have := hsf2 q; omega, by omega⟩ (by show l.length - (i + 1) < l.length - i; omega)
   (Sub.r (Sub.r (Sub.r (Sub.r (Sub.r (Sub.r (Sub.r (Sub.cons rfl (by simp) (Sub.nil _)))))))))
   (fun _ s => sep_keep [4, 4, 4, 0, 4] rfl s)
 exact AllT.nil
 exact AllT.nil
 exact AllT.nil
 refine sr fun _ J42 => ?_
 refine outNew ?_
 change TL _ _ _ _ _ _ _ _ _ [outP b14 ([]), blkA b13 (ints (l[i]).flat) 48, blkA r (RepT.cells (mirY lg sd M)) 104, lgP lg d (((recs).length : Nat) : Int) ((sizeS (recs) : Nat) : Int), dkL d (recs), blkA b9 (MirT.cells M) 77, blkA b10 (ints viewS.flat) 52]
 refine mv ?_
 refine mv ?_
 refine tp (PV.and (r := (n2 % 32)) rfl rfl rfl (mask (k := 5) (by decide) _)) ?_
 refine tp (PV.eql rfl rfl rfl) ?_
 refine TL.dec (fun h52 => ?_) (fun h52 => ?_)
 refine mv ?_
 refine tq (PV.move rfl rfl) ?_
 refine tq (PV.eql rfl rfl rfl) ?_
 refine TL.dec (fun h55 => ?_) (fun h55 => ?_)
 have hsd : sd = false := by cases sd with | false => rfl | true => exact absurd (hlt rfl) (by omega)
 subst hsd
 have hs0 : mirSealed M 0 = false := by have := hS; rwa [h55] at this
 have hsz1 := hsf rfl
 refine tp (PV.pick rfl rfl rfl) ?_
 refine nx J42 ?_
 refine TC.yes rfl ?_
 refine sr fun _ J43 => ?_
 refine TL.callR (A := [blkA b9 (MirT.cells M) 77]) (Want.plain rfl) rfl rfl rfl nm25 rfl (mirSeal_does b9 0 77 _ Arnd.whole M 0) (fun _ s => sep_selR [5] rfl s) (fun _ _ _ => trivial) (fun vR HR hR => ?_)
 obtain ⟨_, rfl⟩ := hR
 change TL _ _ _ _ _ _ _ _ _ [blkA b9 (MirT.cells (mirClose M 0)) 77, outP b14 ([]), blkA b13 (ints (l[i]).flat) 48, blkA r (RepT.cells (mirY lg false M)) 104, lgP lg d (((recs).length : Nat) : Int) ((sizeS (recs) : Nat) : Int), dkL d (recs), blkA b10 (ints viewS.flat) 52]
 refine nx J43 ?_
 refine sr fun _ J44 => ?_
 refine mv ?_
 refine tp (PV.mkIface rfl Tryz.underlying34 rfl rfl) ?_
 refine tp (PV.loadN (vs := ints viewS.flat) rfl Tryz.underlying52 rfl sz52 rfl (Rd.own 6 rfl rfl) (ViewT.len viewS) (whole (ViewT.len viewS))) ?_
 refine tp (PV.buildSegs (cs := ints (MsgT.mk 8 0 RowT.zero 0 0 BallotT.zero BallotT.zero ChangeT.zero viewS).flat) (segs := [[Value.int .i64 0], [Value.int .i64 0], ints RowT.zero.flat, [Value.int .i64 0], [Value.int .i64 0], ints BallotT.zero.flat, ints BallotT.zero.flat, ints ChangeT.zero.flat, ints ViewT.zero.flat]) (res := [[Value.int .i64 8], [Value.int .i64 0], ints RowT.zero.flat, [Value.int .i64 0], [Value.int .i64 0], ints BallotT.zero.flat, ints BallotT.zero.flat, ints ChangeT.zero.flat, ints viewS.flat]) (parts := [(0, [Value.int .i64 8]), (1, [Value.int .i64 0]), (8, ints viewS.flat)]) rfl rfl Tryz.underlying54 (by kernel_rfl) (by kernel_rfl) rfl (putSegs_step rfl ((rfl : [Value.int .i64 8].length = 1).trans (rfl : [Value.int .i64 0].length = 1).symm) (putSegs_step rfl ((rfl : [Value.int .i64 0].length = 1).trans (rfl : [Value.int .i64 0].length = 1).symm) (putSegs_step rfl ((ViewT.len viewS).trans (ViewT.len ViewT.zero).symm) putSegs_nil))) (MsgT.eq (MsgT.mk 8 0 RowT.zero 0 0 BallotT.zero BallotT.zero ChangeT.zero viewS)).symm) ?_
 refine TL.callR (A := [blkA r (RepT.cells (mirY lg false M)) 104, lgP lg d (((recs).length : Nat) : Int) ((sizeS (recs) : Nat) : Int), dkL d (recs), outP b14 ([])]) (Want.plain rfl) rfl rfl rfl nm13 rfl (sealM_does r b14 lg d M (MsgT.mk 8 0 RowT.zero 0 0 BallotT.zero BallotT.zero ChangeT.zero viewS) (recs) rfl rfl rfl hs0 (by omega)) (fun _ s => sep_selR [3, 3, 3, 1] rfl s) (fun _ _ _ => trivial) (fun vR HR hR => ?_)
 obtain rfl := hR
 change TL _ _ _ _ _ _ _ _ _ [blkA r (RepT.cells (mirY lg true (mirClose M 0))) 104, lgP lg d (((sealC (mirY lg false M) 1 0 viewS (recs)).length : Nat) : Int) ((sizeS (sealC (mirY lg false M) 1 0 viewS (recs)) : Nat) : Int), dkL d (sealC (mirY lg false M) 1 0 viewS (recs)), outP b14 ([SaidT.mk 1 (sealedMsg 0 (mirRow (mirClose M 0) 0))]), blkA b9 (MirT.cells (mirClose M 0)) 77, blkA b13 (ints (l[i]).flat) 48, blkA b10 (ints viewS.flat) 52]
 have hsz2 := (seal_mir lg M hs0 recs).2.1
 refine TL.mono (fun _ s => sep_selR [3] rfl s) ?_
 refine outOpen (fun vs => ?_)
 change TL _ _ _ _ _ _ _ _ _ [blkA b14 [vs] 32, own vs (1) (ints (List.flatMap SaidT.flat [SaidT.mk 1 (sealedMsg 0 (mirRow (mirClose M 0) 0))])) 84 193, blkA r (RepT.cells (mirY lg true (mirClose M 0))) 104, lgP lg d (((sealC (mirY lg false M) 1 0 viewS (recs)).length : Nat) : Int) ((sizeS (sealC (mirY lg false M) 1 0 viewS (recs)) : Nat) : Int), dkL d (sealC (mirY lg false M) 1 0 viewS (recs)), blkA b9 (MirT.cells (mirClose M 0)) 77, blkA b13 (ints (l[i]).flat) 48, blkA b10 (ints viewS.flat) 52]
 refine TL.ownLen 1 rfl rfl (fun hlvs _ => ?_)
 refine TL.ownAt 1 rfl rfl (by decide) (fun gs cps hvs hcps => ?_)
 refine nx J44 ?_
 refine TC.seq fun _ J45 => ?_
 refine TC.seq fun _ J46 => ?_
 refine TC.draw (fun w => Frm F w ∧ w.heap[b14]? = some (.cells ([vs]).toArray 32 (0, 0)) ∧ w.heap[b10]? = some (.cells (ints viewS.flat).toArray 52 (0, 0)) ∧ Hx gs (ints (List.flatMap SaidT.flat [SaidT.mk 1 (sealedMsg 0 (mirRow (mirClose M 0) 0))])) w ∧ True) mixed rfl (fun _ s => ⟨Frm.of s, s.block 0 (lb rfl) rfl, s.block 7 (lb rfl) rfl, RdX.own 1 rfl hvs rfl _ s, trivial⟩) ?_
 refine ta 0 rfl (PV.fieldAddr (r := 0) rfl Tryz.underlying32 rfl sz30 rfl rfl) ?_
 refine ta 1 rfl (PV.load1 (v := vs) rfl Tryz.underlying30 rfl rfl (fun _ h => h.2.1) rfl) ?_
 refine ta 2 rfl (PV.lenV rfl Tryz.underlying30 rfl hlvs) ?_
 refine ta 3 rfl (PV.neq rfl rfl rfl) ?_
 refine ta 4 rfl (PV.move rfl rfl) ?_
 refine tb 5 rfl (PV.fieldAddr (r := 0) rfl Tryz.underlying32 rfl sz30 rfl rfl) ?_
 refine tb 6 rfl (PV.load1 (v := vs) rfl Tryz.underlying30 rfl rfl (fun _ h => h.2.1) rfl) ?_
 refine tb 7 rfl (PV.indexSlV (r := 0) hvs rfl Tryz.underlying30 sz84 rfl rfl (by omega) (by omega) rfl) ?_
 refine tb 8 rfl (PV.fieldAddr (r := 0) rfl Tryz.underlying84 rfl sz3 rfl rfl) ?_
 refine tb 9 rfl (PV.load1X (v := (.int .i64 1)) rfl Tryz.underlying3 rfl rfl (fun _ h => h.2.2.2.1) (said_to _)) ?_
 refine tb 10 rfl (PV.neq rfl rfl rfl) ?_
 refine ta 11 rfl (PV.pick rfl rfl rfl) ?_
 refine ta 12 rfl (PV.move rfl rfl) ?_
 refine tb 13 rfl (PV.fieldAddr (r := 0) rfl Tryz.underlying32 rfl sz30 rfl rfl) ?_
 refine tb 14 rfl (PV.load1 (v := vs) rfl Tryz.underlying30 rfl rfl (fun _ h => h.2.1) rfl) ?_
 refine tb 15 rfl (PV.indexSlV (r := 0) hvs rfl Tryz.underlying30 sz84 rfl rfl (by omega) (by omega) rfl) ?_
 refine tb 16 rfl (PV.fieldAddr (r := 1) rfl Tryz.underlying84 rfl sz54 rfl rfl) ?_
 refine tb 17 rfl (PV.fieldAddr (r := 1) rfl Tryz.underlying54 rfl sz3 rfl rfl) ?_
 refine tb 18 rfl (PV.load1X (v := (.int .i64 9)) rfl Tryz.underlying3 rfl rfl (fun _ h => h.2.2.2.1) (said_kind _)) ?_
 refine tb 19 rfl (PV.neq rfl rfl rfl) ?_
 refine ta 20 rfl (PV.pick rfl rfl rfl) ?_
 refine ta 21 rfl (PV.move rfl rfl) ?_
 refine tb 22 rfl (PV.fieldAddr (r := 0) rfl Tryz.underlying32 rfl sz30 rfl rfl) ?_
 refine tb 23 rfl (PV.load1 (v := vs) rfl Tryz.underlying30 rfl rfl (fun _ h => h.2.1) rfl) ?_
 refine tb 24 rfl (PV.indexSlV (r := 0) hvs rfl Tryz.underlying30 sz84 rfl rfl (by omega) (by omega) rfl) ?_
 refine tb 25 rfl (PV.fieldAddr (r := 1) rfl Tryz.underlying84 rfl sz54 rfl rfl) ?_
 refine tb 26 rfl (PV.fieldAddr (r := 3) rfl Tryz.underlying54 rfl sz48 rfl rfl) ?_
 refine tb 27 rfl (PV.loadNX (vs := ints (mirRow (mirClose M 0) 0).flat) rfl Tryz.underlying48 rfl sz48 rfl (fun _ h => h.2.2.2.1) (RowT.len _) (said_row _)) ?_
 refine TD.all [28] (by kernel_rfl) rfl ?_
 refine AllT.cons rfl ?_ ?_
 refine TL.callR (A := [blkA b9 (MirT.cells (mirClose M 0)) 77]) (Want.met rfl rfl rfl) rfl rfl rfl nm26 rfl (mirRow_does b9 0 77 _ Arnd.whole (mirClose M 0) 0) (fun _ s => sep_selR [5] rfl s) (fun _ _ _ => trivial) (fun vR HR hR => ?_)
 obtain ⟨rfl, rfl⟩ := hR
 change TL _ _ _ _ _ _ _ _ _ [blkA b9 (MirT.cells (mirClose M 0)) 77, blkA b14 [vs] 32, own vs (1) (ints (List.flatMap SaidT.flat [SaidT.mk 1 (sealedMsg 0 (mirRow (mirClose M 0) 0))])) 84 193, blkA r (RepT.cells (mirY lg true (mirClose M 0))) 104, lgP lg d (((sealC (mirY lg false M) 1 0 viewS (recs)).length : Nat) : Int) ((sizeS (sealC (mirY lg false M) 1 0 viewS (recs)) : Nat) : Int), dkL d (sealC (mirY lg false M) 1 0 viewS (recs)), blkA b13 (ints (l[i]).flat) 48, blkA b10 (ints viewS.flat) 52]
 refine TL.nil ?_
 refine TE.draw (fun _ s => ⟨Frm.of s, s.block 1 (lb rfl) rfl, s.block 7 (lb rfl) rfl, RdX.own 2 rfl hvs rfl _ s, trivial⟩) ?_
 refine tb 29 rfl (PV.neqAgg (a := (mirRow (mirClose M 0) 0).flat) (b := (mirRow (mirClose M 0) 0).flat) (m := 8) (c := 174) sg48 sk48 rfl fI48 (ints_len (RowT.len (mirRow (mirClose M 0) 0))) (ints_len (RowT.len (mirRow (mirClose M 0) 0))) ⟨formed_ag fC48 cC48 (ints_len (RowT.len (mirRow (mirClose M 0) 0))), formed_ag fC48 cC48 (ints_len (RowT.len (mirRow (mirClose M 0) 0)))⟩ ((hM.close 0) 0) ((hM.close 0) 0) rfl rfl rfl) ?_
 refine TD.dec (fun h92 => ?_) (fun h92 => ?_)
 · exact absurd rfl h92
 refine ta 30 rfl (PV.pick rfl rfl rfl) ?_
 refine ta 31 rfl (PV.move rfl rfl) ?_
 refine tb 32 rfl (PV.move rfl rfl) ?_
 refine tb 34 rfl (PV.loadN (vs := ints viewS.flat) rfl Tryz.underlying52 rfl sz52 rfl (fun _ h => h.2.2.1) (ViewT.len viewS) (whole (ViewT.len viewS))) ?_
 refine TD.all [33] (by kernel_rfl) rfl ?_
 refine AllT.cons rfl ?_ ?_
 refine TL.callR (A := [blkA r (RepT.cells (mirY lg true (mirClose M 0))) 104]) (Want.met rfl rfl rfl) rfl rfl rfl nm27 rfl (rView_does r (mirY lg true (mirClose M 0))) (fun _ s => sep_selR [3] rfl s) (fun _ _ _ => trivial) (fun vR HR hR => ?_)
 obtain ⟨hv, rfl⟩ := hR
 rw [mirY_view] at hv
 subst hv
 change TL _ _ _ _ _ _ _ _ _ [blkA r (RepT.cells (mirY lg true (mirClose M 0))) 104, blkA b9 (MirT.cells (mirClose M 0)) 77, blkA b14 [vs] 32, own vs (1) (ints (List.flatMap SaidT.flat [SaidT.mk 1 (sealedMsg 0 (mirRow (mirClose M 0) 0))])) 84 193, lgP lg d (((sealC (mirY lg false M) 1 0 viewS (recs)).length : Nat) : Int) ((sizeS (sealC (mirY lg false M) 1 0 viewS (recs)) : Nat) : Int), dkL d (sealC (mirY lg false M) 1 0 viewS (recs)), blkA b13 (ints (l[i]).flat) 48, blkA b10 (ints viewS.flat) 52]
 refine TL.nil ?_
 refine TE.draw (fun _ s => ⟨Frm.of s, s.block 2 (lb rfl) rfl, s.block 7 (lb rfl) rfl, RdX.own 3 rfl hvs rfl _ s, trivial⟩) ?_
 refine tb 35 rfl (PV.neqAgg (a := viewS.flat) (b := viewS.flat) (m := 4) (c := 7) sg52 sk52 rfl fI52 (ints_len (ViewT.len viewS)) (ints_len (ViewT.len viewS)) ⟨formed_ag fC52 cC52 (ints_len (ViewT.len viewS)), formed_ag fC52 cC52 (ints_len (ViewT.len viewS))⟩ viewS_wf viewS_wf rfl rfl rfl) ?_
 refine TD.dec (fun h98 => ?_) (fun h98 => ?_)
 · exact absurd rfl h98
 refine ta 36 rfl (PV.pick rfl rfl rfl) ?_
 refine TD.done (by kernel_rfl) ?_
 refine TE.next J46 ?_
 refine TC.no rfl ?_
 refine TC.skip ?_
 refine TE.next J45 ?_
 refine TC.region ?_
 refine tp (PV.build (cells := #[(.slice none 0 0)]) rfl rfl (by as_aux_lemma => kernel_rfl)) ?_
 refine TL.store (vs := [(.slice none 0 0)]) (i := 2) (H' := [blkA r (RepT.cells (mirY lg true (mirClose M 0))) 104, blkA b9 (MirT.cells (mirClose M 0)) 77, blkA b14 [(.slice none 0 0)] 32, own vs (1) (ints (List.flatMap SaidT.flat [SaidT.mk 1 (sealedMsg 0 (mirRow (mirClose M 0) 0))])) 84 193, lgP lg d (((sealC (mirY lg false M) 1 0 viewS (recs)).length : Nat) : Int) ((sizeS (sealC (mirY lg false M) 1 0 viewS (recs)) : Nat) : Int), dkL d (sealC (mirY lg false M) 1 0 viewS (recs)), blkA b13 (ints (l[i]).flat) 48, blkA b10 (ints viewS.flat) 52]) (Want.plain rfl) rfl rfl rfl rfl rfl sz32 (by simp [Value.oneCell']) rfl rfl (lbe rfl) rfl rfl ?_
 refine TL.nil ?_
 exact TE.weak
   (Sub.r (Sub.r (Sub.r (Sub.r (Sub.r (Sub.r (Sub.r (Sub.r (Sub.r (Sub.r (Sub.nil _)))))))))))
   (fun _ s => sep_keep [0, 0, 1, 1, 0, 0, 0] rfl (outNewS (sep_keep [2, 0, 0, 1, 1, 1, 1] rfl s)))
   (tl20 ((true, (mirClose M 0), sealC (mirY lg false M) 1 0 viewS (recs)) : (Bool) × (MirT) × (List (List UInt8))) ⟨hM.close 0, by rw [h55]; exact mirSealed_close M, fun _ => h55, fun _ => by omega, fun q => (nomatch q), by omega⟩)
 exact AllT.nil
 exact AllT.nil
 refine tp (PV.pick rfl rfl rfl) ?_
 refine nx J42 ?_
 refine TC.no rfl ?_
 refine TC.skip ?_
 exact TE.weak
   (Sub.r (Sub.r (Sub.r (Sub.r (Sub.r (Sub.r (Sub.r (Sub.r (Sub.r (Sub.r (Sub.nil _)))))))))))
   (fun _ s => sep_keep [0, 1, 1, 1, 1, 0, 0] rfl s)
   (tl20 ((sd, M, recs) : (Bool) × (MirT) × (List (List UInt8))) ⟨hM, hS, hz, fun q => by have := hlt q; omega, hsf, hsz⟩)
 refine mv ?_
 refine TL.unmet (b := false) rfl rfl rfl rfl (lb rfl) ?_
 refine TL.unmet (b := false) rfl rfl rfl rfl (lb rfl) ?_
 refine tp (PV.pick rfl rfl rfl) ?_
 refine nx J42 ?_
 refine TC.no rfl ?_
 refine TC.skip ?_
 exact TE.weak
   (Sub.r (Sub.r (Sub.r (Sub.r (Sub.r (Sub.r (Sub.r (Sub.r (Sub.r (Sub.r (Sub.nil _)))))))))))
   (fun _ s => sep_keep [0, 1, 1, 1, 1, 0, 0] rfl s)
   (tl20 ((sd, M, recs) : (Bool) × (MirT) × (List (List UInt8))) ⟨hM, hS, hz, fun q => by have := hlt q; omega, hsf, hsz⟩)
 refine nx J15 ?_
 refine TC.seq fun _ J47 => ?_
 refine TC.no rfl ?_
 refine TC.exit ?_
 refine TE.pass ?_
 refine TE.pass ?_
 refine TE.hit ?_
 refine TE.next J13 ?_
 refine sr fun _ J48 => ?_
 refine TL.alloc (Want.plain rfl) rfl rfl rfl z32 (fun b18 => ?_)
 change TL _ _ _ _ _ _ _ _ _ [blkA b18 [(.slice none 0 0)] 32, blkA r (RepT.cells (mirY lg sd M)) 104, lgP lg d (((recs).length : Nat) : Int) ((sizeS (recs) : Nat) : Int), dkL d (recs), blkA b9 (MirT.cells M) 77, blkA b10 (ints viewS.flat) 52]
 refine nx J48 ?_
 refine sr fun _ J49 => ?_
 refine outNew ?_
 change TL _ _ _ _ _ _ _ _ _ [outP b18 ([]), blkA r (RepT.cells (mirY lg sd M)) 104, lgP lg d (((recs).length : Nat) : Int) ((sizeS (recs) : Nat) : Int), dkL d (recs), blkA b9 (MirT.cells M) 77, blkA b10 (ints viewS.flat) 52]
 refine mv ?_
 refine tp (PV.mkIface rfl Tryz.underlying34 rfl rfl) ?_
 refine tp (PV.buildSegs (cs := ints (RowT.mk 9 RowT.zero.cells (#v[0, 0, 0, 0, 0]) RowT.zero.left).flat) (segs := [[Value.int .i64 0], ints (flats RowT.zero.cells.toList), ints (#v[0, 0, 0, 0, 0]).toList, ints (RowT.zero.left.toList.flatMap fun v => flats v.toList)]) (res := [[Value.int .i64 9], ints (flats RowT.zero.cells.toList), ints (#v[0, 0, 0, 0, 0]).toList, ints (RowT.zero.left.toList.flatMap fun v => flats v.toList)]) (parts := [(0, [Value.int .i64 9])]) rfl rfl Tryz.underlying48 (by kernel_rfl) (by kernel_rfl) rfl (putSegs_step rfl ((rfl : [Value.int .i64 9].length = 1).trans (rfl : [Value.int .i64 0].length = 1).symm) putSegs_nil) (RowT.eq (RowT.mk 9 RowT.zero.cells (#v[0, 0, 0, 0, 0]) RowT.zero.left)).symm) ?_
 refine tp (PV.buildSegs (cs := ints (MsgT.mk 0 3 (RowT.mk 9 RowT.zero.cells (#v[0, 0, 0, 0, 0]) RowT.zero.left) 0 0 BallotT.zero BallotT.zero ChangeT.zero ViewT.zero).flat) (segs := [[Value.int .i64 0], [Value.int .i64 0], ints RowT.zero.flat, [Value.int .i64 0], [Value.int .i64 0], ints BallotT.zero.flat, ints BallotT.zero.flat, ints ChangeT.zero.flat, ints ViewT.zero.flat]) (res := [[Value.int .i64 0], [Value.int .i64 3], ints (RowT.mk 9 RowT.zero.cells (#v[0, 0, 0, 0, 0]) RowT.zero.left).flat, [Value.int .i64 0], [Value.int .i64 0], ints BallotT.zero.flat, ints BallotT.zero.flat, ints ChangeT.zero.flat, ints ViewT.zero.flat]) (parts := [(0, [Value.int .i64 0]), (1, [Value.int .i64 3]), (2, ints (RowT.mk 9 RowT.zero.cells (#v[0, 0, 0, 0, 0]) RowT.zero.left).flat)]) rfl rfl Tryz.underlying54 (by kernel_rfl) (by kernel_rfl) rfl (putSegs_step rfl ((rfl : [Value.int .i64 0].length = 1).trans (rfl : [Value.int .i64 0].length = 1).symm) (putSegs_step rfl ((rfl : [Value.int .i64 3].length = 1).trans (rfl : [Value.int .i64 0].length = 1).symm) (putSegs_step rfl ((RowT.len (RowT.mk 9 RowT.zero.cells (#v[0, 0, 0, 0, 0]) RowT.zero.left)).trans (RowT.len RowT.zero).symm) putSegs_nil))) (MsgT.eq (MsgT.mk 0 3 (RowT.mk 9 RowT.zero.cells (#v[0, 0, 0, 0, 0]) RowT.zero.left) 0 0 BallotT.zero BallotT.zero ChangeT.zero ViewT.zero)).symm) ?_
 refine TL.callR (A := [blkA r (RepT.cells (mirY lg sd M)) 104, lgP lg d (((recs).length : Nat) : Int) ((sizeS (recs) : Nat) : Int), dkL d (recs), outP b18 ([])]) (Want.plain rfl) rfl rfl rfl nm13 rfl (otherM_does r b18 lg d sd M (MsgT.mk 0 3 (RowT.mk 9 RowT.zero.cells (#v[0, 0, 0, 0, 0]) RowT.zero.left) 0 0 BallotT.zero BallotT.zero ChangeT.zero ViewT.zero) (recs) rfl rfl wf_nine (by omega)) (fun _ s => sep_selR [1, 1, 1, 0] rfl s) (fun _ _ _ => trivial) (fun vR HR hR => ?_)
 obtain rfl := hR
 change TL _ _ _ _ _ _ _ _ _ [blkA r (RepT.cells (mirY lg sd M)) 104, lgP lg d (((recs).length : Nat) : Int) ((sizeS (recs) : Nat) : Int), dkL d (recs), outP b18 ([]), blkA b9 (MirT.cells M) 77, blkA b10 (ints viewS.flat) 52]
 refine nx J49 ?_
 refine sr fun _ J50 => ?_
 refine TL.mono (fun _ s => sep_selR [3] rfl s) ?_
 refine outOpen (fun vs => ?_)
 change TL _ _ _ _ _ _ _ _ _ [blkA b18 [vs] 32, own vs (([] : List SaidT).length) (ints (List.flatMap SaidT.flat ([]))) 84 193, blkA r (RepT.cells (mirY lg sd M)) 104, lgP lg d (((recs).length : Nat) : Int) ((sizeS (recs) : Nat) : Int), dkL d (recs), blkA b9 (MirT.cells M) 77, blkA b10 (ints viewS.flat) 52]
 refine TL.ownLen 1 rfl rfl (fun hlvs _ => ?_)
 refine tp (PV.fieldAddr (r := 0) rfl Tryz.underlying32 rfl sz30 rfl rfl) ?_
 refine tp (PV.load1 (v := vs) rfl Tryz.underlying30 rfl rfl (Rd.own 0 rfl rfl) rfl) ?_
 refine tp (PV.lenV rfl Tryz.underlying30 rfl hlvs) ?_
 refine tp (PV.eql rfl rfl rfl) ?_
 refine sg' ?_
 refine nx J50 ?_
 refine TC.ret ?_
 refine TE.weak (Sub.refl _) (fun _ s => sep_keep [] rfl s) ?_
 refine TE.ret1 rfl rfl ?_
 exact ⟨rfl, rfl⟩
end Go.Proofs.YtfceaphohlbnbaaGreat
end
