/-
  Packages num, row and view: what their functions answer, walked.
-/

import Derived.Test.YtdekgkmbcdlekaaTy
import Derived.Test.YtdekgkmbcdlekaaRowP
import Derived.Test.YtdekgkmbcdlekaaCodecB

namespace Go.Proofs.Ytdekgkmbcdlekaa

open Go Leg Codec Api

set_option linter.unusedSimpArgs false
set_option linter.unusedVariables false

set_option maxRecDepth 100000

set_option maxHeartbeats 8000000

theorem numRight_does (n : Int) :
    Does Try.prog 54 #[(.int .i64 (n))] (fun _ => True) [] (Ret (fun r' H => r' = .bool (okN n) ∧ H = [])) := by
  refine Does.body (vs := [(.int .i64 (n))]) (n := 9) Try.func54 rfl rfl rfl (fun w0 F hF => ?_)
  refine TC.seq (fun K1 hK1 => ?_)
  refine TC.region ?_
  refine TL.v (Want.plain rfl) rfl rfl (PV.assign rfl rfl) ?_
  refine TL.nil ?_
  refine TE.next hK1 ?_
  clear hK1
  refine TC.seq (fun K2 hK2 => ?_)
  refine TC.region ?_
  refine TL.v (Want.plain rfl) rfl rfl (PV.move rfl rfl) ?_
  refine TL.v (Want.plain rfl) rfl rfl (PV.geq rfl rfl rfl) ?_
  refine TL.dec (fun h4 => ?_) (fun h4 => ?_)
  · skip
    refine TL.v (Want.plain rfl) rfl rfl (PV.move rfl rfl) ?_
    refine TL.v (Want.met rfl rfl rfl) rfl rfl (PV.move rfl rfl) ?_
    refine TL.v (Want.met rfl rfl rfl) rfl rfl (PV.leq rfl rfl rfl) ?_
    refine TL.v (Want.plain rfl) rfl rfl (PV.pick rfl rfl rfl) ?_
    refine TL.v (Want.plain rfl) rfl rfl (PV.assign rfl rfl) ?_
    refine TL.nil ?_
    refine TE.next hK2 ?_
    clear hK2
    refine TC.ret ?_
    refine TE.ret1 rfl rfl ?_
    exact ⟨congrArg Value.bool (by unfold okN; first | (rw [decide_eq_decide]; omega) | (symm; rw [decide_eq_false_iff_not]; omega) | (symm; rw [decide_eq_true_iff]; omega)), rfl⟩
  · skip
    refine TL.v (Want.plain rfl) rfl rfl (PV.move rfl rfl) ?_
    refine TL.unmet (b := false) rfl rfl rfl rfl (lb rfl) ?_
    refine TL.unmet (b := false) rfl rfl rfl rfl (lb rfl) ?_
    refine TL.v (Want.plain rfl) rfl rfl (PV.pick rfl rfl rfl) ?_
    refine TL.v (Want.plain rfl) rfl rfl (PV.assign rfl rfl) ?_
    refine TL.nil ?_
    refine TE.next hK2 ?_
    clear hK2
    refine TC.ret ?_
    refine TE.ret1 rfl rfl ?_
    exact ⟨congrArg Value.bool (by unfold okN; first | (rw [decide_eq_decide]; omega) | (symm; rw [decide_eq_false_iff_not]; omega) | (symm; rw [decide_eq_true_iff]; omega)), rfl⟩


theorem vmachine_does (w : Int) :
    Does Try.prog 53 #[(.int .i64 (w))] (fun _ => True) [] (Ret (fun r' H => r' = .bool (machB w) ∧ H = [])) := by
  refine Does.body (vs := [(.int .i64 (w))]) (n := 9) Try.func53 rfl rfl rfl (fun w0 F hF => ?_)
  refine TC.seq (fun K1 hK1 => ?_)
  refine TC.region ?_
  refine TL.v (Want.plain rfl) rfl rfl (PV.assign rfl rfl) ?_
  refine TL.nil ?_
  refine TE.next hK1 ?_
  clear hK1
  refine TC.seq (fun K2 hK2 => ?_)
  refine TC.region ?_
  refine TL.v (Want.plain rfl) rfl rfl (PV.move rfl rfl) ?_
  refine TL.v (Want.plain rfl) rfl rfl (PV.geq rfl rfl rfl) ?_
  refine TL.dec (fun h4 => ?_) (fun h4 => ?_)
  · skip
    refine TL.v (Want.plain rfl) rfl rfl (PV.move rfl rfl) ?_
    refine TL.v (Want.met rfl rfl rfl) rfl rfl (PV.move rfl rfl) ?_
    refine TL.v (Want.met rfl rfl rfl) rfl rfl (PV.lss rfl rfl rfl) ?_
    refine TL.v (Want.plain rfl) rfl rfl (PV.pick rfl rfl rfl) ?_
    refine TL.v (Want.plain rfl) rfl rfl (PV.assign rfl rfl) ?_
    refine TL.nil ?_
    refine TE.next hK2 ?_
    clear hK2
    refine TC.ret ?_
    refine TE.ret1 rfl rfl ?_
    exact ⟨congrArg Value.bool (by unfold machB; first | (rw [decide_eq_decide]; omega) | (symm; rw [decide_eq_false_iff_not]; omega) | (symm; rw [decide_eq_true_iff]; omega)), rfl⟩
  · skip
    refine TL.v (Want.plain rfl) rfl rfl (PV.move rfl rfl) ?_
    refine TL.unmet (b := false) rfl rfl rfl rfl (lb rfl) ?_
    refine TL.unmet (b := false) rfl rfl rfl rfl (lb rfl) ?_
    refine TL.v (Want.plain rfl) rfl rfl (PV.pick rfl rfl rfl) ?_
    refine TL.v (Want.plain rfl) rfl rfl (PV.assign rfl rfl) ?_
    refine TL.nil ?_
    refine TE.next hK2 ?_
    clear hK2
    refine TC.ret ?_
    refine TE.ret1 rfl rfl ?_
    exact ⟨congrArg Value.bool (by unfold machB; first | (rw [decide_eq_decide]; omega) | (symm; rw [decide_eq_false_iff_not]; omega) | (symm; rw [decide_eq_true_iff]; omega)), rfl⟩


theorem member_does (v : ViewT) (w : Int) :
    Does Try.prog 34 #[(.agg (ints v.flat).toArray), (.int .i64 (w))] (fun _ => True) [] (Ret (fun r' H => r' = .bool (memb v w) ∧ H = [])) := by
  refine Does.body (vs := [(.agg (ints v.flat).toArray), (.int .i64 (w))]) (n := 15) Try.func34 rfl rfl rfl (fun w0 F hF => ?_)
  refine TC.seq (fun K1 hK1 => ?_)
  refine TC.region ?_
  refine TL.box (Want.plain rfl) rfl rfl rfl rfl (fun b2 => ?_)
  change TL _ _ _ _ _ _ _ _ _ [blkA b2 (ints v.flat) 25]
  refine TL.v (Want.plain rfl) rfl rfl (PV.assign rfl rfl) ?_
  refine TL.nil ?_
  refine TE.next hK1 ?_
  clear hK1
  refine TC.seq (fun K2 hK2 => ?_)
  refine TC.region ?_
  refine TL.v (Want.plain rfl) rfl rfl (PV.move rfl rfl) ?_
  refine TL.callR (A := []) (B := [blkA b2 (ints v.flat) 25]) (Want.plain rfl) rfl rfl rfl nm53 rfl (vmachine_does w) (fun _ s => s) (fun _ _ _ => trivial) (fun vR HR hR => ?_)
  obtain ⟨rfl, rfl⟩ := hR
  change TL _ _ _ _ _ _ _ _ _ [blkA b2 (ints v.flat) 25]
  refine TL.decB (fun h6 => ?_) (fun h6 => ?_)
  · skip
    have hm : 0 ≤ w ∧ w < 5 := of_decide_eq_true h6
    refine TL.v (Want.plain rfl) rfl rfl (PV.move rfl rfl) ?_
    refine TL.v (Want.met rfl rfl rfl) rfl rfl (PV.fieldAddr (r := 1) rfl Try.underlying25 rfl sz3 rfl rfl) ?_
    refine TL.v (Want.met rfl rfl rfl) rfl rfl (PV.load1 (v := (.int .i64 (v.members))) rfl Try.underlying3 rfl rfl (Rd.own 0 rfl rfl) (ViewT.at_members v rfl)) ?_
    refine TL.v (Want.met rfl rfl rfl) rfl rfl (PV.move rfl rfl) ?_
    refine TL.v (Want.met rfl rfl rfl) rfl rfl (PV.shr (r := (v.members.fdiv (2 ^ min w.toNat IntKind.i64.bits))) rfl rfl rfl (by omega) rfl) ?_
    refine TL.v (Want.met rfl rfl rfl) rfl rfl (PV.and (r := ((v.members.fdiv (2 ^ min w.toNat IntKind.i64.bits)) % 2)) rfl rfl rfl (bit_one _)) ?_
    refine TL.v (Want.met rfl rfl rfl) rfl rfl (PV.eql rfl rfl rfl) ?_
    refine TL.v (Want.plain rfl) rfl rfl (PV.pick rfl rfl rfl) ?_
    refine TL.v (Want.plain rfl) rfl rfl (PV.assign rfl rfl) ?_
    refine TL.nil ?_
    refine TE.next hK2 ?_
    clear hK2
    refine TC.ret ?_
    refine TE.weak (Sub.refl _) (fun _ s => sep_keep [] rfl s) ?_
    refine TE.ret1 rfl rfl ?_
    exact ⟨congrArg Value.bool (by rw [memb, h6]; rfl), rfl⟩
  · skip
    refine TL.v (Want.plain rfl) rfl rfl (PV.move rfl rfl) ?_
    refine TL.unmet (b := false) rfl rfl rfl rfl (lb rfl) ?_
    refine TL.unmet (b := false) rfl rfl rfl rfl (lb rfl) ?_
    refine TL.unmet (b := false) rfl rfl rfl rfl (lb rfl) ?_
    refine TL.unmet (b := false) rfl rfl rfl rfl (lb rfl) ?_
    refine TL.unmet (b := false) rfl rfl rfl rfl (lb rfl) ?_
    refine TL.unmet (b := false) rfl rfl rfl rfl (lb rfl) ?_
    refine TL.v (Want.plain rfl) rfl rfl (PV.pick rfl rfl rfl) ?_
    refine TL.v (Want.plain rfl) rfl rfl (PV.assign rfl rfl) ?_
    refine TL.nil ?_
    refine TE.next hK2 ?_
    clear hK2
    refine TC.ret ?_
    refine TE.weak (Sub.refl _) (fun _ s => sep_keep [] rfl s) ?_
    refine TE.ret1 rfl rfl ?_
    exact ⟨congrArg Value.bool (by rw [memb, h6]; rfl), rfl⟩


theorem numAdd_cells (b off cap : Nat) (l : List Int) (hl : l.length ≤ 1000) (cs : List Value) (T : TypeId) (z : Nat × Nat) (hb : ∀ j, j < l.length → cs[off + j]? = some (.int .i64 (l.getD j 0))) :
    Does Try.prog 55 #[(.slice (some ⟨b, off, none⟩) (l.length) (cap))] (fun F => F b = some (.cells cs.toArray T z)) [] (Ret (fun r' H => r' = .tuple #[.int .i64 (addE l 0).1, .int .i64 (addE l 0).2] ∧ H = [])) := by
  refine Does.body (vs := [(.slice (some ⟨b, off, none⟩) (l.length) (cap))]) (n := 25) Try.func55 rfl rfl rfl (fun w0 F hF => ?_)
  refine TC.seq (fun K1 hK1 => ?_)
  refine TC.region ?_
  refine TL.v (Want.plain rfl) rfl rfl (PV.assign rfl rfl) ?_
  refine TL.v (Want.plain rfl) rfl rfl (PV.assign rfl rfl) ?_
  refine TL.nil ?_
  refine TE.next hK1 ?_
  clear hK1
  refine TC.seq (fun K2 hK2 => ?_)
  refine TC.region ?_
  refine TL.v (Want.plain rfl) rfl rfl (PV.assign rfl rfl) ?_
  refine TL.nil ?_
  refine TE.next hK2 ?_
  clear hK2
  refine TC.seq (fun K3 hK3 => ?_)
  refine TC.seq (fun K4 hK4 => ?_)
  refine TC.region ?_
  refine TL.v (Want.plain rfl) rfl rfl (PV.move rfl rfl) ?_
  refine TL.v (Want.plain rfl) rfl rfl (PV.lenSl rfl Try.underlying79 rfl) ?_
  refine TL.v (Want.plain rfl) rfl rfl (PV.move rfl rfl) ?_
  refine TL.nil ?_
  refine TE.next hK4 ?_
  clear hK4
  refine TC.block ?_
  refine TC.loop (α := (Nat) × (Int)) (fun ⟨k, s⟩ => k ≤ l.length ∧ 0 ≤ s ∧ s ≤ 1099511627776 ∧ addE l 0 = addE (l.drop k) s) (fun ⟨k, s⟩ => [(4, (.int .i64 (s))), (7, (.slice (some ⟨b, off, none⟩) (l.length) (cap))), (8, (.int .i64 (((l.length : Nat) : Int)))), (9, (.int .i64 (((k : Nat) : Int))))]) (fun ⟨k, s⟩ => []) (fun ⟨k, s⟩ => l.length - k) (0, 0)
      ⟨Nat.zero_le _, by omega, by omega, rfl⟩ (Sub.cons rfl (by congr 1) (Sub.r (Sub.r (Sub.cons rfl (by congr 1) (Sub.nil _)))))
      (fun _ s => s) (fun ⟨k, s⟩ hinv => ?_)
  obtain ⟨hk, hs0, hs1, he⟩ := hinv
  refine TC.seq (fun K5 hK5 => ?_)
  refine TC.region ?_
  refine TL.v (Want.plain rfl) rfl rfl (PV.lss rfl rfl rfl) ?_
  refine TL.dec (fun h10 => ?_) (fun h10 => ?_)
  · skip
    refine TL.nil ?_
    refine TE.next hK5 ?_
    clear hK5
    refine TC.seq (fun K6 hK6 => ?_)
    refine TC.yes rfl ?_
    refine TC.skip ?_
    refine TE.next hK6 ?_
    clear hK6
    refine TC.seq (fun K7 hK7 => ?_)
    refine TC.block ?_
    refine TC.seq (fun K8 hK8 => ?_)
    refine TC.region ?_
    refine TL.v (Want.plain rfl) rfl rfl (PV.indexSl (r := off + k) rfl Try.underlying79 sz3 rfl rfl (by first | omega | decide) (by first | omega | decide) (by omega)) ?_
    refine TL.v (Want.plain rfl) rfl rfl (PV.load1 (v := (.int .i64 ((l.getD k 0)))) rfl Try.underlying3 rfl rfl (Rd.ro hF) (hb k (by omega))) ?_
    refine TL.v (Want.plain rfl) rfl rfl (PV.assign rfl rfl) ?_
    refine TL.nil ?_
    refine TE.next hK8 ?_
    clear hK8
    refine TC.seq (fun K9 hK9 => ?_)
    refine TC.seq (fun K10 hK10 => ?_)
    refine TC.region ?_
    refine TL.v (Want.plain rfl) rfl rfl (PV.move rfl rfl) ?_
    refine TL.callR (A := []) (B := []) (Want.plain rfl) rfl rfl rfl nm54 rfl (numRight_does (l.getD k 0)) (fun _ s => s) (fun _ _ _ => trivial) (fun vR HR hR => ?_)
    obtain ⟨rfl, rfl⟩ := hR
    change TL _ _ _ _ _ _ _ _ _ []
    refine TL.decB (fun h14 => ?_) (fun h14 => ?_)
    · skip
      have hn : 0 ≤ l.getD k 0 ∧ l.getD k 0 ≤ 1099511627776 := of_decide_eq_true h14
      refine TL.v (Want.plain rfl) rfl rfl (PV.not (r := false) rfl rfl rfl) ?_
      refine TL.nil ?_
      refine TE.next hK10 ?_
      clear hK10
      refine TC.no rfl ?_
      refine TC.skip ?_
      refine TE.next hK9 ?_
      clear hK9
      refine TC.seq (fun K11 hK11 => ?_)
      refine TC.seq (fun K12 hK12 => ?_)
      refine TC.region ?_
      refine TL.v (Want.plain rfl) rfl rfl (PV.move rfl rfl) ?_
      refine TL.v (Want.plain rfl) rfl rfl (PV.move rfl rfl) ?_
      refine TL.v (Want.plain rfl) rfl rfl (PV.sub rfl rfl rfl (wrap_i64 (by omega) (by omega))) ?_
      refine TL.v (Want.plain rfl) rfl rfl (PV.gtr rfl rfl rfl) ?_
      refine TL.dec (fun h19 => ?_) (fun h19 => ?_)
      · skip
        refine TL.nil ?_
        refine TE.next hK12 ?_
        clear hK12
        refine TC.yes rfl ?_
        refine TC.seq (fun K13 hK13 => ?_)
        refine TC.region ?_
        refine TL.v (Want.plain rfl) rfl rfl (PV.assign rfl rfl) ?_
        refine TL.v (Want.plain rfl) rfl rfl (PV.assign rfl rfl) ?_
        refine TL.nil ?_
        refine TE.next hK13 ?_
        clear hK13
        refine TC.ret ?_
        refine TE.passRet ?_
        clear hK11
        refine TE.blockRet ?_
        refine TE.passRet ?_
        clear hK7
        refine TE.passRet ?_
        refine TE.blockRet ?_
        refine TE.passRet ?_
        clear hK3
        refine TE.weak (Sub.refl _) (fun _ s => sep_keep [] rfl s) ?_
        refine TE.ret2 rfl rfl rfl ?_
        exact ⟨by rw [he, add_step (show k < l.length by omega), if_pos h14, if_pos (by omega)], rfl⟩
      · skip
        refine TL.nil ?_
        refine TE.next hK12 ?_
        clear hK12
        refine TC.no rfl ?_
        refine TC.skip ?_
        refine TE.next hK11 ?_
        clear hK11
        refine TC.region ?_
        refine TL.v (Want.plain rfl) rfl rfl (PV.move rfl rfl) ?_
        refine TL.v (Want.plain rfl) rfl rfl (PV.move rfl rfl) ?_
        refine TL.v (Want.plain rfl) rfl rfl (PV.add rfl rfl rfl (wrap_i64 (by omega) (by omega))) ?_
        refine TL.v (Want.plain rfl) rfl rfl (PV.assign rfl rfl) ?_
        refine TL.nil ?_
        refine TE.blockEnd ?_
        refine TE.next hK7 ?_
        clear hK7
        refine TC.region ?_
        refine TL.v (Want.plain rfl) rfl rfl (PV.add rfl rfl rfl (wrap_i64 (by omega) (by omega))) ?_
        refine TL.v (Want.plain rfl) rfl rfl (PV.move rfl rfl) ?_
        refine TL.nil ?_
        exact TE.round ((k + 1, s + l.getD k 0) : (Nat) × (Int)) ⟨by omega, by omega, by omega, by rw [he, add_step (show k < l.length by omega), if_pos h14, if_neg (by omega)]⟩ (by show l.length - (k + 1) < l.length - k; omega)
          (Sub.r (Sub.r (Sub.r (Sub.cons rfl (by simp) (Sub.nil _)))))
          (fun _ s => s)
    · skip
      refine TL.v (Want.plain rfl) rfl rfl (PV.not (r := true) rfl rfl rfl) ?_
      refine TL.nil ?_
      refine TE.next hK10 ?_
      clear hK10
      refine TC.yes rfl ?_
      refine TC.seq (fun K14 hK14 => ?_)
      refine TC.region ?_
      refine TL.v (Want.plain rfl) rfl rfl (PV.assign rfl rfl) ?_
      refine TL.v (Want.plain rfl) rfl rfl (PV.assign rfl rfl) ?_
      refine TL.nil ?_
      refine TE.next hK14 ?_
      clear hK14
      refine TC.ret ?_
      refine TE.passRet ?_
      clear hK9
      refine TE.blockRet ?_
      refine TE.passRet ?_
      clear hK7
      refine TE.passRet ?_
      refine TE.blockRet ?_
      refine TE.passRet ?_
      clear hK3
      refine TE.weak (Sub.refl _) (fun _ s => sep_keep [] rfl s) ?_
      refine TE.ret2 rfl rfl rfl ?_
      exact ⟨by rw [he, add_step (show k < l.length by omega), if_neg (by rw [h14]; decide)], rfl⟩
  · skip
    refine TL.nil ?_
    refine TE.next hK5 ?_
    clear hK5
    refine TC.seq (fun K15 hK15 => ?_)
    refine TC.no rfl ?_
    refine TC.exit ?_
    refine TE.pass ?_
    clear hK15
    refine TE.pass ?_
    refine TE.hit ?_
    refine TE.next hK3 ?_
    clear hK3
    refine TC.seq (fun K16 hK16 => ?_)
    refine TC.region ?_
    refine TL.v (Want.plain rfl) rfl rfl (PV.move rfl rfl) ?_
    refine TL.v (Want.plain rfl) rfl rfl (PV.assign rfl rfl) ?_
    refine TL.v (Want.plain rfl) rfl rfl (PV.assign rfl rfl) ?_
    refine TL.nil ?_
    refine TE.next hK16 ?_
    clear hK16
    refine TC.ret ?_
    refine TE.weak (Sub.refl _) (fun _ s => sep_keep [] rfl s) ?_
    refine TE.ret2 rfl rfl rfl ?_
    exact ⟨by rw [he, List.drop_eq_nil_of_le (by omega)]; rfl, rfl⟩


theorem numAdd_nil  :
    Does Try.prog 55 #[(.slice none 0 0)] (fun _ => True) [] (Ret (fun r' H => r' = .tuple #[.int .i64 (addE [] 0).1, .int .i64 (addE [] 0).2] ∧ H = [])) := by
  refine Does.body (vs := [(.slice none 0 0)]) (n := 25) Try.func55 rfl rfl rfl (fun w0 F hF => ?_)
  refine TC.seq (fun K1 hK1 => ?_)
  refine TC.region ?_
  refine TL.v (Want.plain rfl) rfl rfl (PV.assign rfl rfl) ?_
  refine TL.v (Want.plain rfl) rfl rfl (PV.assign rfl rfl) ?_
  refine TL.nil ?_
  refine TE.next hK1 ?_
  clear hK1
  refine TC.seq (fun K2 hK2 => ?_)
  refine TC.region ?_
  refine TL.v (Want.plain rfl) rfl rfl (PV.assign rfl rfl) ?_
  refine TL.nil ?_
  refine TE.next hK2 ?_
  clear hK2
  refine TC.seq (fun K3 hK3 => ?_)
  refine TC.seq (fun K4 hK4 => ?_)
  refine TC.region ?_
  refine TL.v (Want.plain rfl) rfl rfl (PV.move rfl rfl) ?_
  refine TL.v (Want.plain rfl) rfl rfl (PV.lenSl rfl Try.underlying79 rfl) ?_
  refine TL.v (Want.plain rfl) rfl rfl (PV.move rfl rfl) ?_
  refine TL.nil ?_
  refine TE.next hK4 ?_
  clear hK4
  refine TC.block ?_
  refine TC.loop (α := Unit) (fun _u => True) (fun _u => [(4, (.int .i64 0)), (7, (.slice none 0 0)), (8, (.int .i64 0)), (9, (.int .i64 0))]) (fun _u => []) (fun _u => 0) ()
      trivial (Sub.r (Sub.r (Sub.r (Sub.r (Sub.nil _)))))
      (fun _ s => s) (fun _u hinv => ?_)
  obtain _ := hinv
  refine TC.seq (fun K5 hK5 => ?_)
  refine TC.region ?_
  refine TL.v (Want.plain rfl) rfl rfl (PV.lss rfl rfl rfl) ?_
  refine TL.nil ?_
  refine TE.next hK5 ?_
  clear hK5
  refine TC.seq (fun K6 hK6 => ?_)
  refine TC.no rfl ?_
  refine TC.exit ?_
  refine TE.pass ?_
  clear hK6
  refine TE.pass ?_
  refine TE.hit ?_
  refine TE.next hK3 ?_
  clear hK3
  refine TC.seq (fun K7 hK7 => ?_)
  refine TC.region ?_
  refine TL.v (Want.plain rfl) rfl rfl (PV.move rfl rfl) ?_
  refine TL.v (Want.plain rfl) rfl rfl (PV.assign rfl rfl) ?_
  refine TL.v (Want.plain rfl) rfl rfl (PV.assign rfl rfl) ?_
  refine TL.nil ?_
  refine TE.next hK7 ?_
  clear hK7
  refine TC.ret ?_
  refine TE.weak (Sub.refl _) (fun _ s => sep_keep [] rfl s) ?_
  refine TE.ret2 rfl rfl rfl ?_
  exact ⟨rfl, rfl⟩


theorem numAdd_does (x : Value) (l : List Int) (hl : l.length ≤ 1000) : Does Try.prog 55 #[x] (IsN x l) [] (Ret (fun r' H => r' = .tuple #[.int .i64 (addE l 0).1, .int .i64 (addE l 0).2] ∧ H = [])) := by
  refine Does.of fun F hF => ?_
  rcases id hF with ⟨rfl, rfl⟩ | ⟨b, off, cap, cs, T, z, rfl, h3, h4⟩
  · exact ⟨_, trivial, numAdd_nil⟩
  · exact ⟨_, h3, numAdd_cells b off cap l hl cs T z h4⟩

theorem rightCells_does (x : Vector CellT 4) :
    Does Try.prog 41 #[(.agg (ints (flats x.toList)).toArray)] (fun _ => True) [] (Ret (fun r' H => r' = .bool (okCs x) ∧ H = [])) := by
  refine Does.body (vs := [(.agg (ints (flats x.toList)).toArray)]) (n := 30) Try.func41 rfl rfl rfl (fun w0 F hF => ?_)
  refine TC.seq (fun K1 hK1 => ?_)
  refine TC.region ?_
  refine TL.box (Want.plain rfl) rfl rfl rfl rfl (fun b1 => ?_)
  change TL _ _ _ _ _ _ _ _ _ [blkA b1 (ints (flats x.toList)) 35]
  refine TL.v (Want.plain rfl) rfl rfl (PV.assign rfl rfl) ?_
  refine TL.nil ?_
  refine TE.next hK1 ?_
  clear hK1
  refine TC.seq (fun K2 hK2 => ?_)
  refine TC.seq (fun K3 hK3 => ?_)
  refine TC.region ?_
  refine TL.v (Want.plain rfl) rfl rfl (PV.loadN (vs := ints (flats x.toList)) rfl Try.underlying35 rfl sz35 rfl (Rd.own 0 rfl rfl) (vs4_len x) (whole (vs4_len x))) ?_
  refine TL.v (Want.plain rfl) rfl rfl (PV.move rfl rfl) ?_
  refine TL.nil ?_
  refine TE.next hK3 ?_
  clear hK3
  refine TC.block ?_
  refine TC.loop (α := (Nat)) (fun k => k ≤ 4 ∧ ∀ (j : Nat) (h : j < 4), j < k → okC x[j] = true) (fun k => [(7, (.agg (ints (flats x.toList)).toArray)), (8, (.int .i64 (((k : Nat) : Int))))]) (fun k => [blkA b1 (ints (flats x.toList)) 35]) (fun k => 4 - k) 0
      ⟨Nat.zero_le _, fun j h hj => absurd hj (by omega)⟩ (Sub.r (Sub.cons rfl (by congr 1) (Sub.nil _)))
      (fun _ s => s) (fun k hinv => ?_)
  obtain ⟨hk, ho⟩ := hinv
  refine TC.seq (fun K4 hK4 => ?_)
  refine TC.region ?_
  refine TL.v (Want.plain rfl) rfl rfl (PV.lss rfl rfl rfl) ?_
  refine TL.dec (fun h9 => ?_) (fun h9 => ?_)
  · skip
    refine TL.nil ?_
    refine TE.next hK4 ?_
    clear hK4
    refine TC.seq (fun K5 hK5 => ?_)
    refine TC.yes rfl ?_
    refine TC.skip ?_
    refine TE.next hK5 ?_
    clear hK5
    refine TC.seq (fun K6 hK6 => ?_)
    refine TC.block ?_
    refine TC.seq (fun K7 hK7 => ?_)
    refine TC.region ?_
    refine TL.v (Want.plain rfl) rfl rfl (PV.indexN (cs := ints (flats x.toList)) (vs := ints (x[k]'(by omega)).flat) (r := k * 7) rfl Try.underlying35 Try.underlying34 rfl sz34 rfl rfl (by omega) (by omega) (by omega) (vs_sub CellT.flat_length x (i := k) 0 (by omega) (by omega) (by decide) (whole (CellT.len (x[k]'(by omega)))))) ?_
    refine TL.alloc (Want.plain rfl) rfl rfl rfl z34 (fun b4 => ?_)
    change TL _ _ _ _ _ _ _ _ _ [blkA b4 (ints CellT.zero.flat) 34, blkA b1 (ints (flats x.toList)) 35]
    refine TL.store (vs := ints (x[k]'(by omega)).flat) (i := 0) (H' := [blkA b4 (ints (x[k]'(by omega)).flat) 34, blkA b1 (ints (flats x.toList)) 35]) (Want.plain rfl) rfl rfl rfl rfl rfl (by rw [(CellT.len (x[k]'(by omega)))]; exact sz34) (ints_one _) rfl rfl (by have h0 := (CellT.len CellT.zero); have h1 := (CellT.len (x[k]'(by omega))); omega) (wwhole ((CellT.len CellT.zero).trans (CellT.len (x[k]'(by omega))).symm)) rfl ?_
    refine TL.nil ?_
    refine TE.next hK7 ?_
    clear hK7
    refine TC.seq (fun K8 hK8 => ?_)
    refine TC.seq (fun K9 hK9 => ?_)
    refine TC.region ?_
    refine TL.v (Want.plain rfl) rfl rfl (PV.fieldAddr (r := 0) rfl Try.underlying34 rfl sz3 rfl rfl) ?_
    refine TL.v (Want.plain rfl) rfl rfl (PV.load1 (v := (.int .i64 ((x[k]'(by omega)).inn))) rfl Try.underlying3 rfl rfl (Rd.own 0 rfl rfl) (CellT.at_inn (x[k]'(by omega)) rfl)) ?_
    refine TL.callR (A := []) (B := [blkA b4 (ints (x[k]'(by omega)).flat) 34, blkA b1 (ints (flats x.toList)) 35]) (Want.plain rfl) rfl rfl rfl nm54 rfl (numRight_does ((x[k]'(by omega)).inn)) (fun _ s => s) (fun _ _ _ => trivial) (fun vR HR hR => ?_)
    obtain ⟨rfl, rfl⟩ := hR
    change TL _ _ _ _ _ _ _ _ _ [blkA b4 (ints (x[k]'(by omega)).flat) 34, blkA b1 (ints (flats x.toList)) 35]
    refine TL.decB (fun h13 => ?_) (fun h13 => ?_)
    · skip
      refine TL.v (Want.plain rfl) rfl rfl (PV.not (r := false) rfl rfl rfl) ?_
      refine TL.v (Want.plain rfl) rfl rfl (PV.move rfl rfl) ?_
      refine TL.v (Want.met rfl rfl rfl) rfl rfl (PV.fieldAddr (r := 1) rfl Try.underlying34 rfl sz3 rfl rfl) ?_
      refine TL.v (Want.met rfl rfl rfl) rfl rfl (PV.load1 (v := (.int .i64 ((x[k]'(by omega)).out))) rfl Try.underlying3 rfl rfl (Rd.own 0 rfl rfl) (CellT.at_out (x[k]'(by omega)) rfl)) ?_
      refine TL.callR (A := []) (B := [blkA b4 (ints (x[k]'(by omega)).flat) 34, blkA b1 (ints (flats x.toList)) 35]) (Want.met rfl rfl rfl) rfl rfl rfl nm54 rfl (numRight_does ((x[k]'(by omega)).out)) (fun _ s => s) (fun _ _ _ => trivial) (fun vR HR hR => ?_)
      obtain ⟨rfl, rfl⟩ := hR
      change TL _ _ _ _ _ _ _ _ _ [blkA b4 (ints (x[k]'(by omega)).flat) 34, blkA b1 (ints (flats x.toList)) 35]
      refine TL.decB (fun h18 => ?_) (fun h18 => ?_)
      · skip
        refine TL.v (Want.met rfl rfl rfl) rfl rfl (PV.not (r := false) rfl rfl rfl) ?_
        refine TL.v (Want.plain rfl) rfl rfl (PV.pick rfl rfl rfl) ?_
        refine TL.nil ?_
        refine TE.next hK9 ?_
        clear hK9
        refine TC.no rfl ?_
        refine TC.skip ?_
        refine TE.next hK8 ?_
        clear hK8
        refine TC.seq (fun K10 hK10 => ?_)
        refine TC.region ?_
        refine TL.v (Want.plain rfl) rfl rfl (PV.fieldAddr (r := 2) rfl Try.underlying34 rfl sz23 rfl rfl) ?_
        refine TL.v (Want.plain rfl) rfl rfl (PV.sliceArr rfl Try.underlying23 sz3 rfl) ?_
        refine TL.callR (A := []) (B := [blkA b4 (ints (x[k]'(by omega)).flat) 34, blkA b1 (ints (flats x.toList)) 35]) (Want.plain rfl) rfl rfl rfl nm55 rfl (numAdd_does (.slice (some ⟨b4, 2, none⟩) (5) (5)) ((x[k]'(by omega)).given).toList (by simp)) (fun _ s => s) (isN_piece 0 rfl rfl (by simp) (by rw [Vector.length_toList]; exact (CellT.sub_given (x[k]'(by omega)) 0 rfl (by decide) (whole (vi5_len ((x[k]'(by omega)).given)))))) (fun vR HR hR => ?_)
        obtain ⟨rfl, rfl⟩ := hR
        change TL _ _ _ _ _ _ _ _ _ [blkA b4 (ints (x[k]'(by omega)).flat) 34, blkA b1 (ints (flats x.toList)) 35]
        refine TL.v (Want.plain rfl) rfl rfl (PV.move rfl rfl) ?_
        refine TL.v (Want.plain rfl) rfl rfl (PV.extract (vs := [(.int .i64 ((addE ((x[k]'(by omega)).given).toList 0).1)), (.int .i64 ((addE ((x[k]'(by omega)).given).toList 0).2))]) rfl rfl rfl) ?_
        refine TL.v (Want.plain rfl) rfl rfl (PV.extract (vs := [(.int .i64 ((addE ((x[k]'(by omega)).given).toList 0).1)), (.int .i64 ((addE ((x[k]'(by omega)).given).toList 0).2))]) rfl rfl rfl) ?_
        refine TL.v (Want.plain rfl) rfl rfl (PV.assign rfl rfl) ?_
        refine TL.v (Want.plain rfl) rfl rfl (PV.assign rfl rfl) ?_
        refine TL.nil ?_
        refine TE.next hK10 ?_
        clear hK10
        refine TC.seq (fun K11 hK11 => ?_)
        refine TC.region ?_
        refine TL.v (Want.plain rfl) rfl rfl (PV.move rfl rfl) ?_
        refine TL.v (Want.plain rfl) rfl rfl (PV.neq rfl rfl rfl) ?_
        refine TL.dec (fun h28 => ?_) (fun h28 => ?_)
        · skip
          refine TL.nil ?_
          refine TE.next hK11 ?_
          clear hK11
          refine TC.yes rfl ?_
          refine TC.seq (fun K12 hK12 => ?_)
          refine TC.region ?_
          refine TL.v (Want.plain rfl) rfl rfl (PV.assign rfl rfl) ?_
          refine TL.nil ?_
          refine TE.next hK12 ?_
          clear hK12
          refine TC.ret ?_
          refine TE.blockRet ?_
          refine TE.passRet ?_
          clear hK6
          refine TE.passRet ?_
          refine TE.blockRet ?_
          refine TE.passRet ?_
          clear hK2
          refine TE.weak (Sub.refl _) (fun _ s => sep_keep [] rfl s) ?_
          refine TE.ret1 rfl rfl ?_
          refine ⟨congrArg Value.bool ?_, rfl⟩
          symm
          rw [okCs, decide_eq_false_iff_not]
          intro h
          have h := h k (by omega)
          unfold okC at h
          simp at h; exact absurd h.2 h28
        · skip
          refine TL.nil ?_
          refine TE.next hK11 ?_
          clear hK11
          refine TC.no rfl ?_
          refine TC.skip ?_
          refine TE.blockEnd ?_
          refine TE.next hK6 ?_
          clear hK6
          refine TC.region ?_
          refine TL.v (Want.plain rfl) rfl rfl (PV.add rfl rfl rfl (wrap_i64 (by omega) (by omega))) ?_
          refine TL.v (Want.plain rfl) rfl rfl (PV.move rfl rfl) ?_
          refine TL.nil ?_
          exact TE.round ((k + 1) : (Nat)) ⟨by omega, fun j h hj => by
        by_cases q : j = k
        · subst q; unfold okC; simp_all
        · exact ho j h (by omega)⟩ (by show 4 - (k + 1) < 4 - k; omega)
            (Sub.r (Sub.cons rfl (by simp) (Sub.nil _)))
            (fun _ s => sep_keep [1] rfl s)
      · skip
        refine TL.v (Want.met rfl rfl rfl) rfl rfl (PV.not (r := true) rfl rfl rfl) ?_
        refine TL.v (Want.plain rfl) rfl rfl (PV.pick rfl rfl rfl) ?_
        refine TL.nil ?_
        refine TE.next hK9 ?_
        clear hK9
        refine TC.yes rfl ?_
        refine TC.seq (fun K13 hK13 => ?_)
        refine TC.region ?_
        refine TL.v (Want.plain rfl) rfl rfl (PV.assign rfl rfl) ?_
        refine TL.nil ?_
        refine TE.next hK13 ?_
        clear hK13
        refine TC.ret ?_
        refine TE.passRet ?_
        clear hK8
        refine TE.blockRet ?_
        refine TE.passRet ?_
        clear hK6
        refine TE.passRet ?_
        refine TE.blockRet ?_
        refine TE.passRet ?_
        clear hK2
        refine TE.weak (Sub.refl _) (fun _ s => sep_keep [] rfl s) ?_
        refine TE.ret1 rfl rfl ?_
        refine ⟨congrArg Value.bool ?_, rfl⟩
        symm
        rw [okCs, decide_eq_false_iff_not]
        intro h
        have h := h k (by omega)
        unfold okC at h
        simp [h18] at h
    · skip
      refine TL.v (Want.plain rfl) rfl rfl (PV.not (r := true) rfl rfl rfl) ?_
      refine TL.v (Want.plain rfl) rfl rfl (PV.move rfl rfl) ?_
      refine TL.unmet (b := true) rfl rfl rfl rfl (lb rfl) ?_
      refine TL.unmet (b := true) rfl rfl rfl rfl (lb rfl) ?_
      refine TL.unmet (b := true) rfl rfl rfl rfl (lb rfl) ?_
      refine TL.unmet (b := true) rfl rfl rfl rfl (lb rfl) ?_
      refine TL.v (Want.plain rfl) rfl rfl (PV.pick rfl rfl rfl) ?_
      refine TL.nil ?_
      refine TE.next hK9 ?_
      clear hK9
      refine TC.yes rfl ?_
      refine TC.seq (fun K14 hK14 => ?_)
      refine TC.region ?_
      refine TL.v (Want.plain rfl) rfl rfl (PV.assign rfl rfl) ?_
      refine TL.nil ?_
      refine TE.next hK14 ?_
      clear hK14
      refine TC.ret ?_
      refine TE.passRet ?_
      clear hK8
      refine TE.blockRet ?_
      refine TE.passRet ?_
      clear hK6
      refine TE.passRet ?_
      refine TE.blockRet ?_
      refine TE.passRet ?_
      clear hK2
      refine TE.weak (Sub.refl _) (fun _ s => sep_keep [] rfl s) ?_
      refine TE.ret1 rfl rfl ?_
      refine ⟨congrArg Value.bool ?_, rfl⟩
      symm
      rw [okCs, decide_eq_false_iff_not]
      intro h
      have h := h k (by omega)
      unfold okC at h
      simp [h13] at h
  · skip
    refine TL.nil ?_
    refine TE.next hK4 ?_
    clear hK4
    refine TC.seq (fun K15 hK15 => ?_)
    refine TC.no rfl ?_
    refine TC.exit ?_
    refine TE.pass ?_
    clear hK15
    refine TE.pass ?_
    refine TE.hit ?_
    refine TE.next hK2 ?_
    clear hK2
    refine TC.seq (fun K16 hK16 => ?_)
    refine TC.region ?_
    refine TL.v (Want.plain rfl) rfl rfl (PV.assign rfl rfl) ?_
    refine TL.nil ?_
    refine TE.next hK16 ?_
    clear hK16
    refine TC.ret ?_
    refine TE.weak (Sub.refl _) (fun _ s => sep_keep [] rfl s) ?_
    refine TE.ret1 rfl rfl ?_
    exact ⟨congrArg Value.bool (by symm; rw [okCs, decide_eq_true_iff]; exact fun j h => ho j h (by omega)), rfl⟩


theorem sg35 : Try.prog.eqGuardType Try.prog.depth 35 = false := by kernel_rfl
theorem sk35 : Try.prog.keyTypeAt 6 35 = true := by kernel_rfl
theorem fI35 : flatI Try.prog 6 35 = some 28 := by kernel_rfl
theorem fC35 : (match Try.prog.underlying 35 with | some (.struct _) | some (.array _ _) => true | _ => false) = true := by kernel_rfl
theorem cC35 : Try.prog.cellsOf 35 = 28 := by kernel_rfl

theorem wf_left {x : RowT} (h : WF x.flat) (i : Nat) (hi : i < 5) : WF (flats x.left[i].toList) := fun n hn => h n (by
  simp only [RowT.flat, List.mem_cons, List.mem_append, List.mem_flatMap]
  exact .inr (.inr (.inr ⟨x.left[i], by simp [Vector.getElem_mem], hn⟩)))
theorem wf_zl : WF (flats RowT.zero.left[0].toList) := fun n hn => by
  have : n ∈ List.replicate 28 (0 : Int) := hn
  obtain rfl := List.eq_of_mem_replicate this
  decide

theorem rowRight_does (x : RowT) (hw : WF x.flat) :
    Does Try.prog 21 #[(.agg (ints x.flat).toArray)] (fun _ => True) [] (Ret (fun r' H => r' = .bool (rightR x) ∧ H = [])) := by
  refine Does.body (vs := [(.agg (ints x.flat).toArray)]) (n := 41) Try.func21 rfl rfl rfl (fun w0 F hF => ?_)
  refine TC.seq (fun K1 hK1 => ?_)
  refine TC.region ?_
  refine TL.box (Want.plain rfl) rfl rfl rfl rfl (fun b1 => ?_)
  change TL _ _ _ _ _ _ _ _ _ [blkA b1 (ints x.flat) 38]
  refine TL.v (Want.plain rfl) rfl rfl (PV.assign rfl rfl) ?_
  refine TL.nil ?_
  refine TE.next hK1 ?_
  clear hK1
  refine TC.seq (fun K2 hK2 => ?_)
  refine TC.seq (fun K3 hK3 => ?_)
  refine TC.region ?_
  refine TL.v (Want.plain rfl) rfl rfl (PV.fieldAddr (r := 0) rfl Try.underlying38 rfl sz3 rfl rfl) ?_
  refine TL.v (Want.plain rfl) rfl rfl (PV.load1 (v := (.int .i64 (x.version))) rfl Try.underlying3 rfl rfl (Rd.own 0 rfl rfl) (RowT.at_version x rfl)) ?_
  refine TL.v (Want.plain rfl) rfl rfl (PV.lss rfl rfl rfl) ?_
  refine TL.dec (fun h7 => ?_) (fun h7 => ?_)
  · skip
    refine TL.v (Want.plain rfl) rfl rfl (PV.move rfl rfl) ?_
    refine TL.unmet (b := true) rfl rfl rfl rfl (lb rfl) ?_
    refine TL.unmet (b := true) rfl rfl rfl rfl (lb rfl) ?_
    refine TL.unmet (b := true) rfl rfl rfl rfl (lb rfl) ?_
    refine TL.unmet (b := true) rfl rfl rfl rfl (lb rfl) ?_
    refine TL.v (Want.plain rfl) rfl rfl (PV.pick rfl rfl rfl) ?_
    refine TL.nil ?_
    refine TE.next hK3 ?_
    clear hK3
    refine TC.yes rfl ?_
    refine TC.seq (fun K4 hK4 => ?_)
    refine TC.region ?_
    refine TL.v (Want.plain rfl) rfl rfl (PV.assign rfl rfl) ?_
    refine TL.nil ?_
    refine TE.next hK4 ?_
    clear hK4
    refine TC.ret ?_
    refine TE.passRet ?_
    clear hK2
    refine TE.weak (Sub.refl _) (fun _ s => sep_keep [] rfl s) ?_
    refine TE.ret1 rfl rfl ?_
    refine ⟨congrArg Value.bool ?_, rfl⟩
    symm
    rw [rightR, Bool.eq_false_iff]
    intro h
    rw [Bool.and_eq_true, Bool.and_eq_true, decide_eq_true_iff, decide_eq_true_iff] at h
    omega
  · skip
    refine TL.v (Want.plain rfl) rfl rfl (PV.move rfl rfl) ?_
    refine TL.v (Want.met rfl rfl rfl) rfl rfl (PV.fieldAddr (r := 1) rfl Try.underlying38 rfl sz35 rfl rfl) ?_
    refine TL.v (Want.met rfl rfl rfl) rfl rfl (PV.loadN (vs := ints (flats x.cells.toList)) rfl Try.underlying35 rfl sz35 rfl (Rd.own 0 rfl rfl) (vs4_len x.cells) (RowT.sub_cells x 0 rfl (by decide) (whole (vs4_len x.cells)))) ?_
    refine TL.callR (A := []) (B := [blkA b1 (ints x.flat) 38]) (Want.met rfl rfl rfl) rfl rfl rfl nm41 rfl (rightCells_does x.cells) (fun _ s => s) (fun _ _ _ => trivial) (fun vR HR hR => ?_)
    obtain ⟨rfl, rfl⟩ := hR
    change TL _ _ _ _ _ _ _ _ _ [blkA b1 (ints x.flat) 38]
    refine TL.decB (fun h11 => ?_) (fun h11 => ?_)
    · skip
      refine TL.v (Want.met rfl rfl rfl) rfl rfl (PV.not (r := false) rfl rfl rfl) ?_
      refine TL.v (Want.plain rfl) rfl rfl (PV.pick rfl rfl rfl) ?_
      refine TL.nil ?_
      refine TE.next hK3 ?_
      clear hK3
      refine TC.no rfl ?_
      refine TC.skip ?_
      refine TE.next hK2 ?_
      clear hK2
      refine TC.seq (fun K5 hK5 => ?_)
      refine TC.seq (fun K6 hK6 => ?_)
      refine TC.region ?_
      refine TL.v (Want.plain rfl) rfl rfl (PV.fieldAddr (r := 29) rfl Try.underlying38 rfl sz23 rfl rfl) ?_
      refine TL.v (Want.plain rfl) rfl rfl (PV.loadN (vs := ints x.heir.toList) rfl Try.underlying23 rfl sz23 rfl (Rd.own 0 rfl rfl) (vi5_len x.heir) (RowT.sub_heir x 0 rfl (by decide) (whole (vi5_len x.heir)))) ?_
      refine TL.v (Want.plain rfl) rfl rfl (PV.move rfl rfl) ?_
      refine TL.nil ?_
      refine TE.next hK6 ?_
      clear hK6
      refine TC.block ?_
      refine TC.loop (α := (Nat)) (fun i => i ≤ 5 ∧ ∀ (j : Nat) (h : j < 5), j < i → hokR x.heir[j] x.left[j] = true) (fun i => [(1, (.pointer (some ⟨b1, 0, none⟩))), (15, (.agg (ints x.heir.toList).toArray)), (16, (.int .i64 (((i : Nat) : Int))))]) (fun i => [blkA b1 (ints x.flat) 38]) (fun i => 5 - i) 0
          ⟨Nat.zero_le _, fun j h hj => absurd hj (by omega)⟩ (Sub.r (Sub.r (Sub.cons rfl (by congr 1) (Sub.nil _))))
          (fun _ s => s) (fun i hinv => ?_)
      obtain ⟨hi, ho⟩ := hinv
      refine TC.seq (fun K7 hK7 => ?_)
      refine TC.region ?_
      refine TL.v (Want.plain rfl) rfl rfl (PV.lss rfl rfl rfl) ?_
      refine TL.dec (fun h17 => ?_) (fun h17 => ?_)
      · skip
        refine TL.nil ?_
        refine TE.next hK7 ?_
        clear hK7
        refine TC.seq (fun K8 hK8 => ?_)
        refine TC.yes rfl ?_
        refine TC.skip ?_
        refine TE.next hK8 ?_
        clear hK8
        refine TC.seq (fun K9 hK9 => ?_)
        refine TC.block ?_
        refine TC.seq (fun K10 hK10 => ?_)
        refine TC.region ?_
        refine TL.v (Want.plain rfl) rfl rfl (PV.move rfl rfl) ?_
        refine TL.v (Want.plain rfl) rfl rfl (PV.index1 (cs := ints x.heir.toList) (v := .int .i64 (x.heir[i]'(by omega))) (r := i) rfl Try.underlying23 Try.underlying3 rfl sz3 rfl rfl (by omega) (by omega) (by omega) (vi_at x.heir (by omega))) ?_
        refine TL.v (Want.plain rfl) rfl rfl (PV.assign rfl rfl) ?_
        refine TL.v (Want.plain rfl) rfl rfl (PV.assign rfl rfl) ?_
        refine TL.nil ?_
        refine TE.next hK10 ?_
        clear hK10
        refine TC.seq (fun K11 hK11 => ?_)
        refine TC.seq (fun K12 hK12 => ?_)
        refine TC.region ?_
        refine TL.v (Want.plain rfl) rfl rfl (PV.move rfl rfl) ?_
        refine TL.v (Want.plain rfl) rfl rfl (PV.lss rfl rfl rfl) ?_
        refine TL.dec (fun h21 => ?_) (fun h21 => ?_)
        · skip
          refine TL.v (Want.plain rfl) rfl rfl (PV.move rfl rfl) ?_
          refine TL.unmet (b := true) rfl rfl rfl rfl (lb rfl) ?_
          refine TL.unmet (b := true) rfl rfl rfl rfl (lb rfl) ?_
          refine TL.unmet (b := true) rfl rfl rfl rfl (lb rfl) ?_
          refine TL.unmet (b := true) rfl rfl rfl rfl (lb rfl) ?_
          refine TL.unmet (b := true) rfl rfl rfl rfl (lb rfl) ?_
          refine TL.unmet (b := true) rfl rfl rfl rfl (lb rfl) ?_
          refine TL.v (Want.plain rfl) rfl rfl (PV.pick rfl rfl rfl) ?_
          refine TL.nil ?_
          refine TE.next hK12 ?_
          clear hK12
          refine TC.yes rfl ?_
          refine TC.seq (fun K13 hK13 => ?_)
          refine TC.region ?_
          refine TL.v (Want.plain rfl) rfl rfl (PV.assign rfl rfl) ?_
          refine TL.nil ?_
          refine TE.next hK13 ?_
          clear hK13
          refine TC.ret ?_
          refine TE.passRet ?_
          clear hK11
          refine TE.blockRet ?_
          refine TE.passRet ?_
          clear hK9
          refine TE.passRet ?_
          refine TE.blockRet ?_
          refine TE.passRet ?_
          clear hK5
          refine TE.weak (Sub.refl _) (fun _ s => sep_keep [] rfl s) ?_
          refine TE.ret1 rfl rfl ?_
          refine ⟨congrArg Value.bool ?_, rfl⟩
          symm
          rw [rightR, Bool.eq_false_iff]
          intro h
          rw [Bool.and_eq_true, Bool.and_eq_true, decide_eq_true_iff, decide_eq_true_iff] at h
          have h := h.2 i (by omega)
          unfold hokR at h
          rw [Bool.and_eq_true, Bool.and_eq_true, decide_eq_true_iff, decide_eq_true_iff] at h
          omega
        · skip
          refine TL.v (Want.plain rfl) rfl rfl (PV.move rfl rfl) ?_
          refine TL.v (Want.met rfl rfl rfl) rfl rfl (PV.move rfl rfl) ?_
          refine TL.v (Want.met rfl rfl rfl) rfl rfl (PV.fieldAddr (r := 34) rfl Try.underlying38 rfl sz36 rfl rfl) ?_
          refine TL.v (Want.met rfl rfl rfl) rfl rfl (PV.indexArr (r := 34 + i * 28) rfl Try.underlying36 sz35 rfl rfl (by omega) (by omega) (by omega)) ?_
          refine TL.v (Want.met rfl rfl rfl) rfl rfl (PV.loadN (vs := ints (flats (x.left[i]'(by omega)).toList)) rfl Try.underlying35 rfl sz35 rfl (Rd.own 0 rfl rfl) (vs4_len (x.left[i]'(by omega))) (RowT.sub_left x (i * 28) (by omega) (by omega) (vs_sub vl_len x.left (i := i) 0 (by omega) (by omega) (by decide) (whole (vs4_len (x.left[i]'(by omega))))))) ?_
          refine TL.callR (A := []) (B := [blkA b1 (ints x.flat) 38]) (Want.met rfl rfl rfl) rfl rfl rfl nm41 rfl (rightCells_does (x.left[i]'(by omega))) (fun _ s => s) (fun _ _ _ => trivial) (fun vR HR hR => ?_)
          obtain ⟨rfl, rfl⟩ := hR
          change TL _ _ _ _ _ _ _ _ _ [blkA b1 (ints x.flat) 38]
          refine TL.decB (fun h27 => ?_) (fun h27 => ?_)
          · skip
            refine TL.v (Want.met rfl rfl rfl) rfl rfl (PV.not (r := false) rfl rfl rfl) ?_
            refine TL.v (Want.plain rfl) rfl rfl (PV.pick rfl rfl rfl) ?_
            refine TL.nil ?_
            refine TE.next hK12 ?_
            clear hK12
            refine TC.no rfl ?_
            refine TC.skip ?_
            refine TE.next hK11 ?_
            clear hK11
            refine TC.seq (fun K14 hK14 => ?_)
            refine TC.region ?_
            refine TL.v (Want.plain rfl) rfl rfl (PV.move rfl rfl) ?_
            refine TL.v (Want.plain rfl) rfl rfl (PV.eql rfl rfl rfl) ?_
            refine TL.dec (fun h31 => ?_) (fun h31 => ?_)
            · skip
              refine TL.v (Want.plain rfl) rfl rfl (PV.move rfl rfl) ?_
              refine TL.v (Want.met rfl rfl rfl) rfl rfl (PV.move rfl rfl) ?_
              refine TL.v (Want.met rfl rfl rfl) rfl rfl (PV.fieldAddr (r := 34) rfl Try.underlying38 rfl sz36 rfl rfl) ?_
              refine TL.v (Want.met rfl rfl rfl) rfl rfl (PV.indexArr (r := 34 + i * 28) rfl Try.underlying36 sz35 rfl rfl (by omega) (by omega) (by omega)) ?_
              refine TL.v (Want.met rfl rfl rfl) rfl rfl (PV.loadN (vs := ints (flats (x.left[i]'(by omega)).toList)) rfl Try.underlying35 rfl sz35 rfl (Rd.own 0 rfl rfl) (vs4_len (x.left[i]'(by omega))) (RowT.sub_left x (i * 28) (by omega) (by omega) (vs_sub vl_len x.left (i := i) 0 (by omega) (by omega) (by decide) (whole (vs4_len (x.left[i]'(by omega))))))) ?_
              refine TL.v (Want.met rfl rfl rfl) rfl rfl (PV.build (cells := (ints (flats RowT.zero.cells.toList)).toArray) rfl rfl (by as_aux_lemma => kernel_rfl)) ?_
              refine TL.v (Want.met rfl rfl rfl) rfl rfl (PV.neqAgg (a := flats (x.left[i]'(by omega)).toList) (b := flats RowT.zero.cells.toList) (m := 6) (c := 28) sg35 sk35 rfl fI35 (ints_len (vs4_len (x.left[i]'(by omega)))) (ints_len (vs4_len RowT.zero.cells)) ⟨formed_ag fC35 cC35 (ints_len (vs4_len (x.left[i]'(by omega)))), formed_ag fC35 cC35 (ints_len (vs4_len RowT.zero.cells))⟩ (wf_left hw i (by omega)) wf_zl rfl rfl rfl) ?_
              refine TL.dec (fun h38 => ?_) (fun h38 => ?_)
              · skip
                refine TL.v (Want.plain rfl) rfl rfl (PV.pick rfl rfl rfl) ?_
                refine TL.nil ?_
                refine TE.next hK14 ?_
                clear hK14
                refine TC.yes rfl ?_
                refine TC.seq (fun K15 hK15 => ?_)
                refine TC.region ?_
                refine TL.v (Want.plain rfl) rfl rfl (PV.assign rfl rfl) ?_
                refine TL.nil ?_
                refine TE.next hK15 ?_
                clear hK15
                refine TC.ret ?_
                refine TE.blockRet ?_
                refine TE.passRet ?_
                clear hK9
                refine TE.passRet ?_
                refine TE.blockRet ?_
                refine TE.passRet ?_
                clear hK5
                refine TE.weak (Sub.refl _) (fun _ s => sep_keep [] rfl s) ?_
                refine TE.ret1 rfl rfl ?_
                refine ⟨congrArg Value.bool ?_, rfl⟩
                symm
                rw [rightR, Bool.eq_false_iff]
                intro h
                rw [Bool.and_eq_true, Bool.and_eq_true, decide_eq_true_iff, decide_eq_true_iff] at h
                have h := h.2 i (by omega)
                unfold hokR at h
                rw [Bool.and_eq_true, Bool.and_eq_true, decide_eq_true_iff, decide_eq_true_iff] at h
                exact h38 (h.2 h31)
              · skip
                refine TL.v (Want.plain rfl) rfl rfl (PV.pick rfl rfl rfl) ?_
                refine TL.nil ?_
                refine TE.next hK14 ?_
                clear hK14
                refine TC.no rfl ?_
                refine TC.skip ?_
                refine TE.blockEnd ?_
                refine TE.next hK9 ?_
                clear hK9
                refine TC.region ?_
                refine TL.v (Want.plain rfl) rfl rfl (PV.add rfl rfl rfl (wrap_i64 (by omega) (by omega))) ?_
                refine TL.v (Want.plain rfl) rfl rfl (PV.move rfl rfl) ?_
                refine TL.nil ?_
                exact TE.round ((i + 1) : (Nat)) ⟨by omega, fun j h hj => by
        by_cases q : j = i
        · subst q; unfold hokR; rw [Bool.and_eq_true, Bool.and_eq_true, decide_eq_true_iff, decide_eq_true_iff]; exact ⟨⟨by omega, h27⟩, fun e => by first | exact absurd e h31 | exact Classical.not_not.1 h38⟩
        · exact ho j h (by omega)⟩ (by show 5 - (i + 1) < 5 - i; omega)
                  (Sub.r (Sub.r (Sub.cons rfl (by simp) (Sub.nil _))))
                  (fun _ s => s)
            · skip
              refine TL.v (Want.plain rfl) rfl rfl (PV.move rfl rfl) ?_
              refine TL.unmet (b := false) rfl rfl rfl rfl (lb rfl) ?_
              refine TL.unmet (b := false) rfl rfl rfl rfl (lb rfl) ?_
              refine TL.unmet (b := false) rfl rfl rfl rfl (lb rfl) ?_
              refine TL.unmet (b := false) rfl rfl rfl rfl (lb rfl) ?_
              refine TL.unmet (b := false) rfl rfl rfl rfl (lb rfl) ?_
              refine TL.unmet (b := false) rfl rfl rfl rfl (lb rfl) ?_
              refine TL.v (Want.plain rfl) rfl rfl (PV.pick rfl rfl rfl) ?_
              refine TL.nil ?_
              refine TE.next hK14 ?_
              clear hK14
              refine TC.no rfl ?_
              refine TC.skip ?_
              refine TE.blockEnd ?_
              refine TE.next hK9 ?_
              clear hK9
              refine TC.region ?_
              refine TL.v (Want.plain rfl) rfl rfl (PV.add rfl rfl rfl (wrap_i64 (by omega) (by omega))) ?_
              refine TL.v (Want.plain rfl) rfl rfl (PV.move rfl rfl) ?_
              refine TL.nil ?_
              exact TE.round ((i + 1) : (Nat)) ⟨by omega, fun j h hj => by
        by_cases q : j = i
        · subst q; unfold hokR; rw [Bool.and_eq_true, Bool.and_eq_true, decide_eq_true_iff, decide_eq_true_iff]; exact ⟨⟨by omega, h27⟩, fun e => by first | exact absurd e h31 | exact Classical.not_not.1 h38⟩
        · exact ho j h (by omega)⟩ (by show 5 - (i + 1) < 5 - i; omega)
                (Sub.r (Sub.r (Sub.cons rfl (by simp) (Sub.nil _))))
                (fun _ s => s)
          · skip
            refine TL.v (Want.met rfl rfl rfl) rfl rfl (PV.not (r := true) rfl rfl rfl) ?_
            refine TL.v (Want.plain rfl) rfl rfl (PV.pick rfl rfl rfl) ?_
            refine TL.nil ?_
            refine TE.next hK12 ?_
            clear hK12
            refine TC.yes rfl ?_
            refine TC.seq (fun K16 hK16 => ?_)
            refine TC.region ?_
            refine TL.v (Want.plain rfl) rfl rfl (PV.assign rfl rfl) ?_
            refine TL.nil ?_
            refine TE.next hK16 ?_
            clear hK16
            refine TC.ret ?_
            refine TE.passRet ?_
            clear hK11
            refine TE.blockRet ?_
            refine TE.passRet ?_
            clear hK9
            refine TE.passRet ?_
            refine TE.blockRet ?_
            refine TE.passRet ?_
            clear hK5
            refine TE.weak (Sub.refl _) (fun _ s => sep_keep [] rfl s) ?_
            refine TE.ret1 rfl rfl ?_
            refine ⟨congrArg Value.bool ?_, rfl⟩
            symm
            rw [rightR, Bool.eq_false_iff]
            intro h
            rw [Bool.and_eq_true, Bool.and_eq_true, decide_eq_true_iff, decide_eq_true_iff] at h
            have h := h.2 i (by omega)
            unfold hokR at h
            rw [Bool.and_eq_true, Bool.and_eq_true, decide_eq_true_iff, decide_eq_true_iff] at h
            rw [h27] at h; exact absurd h.1.2 (by decide)
      · skip
        refine TL.nil ?_
        refine TE.next hK7 ?_
        clear hK7
        refine TC.seq (fun K17 hK17 => ?_)
        refine TC.no rfl ?_
        refine TC.exit ?_
        refine TE.pass ?_
        clear hK17
        refine TE.pass ?_
        refine TE.hit ?_
        refine TE.next hK5 ?_
        clear hK5
        refine TC.seq (fun K18 hK18 => ?_)
        refine TC.region ?_
        refine TL.v (Want.plain rfl) rfl rfl (PV.assign rfl rfl) ?_
        refine TL.nil ?_
        refine TE.next hK18 ?_
        clear hK18
        refine TC.ret ?_
        refine TE.weak (Sub.refl _) (fun _ s => sep_keep [] rfl s) ?_
        refine TE.ret1 rfl rfl ?_
        exact ⟨congrArg Value.bool (by symm; rw [rightR, Bool.and_eq_true, Bool.and_eq_true, decide_eq_true_iff, decide_eq_true_iff]; exact ⟨⟨by omega, h11⟩, fun j h => ho j h (by omega)⟩), rfl⟩
    · skip
      refine TL.v (Want.met rfl rfl rfl) rfl rfl (PV.not (r := true) rfl rfl rfl) ?_
      refine TL.v (Want.plain rfl) rfl rfl (PV.pick rfl rfl rfl) ?_
      refine TL.nil ?_
      refine TE.next hK3 ?_
      clear hK3
      refine TC.yes rfl ?_
      refine TC.seq (fun K19 hK19 => ?_)
      refine TC.region ?_
      refine TL.v (Want.plain rfl) rfl rfl (PV.assign rfl rfl) ?_
      refine TL.nil ?_
      refine TE.next hK19 ?_
      clear hK19
      refine TC.ret ?_
      refine TE.passRet ?_
      clear hK2
      refine TE.weak (Sub.refl _) (fun _ s => sep_keep [] rfl s) ?_
      refine TE.ret1 rfl rfl ?_
      refine ⟨congrArg Value.bool ?_, rfl⟩
      symm
      rw [rightR, Bool.eq_false_iff]
      intro h
      rw [Bool.and_eq_true, Bool.and_eq_true, decide_eq_true_iff, decide_eq_true_iff] at h
      rw [h11] at h; exact absurd h.1.2 (by decide)


theorem first_does  :
    Does Try.prog 28 #[] (fun _ => True) [] (Ret (fun r' H => r' = .agg (ints firstV.flat).toArray ∧ H = [])) := by
  refine Does.body (vs := []) (n := 2) Try.func28 rfl rfl rfl (fun w0 F hF => ?_)
  refine TC.seq (fun K1 hK1 => ?_)
  refine TC.region ?_
  refine TL.alloc (Want.plain rfl) rfl rfl rfl z25 (fun b0 => ?_)
  change TL _ _ _ _ _ _ _ _ _ [blkA b0 (ints ViewT.zero.flat) 25]
  refine TL.nil ?_
  refine TE.next hK1 ?_
  clear hK1
  refine TC.seq (fun K2 hK2 => ?_)
  refine TC.region ?_
  refine TL.v (Want.plain rfl) rfl rfl (PV.buildSegs (cs := ints (ViewT.mk 1 7 (#v[0, 0, 0, 0, 0])).flat) (segs := [[Value.int .i64 0], [Value.int .i64 0], ints (#v[0, 0, 0, 0, 0]).toList]) (res := [[Value.int .i64 1], [Value.int .i64 7], ints (#v[0, 0, 0, 0, 0]).toList]) (parts := [(0, [Value.int .i64 1]), (1, [Value.int .i64 7])]) rfl rfl Try.underlying25 (by kernel_rfl) (by kernel_rfl) rfl (putSegs_step rfl ((rfl : [Value.int .i64 1].length = 1).trans (rfl : [Value.int .i64 0].length = 1).symm) (putSegs_step rfl ((rfl : [Value.int .i64 7].length = 1).trans (rfl : [Value.int .i64 0].length = 1).symm) putSegs_nil)) (ViewT.eq (ViewT.mk 1 7 (#v[0, 0, 0, 0, 0]))).symm) ?_
  refine TL.store (vs := ints (ViewT.mk 1 7 (#v[0, 0, 0, 0, 0])).flat) (i := 0) (H' := [blkA b0 (ints (ViewT.mk 1 7 (#v[0, 0, 0, 0, 0])).flat) 25]) (Want.plain rfl) rfl rfl rfl rfl rfl (by rw [(ViewT.len (ViewT.mk 1 7 (#v[0, 0, 0, 0, 0])))]; exact sz25) (ints_one _) rfl rfl (by have h0 := (ViewT.len ViewT.zero); have h1 := (ViewT.len (ViewT.mk 1 7 (#v[0, 0, 0, 0, 0]))); omega) (wwhole ((ViewT.len ViewT.zero).trans (ViewT.len (ViewT.mk 1 7 (#v[0, 0, 0, 0, 0]))).symm)) rfl ?_
  refine TL.nil ?_
  refine TE.next hK2 ?_
  clear hK2
  refine TC.ret ?_
  refine TE.retC (H' := []) rfl rfl Try.underlying25 rfl sz25 (Rd.own 0 rfl rfl) (ViewT.len (ViewT.mk 1 7 (#v[0, 0, 0, 0, 0]))) (fun _ s => sep_keep [] rfl s) ?_
  exact ⟨rfl, rfl⟩


theorem viewRight_does (v : ViewT) (hh : Rng v) :
    Does Try.prog 16 #[(.agg (ints v.flat).toArray)] (fun _ => True) [] (Ret (fun r' H => r' = .bool (rightV v) ∧ H = [])) := by
  refine Does.body (vs := [(.agg (ints v.flat).toArray)]) (n := 39) Try.func16 rfl rfl rfl (fun w0 F hF => ?_)
  refine TC.seq (fun K1 hK1 => ?_)
  refine TC.region ?_
  refine TL.box (Want.plain rfl) rfl rfl rfl rfl (fun b1 => ?_)
  change TL _ _ _ _ _ _ _ _ _ [blkA b1 (ints v.flat) 25]
  refine TL.v (Want.plain rfl) rfl rfl (PV.assign rfl rfl) ?_
  refine TL.nil ?_
  refine TE.next hK1 ?_
  clear hK1
  refine TC.seq (fun K2 hK2 => ?_)
  refine TC.seq (fun K3 hK3 => ?_)
  refine TC.region ?_
  refine TL.v (Want.plain rfl) rfl rfl (PV.fieldAddr (r := 0) rfl Try.underlying25 rfl sz3 rfl rfl) ?_
  refine TL.v (Want.plain rfl) rfl rfl (PV.load1 (v := (.int .i64 (v.epoch))) rfl Try.underlying3 rfl rfl (Rd.own 0 rfl rfl) (ViewT.at_epoch v rfl)) ?_
  refine TL.v (Want.plain rfl) rfl rfl (PV.lss rfl rfl rfl) ?_
  refine TL.dec (fun h7 => ?_) (fun h7 => ?_)
  · skip
    refine TL.v (Want.plain rfl) rfl rfl (PV.move rfl rfl) ?_
    refine TL.unmet (b := true) rfl rfl rfl rfl (lb rfl) ?_
    refine TL.unmet (b := true) rfl rfl rfl rfl (lb rfl) ?_
    refine TL.unmet (b := true) rfl rfl rfl rfl (lb rfl) ?_
    refine TL.v (Want.plain rfl) rfl rfl (PV.pick rfl rfl rfl) ?_
    refine TL.v (Want.plain rfl) rfl rfl (PV.move rfl rfl) ?_
    refine TL.unmet (b := true) rfl rfl rfl rfl (lb rfl) ?_
    refine TL.unmet (b := true) rfl rfl rfl rfl (lb rfl) ?_
    refine TL.unmet (b := true) rfl rfl rfl rfl (lb rfl) ?_
    refine TL.v (Want.plain rfl) rfl rfl (PV.pick rfl rfl rfl) ?_
    refine TL.nil ?_
    refine TE.next hK3 ?_
    clear hK3
    refine TC.yes rfl ?_
    refine TC.seq (fun K4 hK4 => ?_)
    refine TC.region ?_
    refine TL.v (Want.plain rfl) rfl rfl (PV.assign rfl rfl) ?_
    refine TL.nil ?_
    refine TE.next hK4 ?_
    clear hK4
    refine TC.ret ?_
    refine TE.passRet ?_
    clear hK2
    refine TE.weak (Sub.refl _) (fun _ s => sep_keep [] rfl s) ?_
    refine TE.ret1 rfl rfl ?_
    refine ⟨congrArg Value.bool ?_, rfl⟩
    symm
    rw [rightV, Bool.eq_false_iff]
    intro h
    rw [Bool.and_eq_true, decide_eq_true_iff, decide_eq_true_iff] at h
    omega
  · skip
    refine TL.v (Want.plain rfl) rfl rfl (PV.move rfl rfl) ?_
    refine TL.v (Want.met rfl rfl rfl) rfl rfl (PV.fieldAddr (r := 1) rfl Try.underlying25 rfl sz3 rfl rfl) ?_
    refine TL.v (Want.met rfl rfl rfl) rfl rfl (PV.load1 (v := (.int .i64 (v.members))) rfl Try.underlying3 rfl rfl (Rd.own 0 rfl rfl) (ViewT.at_members v rfl)) ?_
    refine TL.v (Want.met rfl rfl rfl) rfl rfl (PV.lss rfl rfl rfl) ?_
    refine TL.dec (fun h11 => ?_) (fun h11 => ?_)
    · skip
      refine TL.v (Want.plain rfl) rfl rfl (PV.pick rfl rfl rfl) ?_
      refine TL.v (Want.plain rfl) rfl rfl (PV.move rfl rfl) ?_
      refine TL.unmet (b := true) rfl rfl rfl rfl (lb rfl) ?_
      refine TL.unmet (b := true) rfl rfl rfl rfl (lb rfl) ?_
      refine TL.unmet (b := true) rfl rfl rfl rfl (lb rfl) ?_
      refine TL.v (Want.plain rfl) rfl rfl (PV.pick rfl rfl rfl) ?_
      refine TL.nil ?_
      refine TE.next hK3 ?_
      clear hK3
      refine TC.yes rfl ?_
      refine TC.seq (fun K5 hK5 => ?_)
      refine TC.region ?_
      refine TL.v (Want.plain rfl) rfl rfl (PV.assign rfl rfl) ?_
      refine TL.nil ?_
      refine TE.next hK5 ?_
      clear hK5
      refine TC.ret ?_
      refine TE.passRet ?_
      clear hK2
      refine TE.weak (Sub.refl _) (fun _ s => sep_keep [] rfl s) ?_
      refine TE.ret1 rfl rfl ?_
      refine ⟨congrArg Value.bool ?_, rfl⟩
      symm
      rw [rightV, Bool.eq_false_iff]
      intro h
      rw [Bool.and_eq_true, decide_eq_true_iff, decide_eq_true_iff] at h
      omega
    · skip
      refine TL.v (Want.plain rfl) rfl rfl (PV.pick rfl rfl rfl) ?_
      refine TL.v (Want.plain rfl) rfl rfl (PV.move rfl rfl) ?_
      refine TL.v (Want.met rfl rfl rfl) rfl rfl (PV.fieldAddr (r := 1) rfl Try.underlying25 rfl sz3 rfl rfl) ?_
      refine TL.v (Want.met rfl rfl rfl) rfl rfl (PV.load1 (v := (.int .i64 (v.members))) rfl Try.underlying3 rfl rfl (Rd.own 0 rfl rfl) (ViewT.at_members v rfl)) ?_
      refine TL.v (Want.met rfl rfl rfl) rfl rfl (PV.geq rfl rfl rfl) ?_
      refine TL.dec (fun h16 => ?_) (fun h16 => ?_)
      · skip
        refine TL.v (Want.plain rfl) rfl rfl (PV.pick rfl rfl rfl) ?_
        refine TL.nil ?_
        refine TE.next hK3 ?_
        clear hK3
        refine TC.yes rfl ?_
        refine TC.seq (fun K6 hK6 => ?_)
        refine TC.region ?_
        refine TL.v (Want.plain rfl) rfl rfl (PV.assign rfl rfl) ?_
        refine TL.nil ?_
        refine TE.next hK6 ?_
        clear hK6
        refine TC.ret ?_
        refine TE.passRet ?_
        clear hK2
        refine TE.weak (Sub.refl _) (fun _ s => sep_keep [] rfl s) ?_
        refine TE.ret1 rfl rfl ?_
        refine ⟨congrArg Value.bool ?_, rfl⟩
        symm
        rw [rightV, Bool.eq_false_iff]
        intro h
        rw [Bool.and_eq_true, decide_eq_true_iff, decide_eq_true_iff] at h
        omega
      · skip
        refine TL.v (Want.plain rfl) rfl rfl (PV.pick rfl rfl rfl) ?_
        refine TL.nil ?_
        refine TE.next hK3 ?_
        clear hK3
        refine TC.no rfl ?_
        refine TC.skip ?_
        refine TE.next hK2 ?_
        clear hK2
        refine TC.seq (fun K7 hK7 => ?_)
        refine TC.seq (fun K8 hK8 => ?_)
        refine TC.region ?_
        refine TL.v (Want.plain rfl) rfl rfl (PV.fieldAddr (r := 2) rfl Try.underlying25 rfl sz23 rfl rfl) ?_
        refine TL.v (Want.plain rfl) rfl rfl (PV.loadN (vs := ints v.heirs.toList) rfl Try.underlying23 rfl sz23 rfl (Rd.own 0 rfl rfl) (vi5_len v.heirs) (ViewT.sub_heirs v 0 rfl (by decide) (whole (vi5_len v.heirs)))) ?_
        refine TL.v (Want.plain rfl) rfl rfl (PV.move rfl rfl) ?_
        refine TL.nil ?_
        refine TE.next hK8 ?_
        clear hK8
        refine TC.block ?_
        refine TC.loop (α := (Nat)) (fun i => i ≤ 5 ∧ ∀ (j : Nat) (h : j < 5), j < i → okH v v.heirs[j] j = true) (fun i => [(1, (.pointer (some ⟨b1, 0, none⟩))), (19, (.agg (ints v.heirs.toList).toArray)), (20, (.int .i64 (((i : Nat) : Int))))]) (fun i => [blkA b1 (ints v.flat) 25]) (fun i => 5 - i) 0
            ⟨Nat.zero_le _, fun j h hj => absurd hj (by omega)⟩ (Sub.r (Sub.r (Sub.cons rfl (by congr 1) (Sub.nil _))))
            (fun _ s => s) (fun i hinv => ?_)
        obtain ⟨hi, ho⟩ := hinv
        have hhi := fun h : i < 5 => hh i h
        refine TC.seq (fun K9 hK9 => ?_)
        refine TC.region ?_
        refine TL.v (Want.plain rfl) rfl rfl (PV.lss rfl rfl rfl) ?_
        refine TL.dec (fun h21 => ?_) (fun h21 => ?_)
        · skip
          replace hhi := hhi (by omega)
          refine TL.nil ?_
          refine TE.next hK9 ?_
          clear hK9
          refine TC.seq (fun K10 hK10 => ?_)
          refine TC.yes rfl ?_
          refine TC.skip ?_
          refine TE.next hK10 ?_
          clear hK10
          refine TC.seq (fun K11 hK11 => ?_)
          refine TC.block ?_
          refine TC.seq (fun K12 hK12 => ?_)
          refine TC.region ?_
          refine TL.v (Want.plain rfl) rfl rfl (PV.move rfl rfl) ?_
          refine TL.v (Want.plain rfl) rfl rfl (PV.index1 (cs := ints v.heirs.toList) (v := .int .i64 (v.heirs[i]'(by omega))) (r := i) rfl Try.underlying23 Try.underlying3 rfl sz3 rfl rfl (by omega) (by omega) (by omega) (vi_at v.heirs (by omega))) ?_
          refine TL.v (Want.plain rfl) rfl rfl (PV.assign rfl rfl) ?_
          refine TL.v (Want.plain rfl) rfl rfl (PV.assign rfl rfl) ?_
          refine TL.nil ?_
          refine TE.next hK12 ?_
          clear hK12
          refine TC.seq (fun K13 hK13 => ?_)
          refine TC.region ?_
          refine TL.v (Want.plain rfl) rfl rfl (PV.move rfl rfl) ?_
          refine TL.v (Want.plain rfl) rfl rfl (PV.neq rfl rfl rfl) ?_
          refine TL.dec (fun h25 => ?_) (fun h25 => ?_)
          · skip
            refine TL.v (Want.plain rfl) rfl rfl (PV.move rfl rfl) ?_
            refine TL.v (Want.met rfl rfl rfl) rfl rfl (PV.loadN (vs := ints v.flat) rfl Try.underlying25 rfl sz25 rfl (Rd.own 0 rfl rfl) (ViewT.len v) (whole (ViewT.len v))) ?_
            refine TL.v (Want.met rfl rfl rfl) rfl rfl (PV.move rfl rfl) ?_
            refine TL.v (Want.met rfl rfl rfl) rfl rfl (PV.sub rfl rfl rfl (wrap_i64 (by omega) (by omega))) ?_
            refine TL.callR (A := []) (B := [blkA b1 (ints v.flat) 25]) (Want.met rfl rfl rfl) rfl rfl rfl nm34 rfl (member_does v ((v.heirs[i]'(by omega)) - 1)) (fun _ s => s) (fun _ _ _ => trivial) (fun vR HR hR => ?_)
            obtain ⟨rfl, rfl⟩ := hR
            change TL _ _ _ _ _ _ _ _ _ [blkA b1 (ints v.flat) 25]
            refine TL.decB (fun h30 => ?_) (fun h30 => ?_)
            · skip
              refine TL.v (Want.met rfl rfl rfl) rfl rfl (PV.not (r := false) rfl rfl rfl) ?_
              refine TL.v (Want.met rfl rfl rfl) rfl rfl (PV.move rfl rfl) ?_
              refine TL.v (Want.met rfl rfl rfl) rfl rfl (PV.loadN (vs := ints v.flat) rfl Try.underlying25 rfl sz25 rfl (Rd.own 0 rfl rfl) (ViewT.len v) (whole (ViewT.len v))) ?_
              refine TL.v (Want.met rfl rfl rfl) rfl rfl (PV.move rfl rfl) ?_
              refine TL.callR (A := []) (B := [blkA b1 (ints v.flat) 25]) (Want.met rfl rfl rfl) rfl rfl rfl nm34 rfl (member_does v ((i : Nat) : Int)) (fun _ s => s) (fun _ _ _ => trivial) (fun vR HR hR => ?_)
              obtain ⟨rfl, rfl⟩ := hR
              change TL _ _ _ _ _ _ _ _ _ [blkA b1 (ints v.flat) 25]
              refine TL.decB (fun h35 => ?_) (fun h35 => ?_)
              · skip
                refine TL.v (Want.met rfl rfl rfl) rfl rfl (PV.pick rfl rfl rfl) ?_
                refine TL.v (Want.plain rfl) rfl rfl (PV.pick rfl rfl rfl) ?_
                refine TL.nil ?_
                refine TE.next hK13 ?_
                clear hK13
                refine TC.yes rfl ?_
                refine TC.seq (fun K14 hK14 => ?_)
                refine TC.region ?_
                refine TL.v (Want.plain rfl) rfl rfl (PV.assign rfl rfl) ?_
                refine TL.nil ?_
                refine TE.next hK14 ?_
                clear hK14
                refine TC.ret ?_
                refine TE.blockRet ?_
                refine TE.passRet ?_
                clear hK11
                refine TE.passRet ?_
                refine TE.blockRet ?_
                refine TE.passRet ?_
                clear hK7
                refine TE.weak (Sub.refl _) (fun _ s => sep_keep [] rfl s) ?_
                refine TE.ret1 rfl rfl ?_
                refine ⟨congrArg Value.bool ?_, rfl⟩
                symm
                rw [rightV, Bool.eq_false_iff]
                intro h
                rw [Bool.and_eq_true, decide_eq_true_iff, decide_eq_true_iff] at h
                have h := h.2 i (by omega)
                unfold okH at h
                rw [Bool.or_eq_true, decide_eq_true_iff, Bool.and_eq_true] at h
                rw [h35] at h; exact h.elim h25 fun q => absurd q.2 (by decide)
              · skip
                refine TL.v (Want.met rfl rfl rfl) rfl rfl (PV.pick rfl rfl rfl) ?_
                refine TL.v (Want.plain rfl) rfl rfl (PV.pick rfl rfl rfl) ?_
                refine TL.nil ?_
                refine TE.next hK13 ?_
                clear hK13
                refine TC.no rfl ?_
                refine TC.skip ?_
                refine TE.blockEnd ?_
                refine TE.next hK11 ?_
                clear hK11
                refine TC.region ?_
                refine TL.v (Want.plain rfl) rfl rfl (PV.add rfl rfl rfl (wrap_i64 (by omega) (by omega))) ?_
                refine TL.v (Want.plain rfl) rfl rfl (PV.move rfl rfl) ?_
                refine TL.nil ?_
                exact TE.round ((i + 1) : (Nat)) ⟨by omega, fun j h hj => by
        by_cases q : j = i
        · subst q; unfold okH; simp_all
        · exact ho j h (by omega)⟩ (by show 5 - (i + 1) < 5 - i; omega)
                  (Sub.r (Sub.r (Sub.cons rfl (by simp) (Sub.nil _))))
                  (fun _ s => s)
            · skip
              refine TL.v (Want.met rfl rfl rfl) rfl rfl (PV.not (r := true) rfl rfl rfl) ?_
              refine TL.v (Want.met rfl rfl rfl) rfl rfl (PV.move rfl rfl) ?_
              refine TL.unmet (b := true) rfl rfl rfl rfl (lb rfl) ?_
              refine TL.unmet (b := true) rfl rfl rfl rfl (lb rfl) ?_
              refine TL.unmet (b := true) rfl rfl rfl rfl (lb rfl) ?_
              refine TL.v (Want.met rfl rfl rfl) rfl rfl (PV.pick rfl rfl rfl) ?_
              refine TL.v (Want.plain rfl) rfl rfl (PV.pick rfl rfl rfl) ?_
              refine TL.nil ?_
              refine TE.next hK13 ?_
              clear hK13
              refine TC.yes rfl ?_
              refine TC.seq (fun K15 hK15 => ?_)
              refine TC.region ?_
              refine TL.v (Want.plain rfl) rfl rfl (PV.assign rfl rfl) ?_
              refine TL.nil ?_
              refine TE.next hK15 ?_
              clear hK15
              refine TC.ret ?_
              refine TE.blockRet ?_
              refine TE.passRet ?_
              clear hK11
              refine TE.passRet ?_
              refine TE.blockRet ?_
              refine TE.passRet ?_
              clear hK7
              refine TE.weak (Sub.refl _) (fun _ s => sep_keep [] rfl s) ?_
              refine TE.ret1 rfl rfl ?_
              refine ⟨congrArg Value.bool ?_, rfl⟩
              symm
              rw [rightV, Bool.eq_false_iff]
              intro h
              rw [Bool.and_eq_true, decide_eq_true_iff, decide_eq_true_iff] at h
              have h := h.2 i (by omega)
              unfold okH at h
              rw [Bool.or_eq_true, decide_eq_true_iff, Bool.and_eq_true] at h
              rw [h30] at h; exact h.elim h25 fun q => absurd q.1 (by decide)
          · skip
            refine TL.v (Want.plain rfl) rfl rfl (PV.move rfl rfl) ?_
            refine TL.unmet (b := false) rfl rfl rfl rfl (lb rfl) ?_
            refine TL.unmet (b := false) rfl rfl rfl rfl (lb rfl) ?_
            refine TL.unmet (b := false) rfl rfl rfl rfl (lb rfl) ?_
            refine TL.unmet (b := false) rfl rfl rfl rfl (lb rfl) ?_
            refine TL.unmet (b := false) rfl rfl rfl rfl (lb rfl) ?_
            refine TL.unmet (b := false) rfl rfl rfl rfl (lb rfl) ?_
            refine TL.unmetU rfl rfl rfl rfl (lb rfl) ?_
            refine TL.unmetU rfl rfl rfl rfl (lb rfl) ?_
            refine TL.unmetU rfl rfl rfl rfl (lb rfl) ?_
            refine TL.unmet (b := false) rfl rfl rfl rfl (lb rfl) ?_
            refine TL.v (Want.plain rfl) rfl rfl (PV.pick rfl rfl rfl) ?_
            refine TL.nil ?_
            refine TE.next hK13 ?_
            clear hK13
            refine TC.no rfl ?_
            refine TC.skip ?_
            refine TE.blockEnd ?_
            refine TE.next hK11 ?_
            clear hK11
            refine TC.region ?_
            refine TL.v (Want.plain rfl) rfl rfl (PV.add rfl rfl rfl (wrap_i64 (by omega) (by omega))) ?_
            refine TL.v (Want.plain rfl) rfl rfl (PV.move rfl rfl) ?_
            refine TL.nil ?_
            exact TE.round ((i + 1) : (Nat)) ⟨by omega, fun j h hj => by
        by_cases q : j = i
        · subst q; unfold okH; simp_all
        · exact ho j h (by omega)⟩ (by show 5 - (i + 1) < 5 - i; omega)
              (Sub.r (Sub.r (Sub.cons rfl (by simp) (Sub.nil _))))
              (fun _ s => s)
        · skip
          refine TL.nil ?_
          refine TE.next hK9 ?_
          clear hK9
          refine TC.seq (fun K16 hK16 => ?_)
          refine TC.no rfl ?_
          refine TC.exit ?_
          refine TE.pass ?_
          clear hK16
          refine TE.pass ?_
          refine TE.hit ?_
          refine TE.next hK7 ?_
          clear hK7
          refine TC.seq (fun K17 hK17 => ?_)
          refine TC.region ?_
          refine TL.v (Want.plain rfl) rfl rfl (PV.assign rfl rfl) ?_
          refine TL.nil ?_
          refine TE.next hK17 ?_
          clear hK17
          refine TC.ret ?_
          refine TE.weak (Sub.refl _) (fun _ s => sep_keep [] rfl s) ?_
          refine TE.ret1 rfl rfl ?_
          exact ⟨congrArg Value.bool (by symm; rw [rightV, Bool.and_eq_true, decide_eq_true_iff, decide_eq_true_iff]; exact ⟨by omega, fun j h => ho j h (by omega)⟩), rfl⟩


theorem heir_does (v : ViewT) (w : Int) (hh : Rng v) :
    Does Try.prog 56 #[(.agg (ints v.flat).toArray), (.int .i64 (w))] (fun _ => True) [] (Ret (fun r' H => r' = .tuple #[.int .i64 ((heirV v w).getD 0), .bool (heirV v w).isSome] ∧ H = [])) := by
  refine Does.body (vs := [(.agg (ints v.flat).toArray), (.int .i64 (w))]) (n := 21) Try.func56 rfl rfl rfl (fun w0 F hF => ?_)
  refine TC.seq (fun K1 hK1 => ?_)
  refine TC.region ?_
  refine TL.box (Want.plain rfl) rfl rfl rfl rfl (fun b2 => ?_)
  change TL _ _ _ _ _ _ _ _ _ [blkA b2 (ints v.flat) 25]
  refine TL.v (Want.plain rfl) rfl rfl (PV.assign rfl rfl) ?_
  refine TL.v (Want.plain rfl) rfl rfl (PV.assign rfl rfl) ?_
  refine TL.nil ?_
  refine TE.next hK1 ?_
  clear hK1
  refine TC.seq (fun K2 hK2 => ?_)
  refine TC.seq (fun K3 hK3 => ?_)
  refine TC.region ?_
  refine TL.v (Want.plain rfl) rfl rfl (PV.move rfl rfl) ?_
  refine TL.callR (A := []) (B := [blkA b2 (ints v.flat) 25]) (Want.plain rfl) rfl rfl rfl nm53 rfl (vmachine_does w) (fun _ s => s) (fun _ _ _ => trivial) (fun vR HR hR => ?_)
  obtain ⟨rfl, rfl⟩ := hR
  change TL _ _ _ _ _ _ _ _ _ [blkA b2 (ints v.flat) 25]
  refine TL.decB (fun h7 => ?_) (fun h7 => ?_)
  · skip
    have hm : 0 ≤ w ∧ w < 5 := of_decide_eq_true h7
    have hb := hh w.toNat (by omega)
    refine TL.v (Want.plain rfl) rfl rfl (PV.not (r := false) rfl rfl rfl) ?_
    refine TL.v (Want.plain rfl) rfl rfl (PV.move rfl rfl) ?_
    refine TL.v (Want.met rfl rfl rfl) rfl rfl (PV.move rfl rfl) ?_
    refine TL.v (Want.met rfl rfl rfl) rfl rfl (PV.fieldAddr (r := 2) rfl Try.underlying25 rfl sz23 rfl rfl) ?_
    refine TL.v (Want.met rfl rfl rfl) rfl rfl (PV.indexArr (r := 2 + w.toNat) rfl Try.underlying23 sz3 rfl rfl (by omega) (by omega) (by omega)) ?_
    refine TL.v (Want.met rfl rfl rfl) rfl rfl (PV.load1 (v := (.int .i64 ((v.heirs[w.toNat]'(by omega))))) rfl Try.underlying3 rfl rfl (Rd.own 0 rfl rfl) (ViewT.pt_heirs v (w.toNat) (by omega) (by omega) (vi_at v.heirs (by omega)))) ?_
    refine TL.v (Want.met rfl rfl rfl) rfl rfl (PV.lss rfl rfl rfl) ?_
    refine TL.dec (fun h14 => ?_) (fun h14 => ?_)
    · skip
      refine TL.v (Want.plain rfl) rfl rfl (PV.pick rfl rfl rfl) ?_
      refine TL.nil ?_
      refine TE.next hK3 ?_
      clear hK3
      refine TC.yes rfl ?_
      refine TC.seq (fun K4 hK4 => ?_)
      refine TC.region ?_
      refine TL.v (Want.plain rfl) rfl rfl (PV.assign rfl rfl) ?_
      refine TL.v (Want.plain rfl) rfl rfl (PV.assign rfl rfl) ?_
      refine TL.nil ?_
      refine TE.next hK4 ?_
      clear hK4
      refine TC.ret ?_
      refine TE.passRet ?_
      clear hK2
      refine TE.weak (Sub.refl _) (fun _ s => sep_keep [] rfl s) ?_
      refine TE.ret2 rfl rfl rfl ?_
      exact ⟨by rw [heirV, dif_pos hm, if_pos h14]; rfl, rfl⟩
    · skip
      refine TL.v (Want.plain rfl) rfl rfl (PV.pick rfl rfl rfl) ?_
      refine TL.nil ?_
      refine TE.next hK3 ?_
      clear hK3
      refine TC.no rfl ?_
      refine TC.skip ?_
      refine TE.next hK2 ?_
      clear hK2
      refine TC.seq (fun K5 hK5 => ?_)
      refine TC.region ?_
      refine TL.v (Want.plain rfl) rfl rfl (PV.move rfl rfl) ?_
      refine TL.v (Want.plain rfl) rfl rfl (PV.fieldAddr (r := 2) rfl Try.underlying25 rfl sz23 rfl rfl) ?_
      refine TL.v (Want.plain rfl) rfl rfl (PV.indexArr (r := 2 + w.toNat) rfl Try.underlying23 sz3 rfl rfl (by omega) (by omega) (by omega)) ?_
      refine TL.v (Want.plain rfl) rfl rfl (PV.load1 (v := (.int .i64 ((v.heirs[w.toNat]'(by omega))))) rfl Try.underlying3 rfl rfl (Rd.own 0 rfl rfl) (ViewT.pt_heirs v (w.toNat) (by omega) (by omega) (vi_at v.heirs (by omega)))) ?_
      refine TL.v (Want.plain rfl) rfl rfl (PV.sub rfl rfl rfl (wrap_i64 (by omega) (by omega))) ?_
      refine TL.v (Want.plain rfl) rfl rfl (PV.assign rfl rfl) ?_
      refine TL.v (Want.plain rfl) rfl rfl (PV.assign rfl rfl) ?_
      refine TL.nil ?_
      refine TE.next hK5 ?_
      clear hK5
      refine TC.ret ?_
      refine TE.weak (Sub.refl _) (fun _ s => sep_keep [] rfl s) ?_
      refine TE.ret2 rfl rfl rfl ?_
      exact ⟨by rw [heirV, dif_pos hm, if_neg h14]; rfl, rfl⟩
  · skip
    refine TL.v (Want.plain rfl) rfl rfl (PV.not (r := true) rfl rfl rfl) ?_
    refine TL.v (Want.plain rfl) rfl rfl (PV.move rfl rfl) ?_
    refine TL.unmet (b := true) rfl rfl rfl rfl (lb rfl) ?_
    refine TL.unmet (b := true) rfl rfl rfl rfl (lb rfl) ?_
    refine TL.unmet (b := true) rfl rfl rfl rfl (lb rfl) ?_
    refine TL.unmet (b := true) rfl rfl rfl rfl (lb rfl) ?_
    refine TL.unmet (b := true) rfl rfl rfl rfl (lb rfl) ?_
    refine TL.v (Want.plain rfl) rfl rfl (PV.pick rfl rfl rfl) ?_
    refine TL.nil ?_
    refine TE.next hK3 ?_
    clear hK3
    refine TC.yes rfl ?_
    refine TC.seq (fun K6 hK6 => ?_)
    refine TC.region ?_
    refine TL.v (Want.plain rfl) rfl rfl (PV.assign rfl rfl) ?_
    refine TL.v (Want.plain rfl) rfl rfl (PV.assign rfl rfl) ?_
    refine TL.nil ?_
    refine TE.next hK6 ?_
    clear hK6
    refine TC.ret ?_
    refine TE.passRet ?_
    clear hK2
    refine TE.weak (Sub.refl _) (fun _ s => sep_keep [] rfl s) ?_
    refine TE.ret2 rfl rfl rfl ?_
    exact ⟨by rw [heirV, dif_neg (of_decide_eq_false h7)]; rfl, rfl⟩


theorem next_does (v : ViewT) (c : ChangeT) (hh : Rng v) :
    Does Try.prog 42 #[(.agg (ints v.flat).toArray), (.agg (ints c.flat).toArray)] (fun _ => True) [] (Ret (fun r' H => r' = .tuple #[.agg (ints (nextV v c).1.flat).toArray, .int .i64 (nextV v c).2] ∧ H = [])) := by
  refine Does.body (vs := [(.agg (ints v.flat).toArray), (.agg (ints c.flat).toArray)]) (n := 106) Try.func42 rfl rfl rfl (fun w0 F hF => ?_)
  refine TC.seq (fun K1 hK1 => ?_)
  refine TC.region ?_
  refine TL.box (Want.plain rfl) rfl rfl rfl rfl (fun b2 => ?_)
  change TL _ _ _ _ _ _ _ _ _ [blkA b2 (ints v.flat) 25]
  refine TL.box (Want.plain rfl) rfl rfl rfl rfl (fun b3 => ?_)
  change TL _ _ _ _ _ _ _ _ _ [blkA b3 (ints c.flat) 42, blkA b2 (ints v.flat) 25]
  refine TL.alloc (Want.plain rfl) rfl rfl rfl z25 (fun b4 => ?_)
  change TL _ _ _ _ _ _ _ _ _ [blkA b4 (ints ViewT.zero.flat) 25, blkA b3 (ints c.flat) 42, blkA b2 (ints v.flat) 25]
  refine TL.v (Want.plain rfl) rfl rfl (PV.assign rfl rfl) ?_
  refine TL.nil ?_
  refine TE.next hK1 ?_
  clear hK1
  refine TC.seq (fun K2 hK2 => ?_)
  refine TC.seq (fun K3 hK3 => ?_)
  refine TC.region ?_
  refine TL.v (Want.plain rfl) rfl rfl (PV.fieldAddr (r := 1) rfl Try.underlying42 rfl sz3 rfl rfl) ?_
  refine TL.v (Want.plain rfl) rfl rfl (PV.load1 (v := (.int .i64 (c.who))) rfl Try.underlying3 rfl rfl (Rd.own 1 rfl rfl) (ChangeT.at_who c rfl)) ?_
  refine TL.callR (A := []) (B := [blkA b4 (ints ViewT.zero.flat) 25, blkA b3 (ints c.flat) 42, blkA b2 (ints v.flat) 25]) (Want.plain rfl) rfl rfl rfl nm53 rfl (vmachine_does c.who) (fun _ s => s) (fun _ _ _ => trivial) (fun vR HR hR => ?_)
  obtain ⟨rfl, rfl⟩ := hR
  change TL _ _ _ _ _ _ _ _ _ [blkA b4 (ints ViewT.zero.flat) 25, blkA b3 (ints c.flat) 42, blkA b2 (ints v.flat) 25]
  refine TL.decB (fun h12 => ?_) (fun h12 => ?_)
  · skip
    have hm1 : 0 ≤ c.who ∧ c.who < 5 := of_decide_eq_true h12
    refine TL.v (Want.plain rfl) rfl rfl (PV.not (r := false) rfl rfl rfl) ?_
    refine TL.v (Want.plain rfl) rfl rfl (PV.move rfl rfl) ?_
    refine TL.v (Want.met rfl rfl rfl) rfl rfl (PV.fieldAddr (r := 2) rfl Try.underlying42 rfl sz3 rfl rfl) ?_
    refine TL.v (Want.met rfl rfl rfl) rfl rfl (PV.load1 (v := (.int .i64 (c.heir))) rfl Try.underlying3 rfl rfl (Rd.own 1 rfl rfl) (ChangeT.at_heir c rfl)) ?_
    refine TL.callR (A := []) (B := [blkA b4 (ints ViewT.zero.flat) 25, blkA b3 (ints c.flat) 42, blkA b2 (ints v.flat) 25]) (Want.met rfl rfl rfl) rfl rfl rfl nm53 rfl (vmachine_does c.heir) (fun _ s => s) (fun _ _ _ => trivial) (fun vR HR hR => ?_)
    obtain ⟨rfl, rfl⟩ := hR
    change TL _ _ _ _ _ _ _ _ _ [blkA b4 (ints ViewT.zero.flat) 25, blkA b3 (ints c.flat) 42, blkA b2 (ints v.flat) 25]
    refine TL.decB (fun h17 => ?_) (fun h17 => ?_)
    · skip
      have hm2 : 0 ≤ c.heir ∧ c.heir < 5 := of_decide_eq_true h17
      refine TL.v (Want.met rfl rfl rfl) rfl rfl (PV.not (r := false) rfl rfl rfl) ?_
      refine TL.v (Want.plain rfl) rfl rfl (PV.pick rfl rfl rfl) ?_
      refine TL.nil ?_
      refine TE.next hK3 ?_
      clear hK3
      refine TC.no rfl ?_
      refine TC.skip ?_
      refine TE.next hK2 ?_
      clear hK2
      refine TC.seq (fun K4 hK4 => ?_)
      refine TC.seq (fun K5 hK5 => ?_)
      refine TC.region ?_
      refine TL.v (Want.plain rfl) rfl rfl (PV.fieldAddr (r := 0) rfl Try.underlying42 rfl sz3 rfl rfl) ?_
      refine TL.v (Want.plain rfl) rfl rfl (PV.load1 (v := (.int .i64 (c.kind))) rfl Try.underlying3 rfl rfl (Rd.own 1 rfl rfl) (ChangeT.at_kind c rfl)) ?_
      refine TL.nil ?_
      refine TE.next hK5 ?_
      clear hK5
      refine TC.block ?_
      refine TC.seq (fun K6 hK6 => ?_)
      refine TC.region ?_
      refine TL.v (Want.plain rfl) rfl rfl (PV.eql rfl rfl rfl) ?_
      refine TL.dec (fun h25 => ?_) (fun h25 => ?_)
      · skip
        refine TL.v (Want.plain rfl) rfl rfl (PV.assign rfl rfl) ?_
        refine TL.nil ?_
        refine TE.next hK6 ?_
        clear hK6
        refine TC.yes rfl ?_
        refine TC.seq (fun K7 hK7 => ?_)
        refine TC.seq (fun K8 hK8 => ?_)
        refine TC.region ?_
        refine TL.v (Want.plain rfl) rfl rfl (PV.loadN (vs := ints v.flat) rfl Try.underlying25 rfl sz25 rfl (Rd.own 2 rfl rfl) (ViewT.len v) (whole (ViewT.len v))) ?_
        refine TL.v (Want.plain rfl) rfl rfl (PV.fieldAddr (r := 1) rfl Try.underlying42 rfl sz3 rfl rfl) ?_
        refine TL.v (Want.plain rfl) rfl rfl (PV.load1 (v := (.int .i64 (c.who))) rfl Try.underlying3 rfl rfl (Rd.own 1 rfl rfl) (ChangeT.at_who c rfl)) ?_
        refine TL.callR (A := []) (B := [blkA b4 (ints ViewT.zero.flat) 25, blkA b3 (ints c.flat) 42, blkA b2 (ints v.flat) 25]) (Want.plain rfl) rfl rfl rfl nm56 rfl (heir_does v c.who hh) (fun _ s => s) (fun _ _ _ => trivial) (fun vR HR hR => ?_)
        obtain ⟨rfl, rfl⟩ := hR
        change TL _ _ _ _ _ _ _ _ _ [blkA b4 (ints ViewT.zero.flat) 25, blkA b3 (ints c.flat) 42, blkA b2 (ints v.flat) 25]
        refine TL.v (Want.plain rfl) rfl rfl (PV.move rfl rfl) ?_
        refine TL.v (Want.plain rfl) rfl rfl (PV.extract (vs := [(.int .i64 (((heirV v c.who).getD 0))), (.bool ((heirV v c.who).isSome))]) rfl rfl rfl) ?_
        refine TL.v (Want.plain rfl) rfl rfl (PV.extract (vs := [(.int .i64 (((heirV v c.who).getD 0))), (.bool ((heirV v c.who).isSome))]) rfl rfl rfl) ?_
        refine TL.decB (fun h32 => ?_) (fun h32 => ?_)
        · skip
          refine TL.v (Want.plain rfl) rfl rfl (PV.assign rfl rfl) ?_
          refine TL.v (Want.plain rfl) rfl rfl (PV.assign rfl rfl) ?_
          refine TL.nil ?_
          refine TE.next hK8 ?_
          clear hK8
          refine TC.seq (fun K9 hK9 => ?_)
          refine TC.region ?_
          refine TL.v (Want.plain rfl) rfl rfl (PV.move rfl rfl) ?_
          refine TL.v (Want.plain rfl) rfl rfl (PV.move rfl rfl) ?_
          refine TL.unmet (b := true) rfl rfl rfl rfl (lb rfl) ?_
          refine TL.unmet (b := true) rfl rfl rfl rfl (lb rfl) ?_
          refine TL.unmet (b := true) rfl rfl rfl rfl (lb rfl) ?_
          refine TL.unmet (b := true) rfl rfl rfl rfl (lb rfl) ?_
          refine TL.v (Want.plain rfl) rfl rfl (PV.pick rfl rfl rfl) ?_
          refine TL.nil ?_
          refine TE.next hK9 ?_
          clear hK9
          refine TC.yes rfl ?_
          refine TC.seq (fun K10 hK10 => ?_)
          refine TC.region ?_
          refine TL.v (Want.plain rfl) rfl rfl (PV.build (cells := (ints ViewT.zero.flat).toArray) rfl rfl (by as_aux_lemma => kernel_rfl)) ?_
          refine TL.store (vs := ints ViewT.zero.flat) (i := 0) (H' := [blkA b4 (ints ViewT.zero.flat) 25, blkA b3 (ints c.flat) 42, blkA b2 (ints v.flat) 25]) (Want.plain rfl) rfl rfl rfl rfl rfl (by rw [(ViewT.len ViewT.zero)]; exact sz25) (ints_one _) rfl rfl (by have h0 := (ViewT.len ViewT.zero); have h1 := (ViewT.len ViewT.zero); omega) (wwhole ((ViewT.len ViewT.zero).trans (ViewT.len ViewT.zero).symm)) rfl ?_
          refine TL.v (Want.plain rfl) rfl rfl (PV.assign rfl rfl) ?_
          refine TL.nil ?_
          refine TE.next hK10 ?_
          clear hK10
          refine TC.ret ?_
          refine TE.passRet ?_
          clear hK7
          refine TE.blockRet ?_
          refine TE.passRet ?_
          clear hK4
          refine TE.retCT (H' := []) rfl rfl rfl Try.underlying25 rfl sz25 (Rd.own 0 rfl rfl) (ViewT.len ViewT.zero) (fun _ s => sep_keep [] rfl s) ?_
          exact ⟨by simp_all [nextV], rfl⟩
        · skip
          refine TL.v (Want.plain rfl) rfl rfl (PV.assign rfl rfl) ?_
          refine TL.v (Want.plain rfl) rfl rfl (PV.assign rfl rfl) ?_
          refine TL.nil ?_
          refine TE.next hK8 ?_
          clear hK8
          refine TC.seq (fun K11 hK11 => ?_)
          refine TC.region ?_
          refine TL.v (Want.plain rfl) rfl rfl (PV.move rfl rfl) ?_
          refine TL.v (Want.plain rfl) rfl rfl (PV.move rfl rfl) ?_
          refine TL.v (Want.met rfl rfl rfl) rfl rfl (PV.loadN (vs := ints v.flat) rfl Try.underlying25 rfl sz25 rfl (Rd.own 2 rfl rfl) (ViewT.len v) (whole (ViewT.len v))) ?_
          refine TL.v (Want.met rfl rfl rfl) rfl rfl (PV.fieldAddr (r := 1) rfl Try.underlying42 rfl sz3 rfl rfl) ?_
          refine TL.v (Want.met rfl rfl rfl) rfl rfl (PV.load1 (v := (.int .i64 (c.who))) rfl Try.underlying3 rfl rfl (Rd.own 1 rfl rfl) (ChangeT.at_who c rfl)) ?_
          refine TL.callR (A := []) (B := [blkA b4 (ints ViewT.zero.flat) 25, blkA b3 (ints c.flat) 42, blkA b2 (ints v.flat) 25]) (Want.met rfl rfl rfl) rfl rfl rfl nm34 rfl (member_does v c.who) (fun _ s => s) (fun _ _ _ => trivial) (fun vR HR hR => ?_)
          obtain ⟨rfl, rfl⟩ := hR
          change TL _ _ _ _ _ _ _ _ _ [blkA b4 (ints ViewT.zero.flat) 25, blkA b3 (ints c.flat) 42, blkA b2 (ints v.flat) 25]
          refine TL.decB (fun h38 => ?_) (fun h38 => ?_)
          · skip
            refine TL.v (Want.plain rfl) rfl rfl (PV.pick rfl rfl rfl) ?_
            refine TL.nil ?_
            refine TE.next hK11 ?_
            clear hK11
            refine TC.yes rfl ?_
            refine TC.seq (fun K12 hK12 => ?_)
            refine TC.region ?_
            refine TL.v (Want.plain rfl) rfl rfl (PV.build (cells := (ints ViewT.zero.flat).toArray) rfl rfl (by as_aux_lemma => kernel_rfl)) ?_
            refine TL.store (vs := ints ViewT.zero.flat) (i := 0) (H' := [blkA b4 (ints ViewT.zero.flat) 25, blkA b3 (ints c.flat) 42, blkA b2 (ints v.flat) 25]) (Want.plain rfl) rfl rfl rfl rfl rfl (by rw [(ViewT.len ViewT.zero)]; exact sz25) (ints_one _) rfl rfl (by have h0 := (ViewT.len ViewT.zero); have h1 := (ViewT.len ViewT.zero); omega) (wwhole ((ViewT.len ViewT.zero).trans (ViewT.len ViewT.zero).symm)) rfl ?_
            refine TL.v (Want.plain rfl) rfl rfl (PV.assign rfl rfl) ?_
            refine TL.nil ?_
            refine TE.next hK12 ?_
            clear hK12
            refine TC.ret ?_
            refine TE.passRet ?_
            clear hK7
            refine TE.blockRet ?_
            refine TE.passRet ?_
            clear hK4
            refine TE.retCT (H' := []) rfl rfl rfl Try.underlying25 rfl sz25 (Rd.own 0 rfl rfl) (ViewT.len ViewT.zero) (fun _ s => sep_keep [] rfl s) ?_
            exact ⟨by simp_all [nextV], rfl⟩
          · skip
            refine TL.v (Want.plain rfl) rfl rfl (PV.pick rfl rfl rfl) ?_
            refine TL.nil ?_
            refine TE.next hK11 ?_
            clear hK11
            refine TC.no rfl ?_
            refine TC.skip ?_
            refine TE.next hK7 ?_
            clear hK7
            refine TC.draw (fun w => Frm F w ∧ w.heap[b3]? = some (.cells (ints c.flat).toArray 42 (0, 0)) ∧ True) mixed rfl (fun _ s => ⟨Frm.of s, s.block 1 (lb rfl) rfl, trivial⟩) ?_
            refine TD.take (i := 0) rfl (by kernel_rfl) (by kernel_rfl) (by kernel_rfl) (fun _ _ _ _ h => h) (Want.plain rfl) rfl rfl (PV.fieldAddr (r := 1) rfl Try.underlying25 rfl sz3 rfl rfl) ?_
            refine TD.take (i := 2) rfl (by kernel_rfl) (by kernel_rfl) (by kernel_rfl) (fun _ _ _ _ h => h) (Want.plain rfl) rfl rfl (PV.fieldAddr (r := 1) rfl Try.underlying42 rfl sz3 rfl rfl) ?_
            refine TD.take (i := 3) rfl (by kernel_rfl) (by kernel_rfl) (by kernel_rfl) (fun _ _ _ _ h => h) (Want.plain rfl) rfl rfl (PV.load1 (v := (.int .i64 (c.who))) rfl Try.underlying3 rfl rfl (fun _ h => h.2.1) (ChangeT.at_who c rfl)) ?_
            refine TD.take (i := 4) rfl (by kernel_rfl) (by kernel_rfl) (by kernel_rfl) (fun _ _ _ _ h => h) (Want.plain rfl) rfl rfl (PV.shl (r := (2 ^ c.who.toNat)) rfl rfl rfl (by omega) (shl_one hm1)) ?_
            refine TD.all [1] (by kernel_rfl) rfl ?_
            refine AllT.cons rfl ?_ ?_
            · skip
              refine TL.v (Want.plain rfl) rfl rfl (PV.load1 (v := (.int .i64 (v.members))) rfl Try.underlying3 rfl rfl (Rd.own 2 rfl rfl) (ViewT.at_members v rfl)) ?_
              refine TL.nil ?_
              refine TE.draw (fun _ s => ⟨Frm.of s, s.block 1 (lb rfl) rfl, trivial⟩) ?_
              refine TD.take (i := 5) rfl (by kernel_rfl) (by kernel_rfl) (by kernel_rfl) (fun _ _ _ _ h => h) (Want.plain rfl) rfl rfl (PV.or (r := (orI .i64 v.members (2 ^ c.who.toNat))) rfl rfl rfl rfl) ?_
              refine TD.take (i := 6) rfl (by kernel_rfl) (by kernel_rfl) (by kernel_rfl) (fun _ _ _ _ h => h) (Want.plain rfl) rfl rfl (PV.fieldAddr (r := 1) rfl Try.underlying25 rfl sz3 rfl rfl) ?_
              refine TD.all [7] (by kernel_rfl) rfl ?_
              refine AllT.cons rfl ?_ ?_
              · skip
                refine TL.store1 (i := 2) (H' := [blkA b4 (ints ViewT.zero.flat) 25, blkA b3 (ints c.flat) 42, blkA b2 (ints (ViewT.mk v.epoch (orI .i64 v.members (2 ^ c.who.toNat)) v.heirs).flat) 25]) (Want.plain rfl) rfl rfl rfl rfl rfl sz3 rfl rfl (by have h0 := (ViewT.len v); omega) (ViewT.set_members v rfl _) rfl ?_
                refine TL.nil ?_
                refine TE.draw (fun _ s => ⟨Frm.of s, s.block 1 (lb rfl) rfl, trivial⟩) ?_
                refine TD.done (by kernel_rfl) ?_
                refine TE.blockEnd ?_
                refine TE.next hK4 ?_
                clear hK4
                refine TC.seq (fun K13 hK13 => ?_)
                refine TC.region ?_
                refine TL.v (Want.plain rfl) rfl rfl (PV.fieldAddr (r := 0) rfl Try.underlying25 rfl sz3 rfl rfl) ?_
                refine TL.v (Want.plain rfl) rfl rfl (PV.load1 (v := (.int .i64 (v.epoch))) rfl Try.underlying3 rfl rfl (Rd.own 2 rfl rfl) (ViewT.at_epoch (ViewT.mk v.epoch (orI .i64 v.members (2 ^ c.who.toNat)) v.heirs) rfl)) ?_
                refine TL.v (Want.plain rfl) rfl rfl (PV.add (r := (IntKind.i64.wrap (v.epoch + 1))) rfl rfl rfl rfl) ?_
                refine TL.v (Want.plain rfl) rfl rfl (PV.fieldAddr (r := 0) rfl Try.underlying25 rfl sz3 rfl rfl) ?_
                refine TL.store1 (i := 2) (H' := [blkA b4 (ints ViewT.zero.flat) 25, blkA b3 (ints c.flat) 42, blkA b2 (ints (ViewT.mk (IntKind.i64.wrap (v.epoch + 1)) (orI .i64 v.members (2 ^ c.who.toNat)) v.heirs).flat) 25]) (Want.plain rfl) rfl rfl rfl rfl rfl sz3 rfl rfl (by have h0 := (ViewT.len (ViewT.mk v.epoch (orI .i64 v.members (2 ^ c.who.toNat)) v.heirs)); omega) (ViewT.set_epoch (ViewT.mk v.epoch (orI .i64 v.members (2 ^ c.who.toNat)) v.heirs) rfl _) rfl ?_
                refine TL.nil ?_
                refine TE.next hK13 ?_
                clear hK13
                refine TC.seq (fun K14 hK14 => ?_)
                refine TC.region ?_
                refine TL.v (Want.plain rfl) rfl rfl (PV.loadN (vs := ints (ViewT.mk (IntKind.i64.wrap (v.epoch + 1)) (orI .i64 v.members (2 ^ c.who.toNat)) v.heirs).flat) rfl Try.underlying25 rfl sz25 rfl (Rd.own 2 rfl rfl) (ViewT.len (ViewT.mk (IntKind.i64.wrap (v.epoch + 1)) (orI .i64 v.members (2 ^ c.who.toNat)) v.heirs)) (whole (ViewT.len (ViewT.mk (IntKind.i64.wrap (v.epoch + 1)) (orI .i64 v.members (2 ^ c.who.toNat)) v.heirs)))) ?_
                refine TL.store (vs := ints (ViewT.mk (IntKind.i64.wrap (v.epoch + 1)) (orI .i64 v.members (2 ^ c.who.toNat)) v.heirs).flat) (i := 0) (H' := [blkA b4 (ints (ViewT.mk (IntKind.i64.wrap (v.epoch + 1)) (orI .i64 v.members (2 ^ c.who.toNat)) v.heirs).flat) 25, blkA b3 (ints c.flat) 42, blkA b2 (ints (ViewT.mk (IntKind.i64.wrap (v.epoch + 1)) (orI .i64 v.members (2 ^ c.who.toNat)) v.heirs).flat) 25]) (Want.plain rfl) rfl rfl rfl rfl rfl (by rw [(ViewT.len (ViewT.mk (IntKind.i64.wrap (v.epoch + 1)) (orI .i64 v.members (2 ^ c.who.toNat)) v.heirs))]; exact sz25) (ints_one _) rfl rfl (by have h0 := (ViewT.len ViewT.zero); have h1 := (ViewT.len (ViewT.mk (IntKind.i64.wrap (v.epoch + 1)) (orI .i64 v.members (2 ^ c.who.toNat)) v.heirs)); omega) (wwhole ((ViewT.len ViewT.zero).trans (ViewT.len (ViewT.mk (IntKind.i64.wrap (v.epoch + 1)) (orI .i64 v.members (2 ^ c.who.toNat)) v.heirs)).symm)) rfl ?_
                refine TL.v (Want.plain rfl) rfl rfl (PV.assign rfl rfl) ?_
                refine TL.nil ?_
                refine TE.next hK14 ?_
                clear hK14
                refine TC.ret ?_
                refine TE.retCT (H' := []) rfl rfl rfl Try.underlying25 rfl sz25 (Rd.own 0 rfl rfl) (ViewT.len (ViewT.mk (IntKind.i64.wrap (v.epoch + 1)) (orI .i64 v.members (2 ^ c.who.toNat)) v.heirs)) (fun _ s => sep_keep [] rfl s) ?_
                exact ⟨by simp_all [nextV], rfl⟩
              exact AllT.nil
            exact AllT.nil
      · skip
        refine TL.v (Want.plain rfl) rfl rfl (PV.assign rfl rfl) ?_
        refine TL.nil ?_
        refine TE.next hK6 ?_
        clear hK6
        refine TC.no rfl ?_
        refine TC.seq (fun K15 hK15 => ?_)
        refine TC.region ?_
        refine TL.v (Want.plain rfl) rfl rfl (PV.eql rfl rfl rfl) ?_
        refine TL.dec (fun h49 => ?_) (fun h49 => ?_)
        · skip
          refine TL.v (Want.plain rfl) rfl rfl (PV.assign rfl rfl) ?_
          refine TL.nil ?_
          refine TE.next hK15 ?_
          clear hK15
          refine TC.yes rfl ?_
          refine TC.seq (fun K16 hK16 => ?_)
          refine TC.seq (fun K17 hK17 => ?_)
          refine TC.region ?_
          refine TL.v (Want.plain rfl) rfl rfl (PV.loadN (vs := ints v.flat) rfl Try.underlying25 rfl sz25 rfl (Rd.own 2 rfl rfl) (ViewT.len v) (whole (ViewT.len v))) ?_
          refine TL.v (Want.plain rfl) rfl rfl (PV.fieldAddr (r := 1) rfl Try.underlying42 rfl sz3 rfl rfl) ?_
          refine TL.v (Want.plain rfl) rfl rfl (PV.load1 (v := (.int .i64 (c.who))) rfl Try.underlying3 rfl rfl (Rd.own 1 rfl rfl) (ChangeT.at_who c rfl)) ?_
          refine TL.callR (A := []) (B := [blkA b4 (ints ViewT.zero.flat) 25, blkA b3 (ints c.flat) 42, blkA b2 (ints v.flat) 25]) (Want.plain rfl) rfl rfl rfl nm34 rfl (member_does v c.who) (fun _ s => s) (fun _ _ _ => trivial) (fun vR HR hR => ?_)
          obtain ⟨rfl, rfl⟩ := hR
          change TL _ _ _ _ _ _ _ _ _ [blkA b4 (ints ViewT.zero.flat) 25, blkA b3 (ints c.flat) 42, blkA b2 (ints v.flat) 25]
          refine TL.decB (fun h53 => ?_) (fun h53 => ?_)
          · skip
            refine TL.v (Want.plain rfl) rfl rfl (PV.not (r := false) rfl rfl rfl) ?_
            refine TL.v (Want.plain rfl) rfl rfl (PV.move rfl rfl) ?_
            refine TL.v (Want.met rfl rfl rfl) rfl rfl (PV.loadN (vs := ints v.flat) rfl Try.underlying25 rfl sz25 rfl (Rd.own 2 rfl rfl) (ViewT.len v) (whole (ViewT.len v))) ?_
            refine TL.v (Want.met rfl rfl rfl) rfl rfl (PV.fieldAddr (r := 2) rfl Try.underlying42 rfl sz3 rfl rfl) ?_
            refine TL.v (Want.met rfl rfl rfl) rfl rfl (PV.load1 (v := (.int .i64 (c.heir))) rfl Try.underlying3 rfl rfl (Rd.own 1 rfl rfl) (ChangeT.at_heir c rfl)) ?_
            refine TL.callR (A := []) (B := [blkA b4 (ints ViewT.zero.flat) 25, blkA b3 (ints c.flat) 42, blkA b2 (ints v.flat) 25]) (Want.met rfl rfl rfl) rfl rfl rfl nm34 rfl (member_does v c.heir) (fun _ s => s) (fun _ _ _ => trivial) (fun vR HR hR => ?_)
            obtain ⟨rfl, rfl⟩ := hR
            change TL _ _ _ _ _ _ _ _ _ [blkA b4 (ints ViewT.zero.flat) 25, blkA b3 (ints c.flat) 42, blkA b2 (ints v.flat) 25]
            refine TL.decB (fun h59 => ?_) (fun h59 => ?_)
            · skip
              refine TL.v (Want.met rfl rfl rfl) rfl rfl (PV.not (r := false) rfl rfl rfl) ?_
              refine TL.v (Want.plain rfl) rfl rfl (PV.pick rfl rfl rfl) ?_
              refine TL.v (Want.plain rfl) rfl rfl (PV.move rfl rfl) ?_
              refine TL.v (Want.met rfl rfl rfl) rfl rfl (PV.fieldAddr (r := 2) rfl Try.underlying42 rfl sz3 rfl rfl) ?_
              refine TL.v (Want.met rfl rfl rfl) rfl rfl (PV.load1 (v := (.int .i64 (c.heir))) rfl Try.underlying3 rfl rfl (Rd.own 1 rfl rfl) (ChangeT.at_heir c rfl)) ?_
              refine TL.v (Want.met rfl rfl rfl) rfl rfl (PV.fieldAddr (r := 1) rfl Try.underlying42 rfl sz3 rfl rfl) ?_
              refine TL.v (Want.met rfl rfl rfl) rfl rfl (PV.load1 (v := (.int .i64 (c.who))) rfl Try.underlying3 rfl rfl (Rd.own 1 rfl rfl) (ChangeT.at_who c rfl)) ?_
              refine TL.v (Want.met rfl rfl rfl) rfl rfl (PV.eql rfl rfl rfl) ?_
              refine TL.dec (fun h67 => ?_) (fun h67 => ?_)
              · skip
                refine TL.v (Want.plain rfl) rfl rfl (PV.pick rfl rfl rfl) ?_
                refine TL.nil ?_
                refine TE.next hK17 ?_
                clear hK17
                refine TC.yes rfl ?_
                refine TC.seq (fun K18 hK18 => ?_)
                refine TC.region ?_
                refine TL.v (Want.plain rfl) rfl rfl (PV.build (cells := (ints ViewT.zero.flat).toArray) rfl rfl (by as_aux_lemma => kernel_rfl)) ?_
                refine TL.store (vs := ints ViewT.zero.flat) (i := 0) (H' := [blkA b4 (ints ViewT.zero.flat) 25, blkA b3 (ints c.flat) 42, blkA b2 (ints v.flat) 25]) (Want.plain rfl) rfl rfl rfl rfl rfl (by rw [(ViewT.len ViewT.zero)]; exact sz25) (ints_one _) rfl rfl (by have h0 := (ViewT.len ViewT.zero); have h1 := (ViewT.len ViewT.zero); omega) (wwhole ((ViewT.len ViewT.zero).trans (ViewT.len ViewT.zero).symm)) rfl ?_
                refine TL.v (Want.plain rfl) rfl rfl (PV.assign rfl rfl) ?_
                refine TL.nil ?_
                refine TE.next hK18 ?_
                clear hK18
                refine TC.ret ?_
                refine TE.passRet ?_
                clear hK16
                refine TE.blockRet ?_
                refine TE.passRet ?_
                clear hK4
                refine TE.retCT (H' := []) rfl rfl rfl Try.underlying25 rfl sz25 (Rd.own 0 rfl rfl) (ViewT.len ViewT.zero) (fun _ s => sep_keep [] rfl s) ?_
                exact ⟨by simp_all [nextV], rfl⟩
              · skip
                refine TL.v (Want.plain rfl) rfl rfl (PV.pick rfl rfl rfl) ?_
                refine TL.nil ?_
                refine TE.next hK17 ?_
                clear hK17
                refine TC.no rfl ?_
                refine TC.skip ?_
                refine TE.next hK16 ?_
                clear hK16
                refine TC.seq (fun K19 hK19 => ?_)
                refine TC.draw (fun w => Frm F w ∧ w.heap[b3]? = some (.cells (ints c.flat).toArray 42 (0, 0)) ∧ True) mixed rfl (fun _ s => ⟨Frm.of s, s.block 1 (lb rfl) rfl, trivial⟩) ?_
                refine TD.take (i := 0) rfl (by kernel_rfl) (by kernel_rfl) (by kernel_rfl) (fun _ _ _ _ h => h) (Want.plain rfl) rfl rfl (PV.fieldAddr (r := 1) rfl Try.underlying25 rfl sz3 rfl rfl) ?_
                refine TD.take (i := 2) rfl (by kernel_rfl) (by kernel_rfl) (by kernel_rfl) (fun _ _ _ _ h => h) (Want.plain rfl) rfl rfl (PV.fieldAddr (r := 1) rfl Try.underlying42 rfl sz3 rfl rfl) ?_
                refine TD.take (i := 3) rfl (by kernel_rfl) (by kernel_rfl) (by kernel_rfl) (fun _ _ _ _ h => h) (Want.plain rfl) rfl rfl (PV.load1 (v := (.int .i64 (c.who))) rfl Try.underlying3 rfl rfl (fun _ h => h.2.1) (ChangeT.at_who c rfl)) ?_
                refine TD.take (i := 4) rfl (by kernel_rfl) (by kernel_rfl) (by kernel_rfl) (fun _ _ _ _ h => h) (Want.plain rfl) rfl rfl (PV.shl (r := (2 ^ c.who.toNat)) rfl rfl rfl (by omega) (shl_one hm1)) ?_
                refine TD.all [1] (by kernel_rfl) rfl ?_
                refine AllT.cons rfl ?_ ?_
                · skip
                  refine TL.v (Want.plain rfl) rfl rfl (PV.load1 (v := (.int .i64 (v.members))) rfl Try.underlying3 rfl rfl (Rd.own 2 rfl rfl) (ViewT.at_members v rfl)) ?_
                  refine TL.nil ?_
                  refine TE.draw (fun _ s => ⟨Frm.of s, s.block 1 (lb rfl) rfl, trivial⟩) ?_
                  refine TD.take (i := 5) rfl (by kernel_rfl) (by kernel_rfl) (by kernel_rfl) (fun _ _ _ _ h => h) (Want.plain rfl) rfl rfl (PV.andNot (r := (andNotI .i64 v.members (2 ^ c.who.toNat))) rfl rfl rfl rfl) ?_
                  refine TD.take (i := 6) rfl (by kernel_rfl) (by kernel_rfl) (by kernel_rfl) (fun _ _ _ _ h => h) (Want.plain rfl) rfl rfl (PV.fieldAddr (r := 1) rfl Try.underlying25 rfl sz3 rfl rfl) ?_
                  refine TD.all [7] (by kernel_rfl) rfl ?_
                  refine AllT.cons rfl ?_ ?_
                  · skip
                    refine TL.store1 (i := 2) (H' := [blkA b4 (ints ViewT.zero.flat) 25, blkA b3 (ints c.flat) 42, blkA b2 (ints (ViewT.mk v.epoch (andNotI .i64 v.members (2 ^ c.who.toNat)) v.heirs).flat) 25]) (Want.plain rfl) rfl rfl rfl rfl rfl sz3 rfl rfl (by have h0 := (ViewT.len v); omega) (ViewT.set_members v rfl _) rfl ?_
                    refine TL.nil ?_
                    refine TE.draw (fun _ s => ⟨Frm.of s, s.block 1 (lb rfl) rfl, trivial⟩) ?_
                    refine TD.done (by kernel_rfl) ?_
                    refine TE.next hK19 ?_
                    clear hK19
                    refine TC.seq (fun K20 hK20 => ?_)
                    refine TC.region ?_
                    refine TL.v (Want.plain rfl) rfl rfl (PV.fieldAddr (r := 2) rfl Try.underlying25 rfl sz23 rfl rfl) ?_
                    refine TL.v (Want.plain rfl) rfl rfl (PV.loadN (vs := ints v.heirs.toList) rfl Try.underlying23 rfl sz23 rfl (Rd.own 2 rfl rfl) (vi5_len v.heirs) (ViewT.sub_heirs (ViewT.mk v.epoch (andNotI .i64 v.members (2 ^ c.who.toNat)) v.heirs) 0 rfl (by decide) (whole (vi5_len v.heirs)))) ?_
                    refine TL.v (Want.plain rfl) rfl rfl (PV.move rfl rfl) ?_
                    refine TL.nil ?_
                    refine TE.next hK20 ?_
                    clear hK20
                    refine TC.block ?_
                    refine TC.loop (α := (Nat) × (Vector Int 5)) (fun ⟨i, hs⟩ => i ≤ 5 ∧ ∀ (j : Nat) (h : j < 5), hs[j] = if j < i then leaveH c j v.heirs[j] else v.heirs[j]) (fun ⟨i, hs⟩ => [(2, (.pointer (some ⟨b2, 0, none⟩))), (3, (.pointer (some ⟨b3, 0, none⟩))), (4, (.pointer (some ⟨b4, 0, none⟩))), (5, (.int .i64 0)), (78, (.agg (ints v.heirs.toList).toArray)), (79, (.int .i64 (((i : Nat) : Int))))]) (fun ⟨i, hs⟩ => [blkA b4 (ints ViewT.zero.flat) 25, blkA b3 (ints c.flat) 42, blkA b2 (ints (ViewT.mk v.epoch (andNotI .i64 v.members (2 ^ c.who.toNat)) hs).flat) 25]) (fun ⟨i, hs⟩ => 5 - i) (0, v.heirs)
                        ⟨Nat.zero_le _, fun j h => by rw [if_neg (by omega)]⟩ (Sub.r (Sub.r (Sub.r (Sub.r (Sub.r (Sub.cons rfl (by congr 1) (Sub.nil _)))))))
                        (fun _ s => s) (fun ⟨i, hs⟩ hinv => ?_)
                    obtain ⟨hi, ho⟩ := hinv
                    refine TC.seq (fun K21 hK21 => ?_)
                    refine TC.region ?_
                    refine TL.v (Want.plain rfl) rfl rfl (PV.lss rfl rfl rfl) ?_
                    refine TL.dec (fun h80 => ?_) (fun h80 => ?_)
                    · skip
                      refine TL.nil ?_
                      refine TE.next hK21 ?_
                      clear hK21
                      refine TC.seq (fun K22 hK22 => ?_)
                      refine TC.yes rfl ?_
                      refine TC.skip ?_
                      refine TE.next hK22 ?_
                      clear hK22
                      refine TC.seq (fun K23 hK23 => ?_)
                      refine TC.block ?_
                      refine TC.seq (fun K24 hK24 => ?_)
                      refine TC.region ?_
                      refine TL.v (Want.plain rfl) rfl rfl (PV.move rfl rfl) ?_
                      refine TL.v (Want.plain rfl) rfl rfl (PV.index1 (cs := ints v.heirs.toList) (v := .int .i64 (v.heirs[i]'(by omega))) (r := i) rfl Try.underlying23 Try.underlying3 rfl sz3 rfl rfl (by omega) (by omega) (by omega) (vi_at v.heirs (by omega))) ?_
                      refine TL.v (Want.plain rfl) rfl rfl (PV.assign rfl rfl) ?_
                      refine TL.v (Want.plain rfl) rfl rfl (PV.assign rfl rfl) ?_
                      refine TL.nil ?_
                      refine TE.next hK24 ?_
                      clear hK24
                      refine TC.seq (fun K25 hK25 => ?_)
                      refine TC.region ?_
                      refine TL.v (Want.plain rfl) rfl rfl (PV.move rfl rfl) ?_
                      refine TL.v (Want.plain rfl) rfl rfl (PV.fieldAddr (r := 1) rfl Try.underlying42 rfl sz3 rfl rfl) ?_
                      refine TL.v (Want.plain rfl) rfl rfl (PV.load1 (v := (.int .i64 (c.who))) rfl Try.underlying3 rfl rfl (Rd.own 1 rfl rfl) (ChangeT.at_who c rfl)) ?_
                      refine TL.v (Want.plain rfl) rfl rfl (PV.eql rfl rfl rfl) ?_
                      refine TL.dec (fun h86 => ?_) (fun h86 => ?_)
                      · skip
                        refine TL.v (Want.plain rfl) rfl rfl (PV.move rfl rfl) ?_
                        refine TL.unmet (b := true) rfl rfl rfl rfl (lb rfl) ?_
                        refine TL.unmet (b := true) rfl rfl rfl rfl (lb rfl) ?_
                        refine TL.unmet (b := true) rfl rfl rfl rfl (lb rfl) ?_
                        refine TL.unmet (b := true) rfl rfl rfl rfl (lb rfl) ?_
                        refine TL.unmet (b := true) rfl rfl rfl rfl (lb rfl) ?_
                        refine TL.v (Want.plain rfl) rfl rfl (PV.pick rfl rfl rfl) ?_
                        refine TL.nil ?_
                        refine TE.next hK25 ?_
                        clear hK25
                        refine TC.yes rfl ?_
                        refine TC.region ?_
                        refine TL.v (Want.plain rfl) rfl rfl (PV.move rfl rfl) ?_
                        refine TL.v (Want.plain rfl) rfl rfl (PV.fieldAddr (r := 2) rfl Try.underlying42 rfl sz3 rfl rfl) ?_
                        refine TL.v (Want.plain rfl) rfl rfl (PV.load1 (v := (.int .i64 (c.heir))) rfl Try.underlying3 rfl rfl (Rd.own 1 rfl rfl) (ChangeT.at_heir c rfl)) ?_
                        refine TL.v (Want.plain rfl) rfl rfl (PV.add rfl rfl rfl (wrap_i64 (by omega) (by omega))) ?_
                        refine TL.v (Want.plain rfl) rfl rfl (PV.fieldAddr (r := 2) rfl Try.underlying25 rfl sz23 rfl rfl) ?_
                        refine TL.v (Want.plain rfl) rfl rfl (PV.indexArr (r := 2 + i) rfl Try.underlying23 sz3 rfl rfl (by omega) (by omega) (by omega)) ?_
                        refine TL.store1 (i := 2) (H' := [blkA b4 (ints ViewT.zero.flat) 25, blkA b3 (ints c.flat) 42, blkA b2 (ints (ViewT.mk v.epoch (andNotI .i64 v.members (2 ^ c.who.toNat)) (hs.set i (c.heir + 1) (by omega))).flat) 25]) (Want.plain rfl) rfl rfl rfl rfl rfl sz3 rfl rfl (by have h0 := (ViewT.len (ViewT.mk v.epoch (andNotI .i64 v.members (2 ^ c.who.toNat)) hs)); omega) (ViewT.st_heirs (ViewT.mk v.epoch (andNotI .i64 v.members (2 ^ c.who.toNat)) hs) i (by omega) (by omega) (vi_st hs (by omega) _)) rfl ?_
                        refine TL.nil ?_
                        refine TE.blockEnd ?_
                        refine TE.next hK23 ?_
                        clear hK23
                        refine TC.region ?_
                        refine TL.v (Want.plain rfl) rfl rfl (PV.add rfl rfl rfl (wrap_i64 (by omega) (by omega))) ?_
                        refine TL.v (Want.plain rfl) rfl rfl (PV.move rfl rfl) ?_
                        refine TL.nil ?_
                        exact TE.round ((i + 1, hs.set i (c.heir + 1) (by omega)) : (Nat) × (Vector Int 5)) ⟨by omega, fun j h => by
        rw [Vector.getElem_set]
        by_cases q : j = i
        · subst q; rw [if_pos rfl, if_pos (by omega), leaveH, if_pos (by omega)]
        · rw [if_neg (by omega), ho j h]
          by_cases q2 : j < i
          · rw [if_pos q2, if_pos (by omega)]
          · rw [if_neg q2, if_neg (by omega)]⟩ (by show 5 - (i + 1) < 5 - i; omega)
                          (Sub.r (Sub.r (Sub.r (Sub.r (Sub.r (Sub.cons rfl (by simp) (Sub.nil _)))))))
                          (fun _ s => s)
                      · skip
                        refine TL.v (Want.plain rfl) rfl rfl (PV.move rfl rfl) ?_
                        refine TL.v (Want.met rfl rfl rfl) rfl rfl (PV.move rfl rfl) ?_
                        refine TL.v (Want.met rfl rfl rfl) rfl rfl (PV.fieldAddr (r := 1) rfl Try.underlying42 rfl sz3 rfl rfl) ?_
                        refine TL.v (Want.met rfl rfl rfl) rfl rfl (PV.load1 (v := (.int .i64 (c.who))) rfl Try.underlying3 rfl rfl (Rd.own 1 rfl rfl) (ChangeT.at_who c rfl)) ?_
                        refine TL.v (Want.met rfl rfl rfl) rfl rfl (PV.add rfl rfl rfl (wrap_i64 (by omega) (by omega))) ?_
                        refine TL.v (Want.met rfl rfl rfl) rfl rfl (PV.eql rfl rfl rfl) ?_
                        refine TL.dec (fun h92 => ?_) (fun h92 => ?_)
                        · skip
                          refine TL.v (Want.plain rfl) rfl rfl (PV.pick rfl rfl rfl) ?_
                          refine TL.nil ?_
                          refine TE.next hK25 ?_
                          clear hK25
                          refine TC.yes rfl ?_
                          refine TC.region ?_
                          refine TL.v (Want.plain rfl) rfl rfl (PV.move rfl rfl) ?_
                          refine TL.v (Want.plain rfl) rfl rfl (PV.fieldAddr (r := 2) rfl Try.underlying42 rfl sz3 rfl rfl) ?_
                          refine TL.v (Want.plain rfl) rfl rfl (PV.load1 (v := (.int .i64 (c.heir))) rfl Try.underlying3 rfl rfl (Rd.own 1 rfl rfl) (ChangeT.at_heir c rfl)) ?_
                          refine TL.v (Want.plain rfl) rfl rfl (PV.add rfl rfl rfl (wrap_i64 (by omega) (by omega))) ?_
                          refine TL.v (Want.plain rfl) rfl rfl (PV.fieldAddr (r := 2) rfl Try.underlying25 rfl sz23 rfl rfl) ?_
                          refine TL.v (Want.plain rfl) rfl rfl (PV.indexArr (r := 2 + i) rfl Try.underlying23 sz3 rfl rfl (by omega) (by omega) (by omega)) ?_
                          refine TL.store1 (i := 2) (H' := [blkA b4 (ints ViewT.zero.flat) 25, blkA b3 (ints c.flat) 42, blkA b2 (ints (ViewT.mk v.epoch (andNotI .i64 v.members (2 ^ c.who.toNat)) (hs.set i (c.heir + 1) (by omega))).flat) 25]) (Want.plain rfl) rfl rfl rfl rfl rfl sz3 rfl rfl (by have h0 := (ViewT.len (ViewT.mk v.epoch (andNotI .i64 v.members (2 ^ c.who.toNat)) hs)); omega) (ViewT.st_heirs (ViewT.mk v.epoch (andNotI .i64 v.members (2 ^ c.who.toNat)) hs) i (by omega) (by omega) (vi_st hs (by omega) _)) rfl ?_
                          refine TL.nil ?_
                          refine TE.blockEnd ?_
                          refine TE.next hK23 ?_
                          clear hK23
                          refine TC.region ?_
                          refine TL.v (Want.plain rfl) rfl rfl (PV.add rfl rfl rfl (wrap_i64 (by omega) (by omega))) ?_
                          refine TL.v (Want.plain rfl) rfl rfl (PV.move rfl rfl) ?_
                          refine TL.nil ?_
                          exact TE.round ((i + 1, hs.set i (c.heir + 1) (by omega)) : (Nat) × (Vector Int 5)) ⟨by omega, fun j h => by
        rw [Vector.getElem_set]
        by_cases q : j = i
        · subst q; rw [if_pos rfl, if_pos (by omega), leaveH, if_pos (by omega)]
        · rw [if_neg (by omega), ho j h]
          by_cases q2 : j < i
          · rw [if_pos q2, if_pos (by omega)]
          · rw [if_neg q2, if_neg (by omega)]⟩ (by show 5 - (i + 1) < 5 - i; omega)
                            (Sub.r (Sub.r (Sub.r (Sub.r (Sub.r (Sub.cons rfl (by simp) (Sub.nil _)))))))
                            (fun _ s => s)
                        · skip
                          refine TL.v (Want.plain rfl) rfl rfl (PV.pick rfl rfl rfl) ?_
                          refine TL.nil ?_
                          refine TE.next hK25 ?_
                          clear hK25
                          refine TC.no rfl ?_
                          refine TC.skip ?_
                          refine TE.blockEnd ?_
                          refine TE.next hK23 ?_
                          clear hK23
                          refine TC.region ?_
                          refine TL.v (Want.plain rfl) rfl rfl (PV.add rfl rfl rfl (wrap_i64 (by omega) (by omega))) ?_
                          refine TL.v (Want.plain rfl) rfl rfl (PV.move rfl rfl) ?_
                          refine TL.nil ?_
                          exact TE.round ((i + 1, hs) : (Nat) × (Vector Int 5)) ⟨by omega, fun j h => by
        rw [ho j h]
        by_cases q : j = i
        · subst q; rw [if_neg (by omega), if_pos (by omega), leaveH, if_neg (by omega)]
        · by_cases q2 : j < i
          · rw [if_pos q2, if_pos (by omega)]
          · rw [if_neg q2, if_neg (by omega)]⟩ (by show 5 - (i + 1) < 5 - i; omega)
                            (Sub.r (Sub.r (Sub.r (Sub.r (Sub.r (Sub.cons rfl (by simp) (Sub.nil _)))))))
                            (fun _ s => s)
                    · skip
                      refine TL.nil ?_
                      refine TE.next hK21 ?_
                      clear hK21
                      refine TC.seq (fun K26 hK26 => ?_)
                      refine TC.no rfl ?_
                      refine TC.exit ?_
                      refine TE.pass ?_
                      clear hK26
                      refine TE.pass ?_
                      refine TE.hit ?_
                      refine TE.blockEnd ?_
                      refine TE.next hK4 ?_
                      clear hK4
                      refine TC.seq (fun K27 hK27 => ?_)
                      refine TC.region ?_
                      refine TL.v (Want.plain rfl) rfl rfl (PV.fieldAddr (r := 0) rfl Try.underlying25 rfl sz3 rfl rfl) ?_
                      refine TL.v (Want.plain rfl) rfl rfl (PV.load1 (v := (.int .i64 (v.epoch))) rfl Try.underlying3 rfl rfl (Rd.own 2 rfl rfl) (ViewT.at_epoch (ViewT.mk v.epoch (andNotI .i64 v.members (2 ^ c.who.toNat)) hs) rfl)) ?_
                      refine TL.v (Want.plain rfl) rfl rfl (PV.add (r := (IntKind.i64.wrap (v.epoch + 1))) rfl rfl rfl rfl) ?_
                      refine TL.v (Want.plain rfl) rfl rfl (PV.fieldAddr (r := 0) rfl Try.underlying25 rfl sz3 rfl rfl) ?_
                      refine TL.store1 (i := 2) (H' := [blkA b4 (ints ViewT.zero.flat) 25, blkA b3 (ints c.flat) 42, blkA b2 (ints (ViewT.mk (IntKind.i64.wrap (v.epoch + 1)) (andNotI .i64 v.members (2 ^ c.who.toNat)) hs).flat) 25]) (Want.plain rfl) rfl rfl rfl rfl rfl sz3 rfl rfl (by have h0 := (ViewT.len (ViewT.mk v.epoch (andNotI .i64 v.members (2 ^ c.who.toNat)) hs)); omega) (ViewT.set_epoch (ViewT.mk v.epoch (andNotI .i64 v.members (2 ^ c.who.toNat)) hs) rfl _) rfl ?_
                      refine TL.nil ?_
                      refine TE.next hK27 ?_
                      clear hK27
                      refine TC.seq (fun K28 hK28 => ?_)
                      refine TC.region ?_
                      refine TL.v (Want.plain rfl) rfl rfl (PV.loadN (vs := ints (ViewT.mk (IntKind.i64.wrap (v.epoch + 1)) (andNotI .i64 v.members (2 ^ c.who.toNat)) hs).flat) rfl Try.underlying25 rfl sz25 rfl (Rd.own 2 rfl rfl) (ViewT.len (ViewT.mk (IntKind.i64.wrap (v.epoch + 1)) (andNotI .i64 v.members (2 ^ c.who.toNat)) hs)) (whole (ViewT.len (ViewT.mk (IntKind.i64.wrap (v.epoch + 1)) (andNotI .i64 v.members (2 ^ c.who.toNat)) hs)))) ?_
                      refine TL.store (vs := ints (ViewT.mk (IntKind.i64.wrap (v.epoch + 1)) (andNotI .i64 v.members (2 ^ c.who.toNat)) hs).flat) (i := 0) (H' := [blkA b4 (ints (ViewT.mk (IntKind.i64.wrap (v.epoch + 1)) (andNotI .i64 v.members (2 ^ c.who.toNat)) hs).flat) 25, blkA b3 (ints c.flat) 42, blkA b2 (ints (ViewT.mk (IntKind.i64.wrap (v.epoch + 1)) (andNotI .i64 v.members (2 ^ c.who.toNat)) hs).flat) 25]) (Want.plain rfl) rfl rfl rfl rfl rfl (by rw [(ViewT.len (ViewT.mk (IntKind.i64.wrap (v.epoch + 1)) (andNotI .i64 v.members (2 ^ c.who.toNat)) hs))]; exact sz25) (ints_one _) rfl rfl (by have h0 := (ViewT.len ViewT.zero); have h1 := (ViewT.len (ViewT.mk (IntKind.i64.wrap (v.epoch + 1)) (andNotI .i64 v.members (2 ^ c.who.toNat)) hs)); omega) (wwhole ((ViewT.len ViewT.zero).trans (ViewT.len (ViewT.mk (IntKind.i64.wrap (v.epoch + 1)) (andNotI .i64 v.members (2 ^ c.who.toNat)) hs)).symm)) rfl ?_
                      refine TL.v (Want.plain rfl) rfl rfl (PV.assign rfl rfl) ?_
                      refine TL.nil ?_
                      refine TE.next hK28 ?_
                      clear hK28
                      refine TC.ret ?_
                      refine TE.retCT (H' := []) rfl rfl rfl Try.underlying25 rfl sz25 (Rd.own 0 rfl rfl) (ViewT.len (ViewT.mk (IntKind.i64.wrap (v.epoch + 1)) (andNotI .i64 v.members (2 ^ c.who.toNat)) hs)) (fun _ s => sep_keep [] rfl s) ?_
                      have e : hs = leaveV v c := by
                        apply Vector.ext; intro j hj; rw [ho j hj, if_pos (by omega)]; simp [leaveV]
                      subst e
                      exact ⟨by simp_all [nextV], rfl⟩
                  exact AllT.nil
                exact AllT.nil
            · skip
              refine TL.v (Want.met rfl rfl rfl) rfl rfl (PV.not (r := true) rfl rfl rfl) ?_
              refine TL.v (Want.plain rfl) rfl rfl (PV.pick rfl rfl rfl) ?_
              refine TL.v (Want.plain rfl) rfl rfl (PV.move rfl rfl) ?_
              refine TL.unmet (b := true) rfl rfl rfl rfl (lb rfl) ?_
              refine TL.unmet (b := true) rfl rfl rfl rfl (lb rfl) ?_
              refine TL.unmet (b := true) rfl rfl rfl rfl (lb rfl) ?_
              refine TL.unmet (b := true) rfl rfl rfl rfl (lb rfl) ?_
              refine TL.unmet (b := true) rfl rfl rfl rfl (lb rfl) ?_
              refine TL.v (Want.plain rfl) rfl rfl (PV.pick rfl rfl rfl) ?_
              refine TL.nil ?_
              refine TE.next hK17 ?_
              clear hK17
              refine TC.yes rfl ?_
              refine TC.seq (fun K29 hK29 => ?_)
              refine TC.region ?_
              refine TL.v (Want.plain rfl) rfl rfl (PV.build (cells := (ints ViewT.zero.flat).toArray) rfl rfl (by as_aux_lemma => kernel_rfl)) ?_
              refine TL.store (vs := ints ViewT.zero.flat) (i := 0) (H' := [blkA b4 (ints ViewT.zero.flat) 25, blkA b3 (ints c.flat) 42, blkA b2 (ints v.flat) 25]) (Want.plain rfl) rfl rfl rfl rfl rfl (by rw [(ViewT.len ViewT.zero)]; exact sz25) (ints_one _) rfl rfl (by have h0 := (ViewT.len ViewT.zero); have h1 := (ViewT.len ViewT.zero); omega) (wwhole ((ViewT.len ViewT.zero).trans (ViewT.len ViewT.zero).symm)) rfl ?_
              refine TL.v (Want.plain rfl) rfl rfl (PV.assign rfl rfl) ?_
              refine TL.nil ?_
              refine TE.next hK29 ?_
              clear hK29
              refine TC.ret ?_
              refine TE.passRet ?_
              clear hK16
              refine TE.blockRet ?_
              refine TE.passRet ?_
              clear hK4
              refine TE.retCT (H' := []) rfl rfl rfl Try.underlying25 rfl sz25 (Rd.own 0 rfl rfl) (ViewT.len ViewT.zero) (fun _ s => sep_keep [] rfl s) ?_
              exact ⟨by simp_all [nextV], rfl⟩
          · skip
            refine TL.v (Want.plain rfl) rfl rfl (PV.not (r := true) rfl rfl rfl) ?_
            refine TL.v (Want.plain rfl) rfl rfl (PV.move rfl rfl) ?_
            refine TL.unmet (b := true) rfl rfl rfl rfl (lb rfl) ?_
            refine TL.unmet (b := true) rfl rfl rfl rfl (lb rfl) ?_
            refine TL.unmet (b := true) rfl rfl rfl rfl (lb rfl) ?_
            refine TL.unmet (b := true) rfl rfl rfl rfl (lb rfl) ?_
            refine TL.unmet (b := true) rfl rfl rfl rfl (lb rfl) ?_
            refine TL.v (Want.plain rfl) rfl rfl (PV.pick rfl rfl rfl) ?_
            refine TL.v (Want.plain rfl) rfl rfl (PV.move rfl rfl) ?_
            refine TL.unmet (b := true) rfl rfl rfl rfl (lb rfl) ?_
            refine TL.unmet (b := true) rfl rfl rfl rfl (lb rfl) ?_
            refine TL.unmet (b := true) rfl rfl rfl rfl (lb rfl) ?_
            refine TL.unmet (b := true) rfl rfl rfl rfl (lb rfl) ?_
            refine TL.unmet (b := true) rfl rfl rfl rfl (lb rfl) ?_
            refine TL.v (Want.plain rfl) rfl rfl (PV.pick rfl rfl rfl) ?_
            refine TL.nil ?_
            refine TE.next hK17 ?_
            clear hK17
            refine TC.yes rfl ?_
            refine TC.seq (fun K30 hK30 => ?_)
            refine TC.region ?_
            refine TL.v (Want.plain rfl) rfl rfl (PV.build (cells := (ints ViewT.zero.flat).toArray) rfl rfl (by as_aux_lemma => kernel_rfl)) ?_
            refine TL.store (vs := ints ViewT.zero.flat) (i := 0) (H' := [blkA b4 (ints ViewT.zero.flat) 25, blkA b3 (ints c.flat) 42, blkA b2 (ints v.flat) 25]) (Want.plain rfl) rfl rfl rfl rfl rfl (by rw [(ViewT.len ViewT.zero)]; exact sz25) (ints_one _) rfl rfl (by have h0 := (ViewT.len ViewT.zero); have h1 := (ViewT.len ViewT.zero); omega) (wwhole ((ViewT.len ViewT.zero).trans (ViewT.len ViewT.zero).symm)) rfl ?_
            refine TL.v (Want.plain rfl) rfl rfl (PV.assign rfl rfl) ?_
            refine TL.nil ?_
            refine TE.next hK30 ?_
            clear hK30
            refine TC.ret ?_
            refine TE.passRet ?_
            clear hK16
            refine TE.blockRet ?_
            refine TE.passRet ?_
            clear hK4
            refine TE.retCT (H' := []) rfl rfl rfl Try.underlying25 rfl sz25 (Rd.own 0 rfl rfl) (ViewT.len ViewT.zero) (fun _ s => sep_keep [] rfl s) ?_
            exact ⟨by simp_all [nextV], rfl⟩
        · skip
          refine TL.v (Want.plain rfl) rfl rfl (PV.assign rfl rfl) ?_
          refine TL.nil ?_
          refine TE.next hK15 ?_
          clear hK15
          refine TC.no rfl ?_
          refine TC.seq (fun K31 hK31 => ?_)
          refine TC.region ?_
          refine TL.v (Want.plain rfl) rfl rfl (PV.build (cells := (ints ViewT.zero.flat).toArray) rfl rfl (by as_aux_lemma => kernel_rfl)) ?_
          refine TL.store (vs := ints ViewT.zero.flat) (i := 0) (H' := [blkA b4 (ints ViewT.zero.flat) 25, blkA b3 (ints c.flat) 42, blkA b2 (ints v.flat) 25]) (Want.plain rfl) rfl rfl rfl rfl rfl (by rw [(ViewT.len ViewT.zero)]; exact sz25) (ints_one _) rfl rfl (by have h0 := (ViewT.len ViewT.zero); have h1 := (ViewT.len ViewT.zero); omega) (wwhole ((ViewT.len ViewT.zero).trans (ViewT.len ViewT.zero).symm)) rfl ?_
          refine TL.v (Want.plain rfl) rfl rfl (PV.assign rfl rfl) ?_
          refine TL.nil ?_
          refine TE.next hK31 ?_
          clear hK31
          refine TC.ret ?_
          refine TE.blockRet ?_
          refine TE.passRet ?_
          clear hK4
          refine TE.retCT (H' := []) rfl rfl rfl Try.underlying25 rfl sz25 (Rd.own 0 rfl rfl) (ViewT.len ViewT.zero) (fun _ s => sep_keep [] rfl s) ?_
          exact ⟨by simp_all [nextV], rfl⟩
    · skip
      refine TL.v (Want.met rfl rfl rfl) rfl rfl (PV.not (r := true) rfl rfl rfl) ?_
      refine TL.v (Want.plain rfl) rfl rfl (PV.pick rfl rfl rfl) ?_
      refine TL.nil ?_
      refine TE.next hK3 ?_
      clear hK3
      refine TC.yes rfl ?_
      refine TC.seq (fun K32 hK32 => ?_)
      refine TC.region ?_
      refine TL.v (Want.plain rfl) rfl rfl (PV.build (cells := (ints ViewT.zero.flat).toArray) rfl rfl (by as_aux_lemma => kernel_rfl)) ?_
      refine TL.store (vs := ints ViewT.zero.flat) (i := 0) (H' := [blkA b4 (ints ViewT.zero.flat) 25, blkA b3 (ints c.flat) 42, blkA b2 (ints v.flat) 25]) (Want.plain rfl) rfl rfl rfl rfl rfl (by rw [(ViewT.len ViewT.zero)]; exact sz25) (ints_one _) rfl rfl (by have h0 := (ViewT.len ViewT.zero); have h1 := (ViewT.len ViewT.zero); omega) (wwhole ((ViewT.len ViewT.zero).trans (ViewT.len ViewT.zero).symm)) rfl ?_
      refine TL.v (Want.plain rfl) rfl rfl (PV.assign rfl rfl) ?_
      refine TL.nil ?_
      refine TE.next hK32 ?_
      clear hK32
      refine TC.ret ?_
      refine TE.passRet ?_
      clear hK2
      refine TE.retCT (H' := []) rfl rfl rfl Try.underlying25 rfl sz25 (Rd.own 0 rfl rfl) (ViewT.len ViewT.zero) (fun _ s => sep_keep [] rfl s) ?_
      exact ⟨by simp_all [nextV], rfl⟩
  · skip
    refine TL.v (Want.plain rfl) rfl rfl (PV.not (r := true) rfl rfl rfl) ?_
    refine TL.v (Want.plain rfl) rfl rfl (PV.move rfl rfl) ?_
    refine TL.unmet (b := true) rfl rfl rfl rfl (lb rfl) ?_
    refine TL.unmet (b := true) rfl rfl rfl rfl (lb rfl) ?_
    refine TL.unmet (b := true) rfl rfl rfl rfl (lb rfl) ?_
    refine TL.unmet (b := true) rfl rfl rfl rfl (lb rfl) ?_
    refine TL.v (Want.plain rfl) rfl rfl (PV.pick rfl rfl rfl) ?_
    refine TL.nil ?_
    refine TE.next hK3 ?_
    clear hK3
    refine TC.yes rfl ?_
    refine TC.seq (fun K33 hK33 => ?_)
    refine TC.region ?_
    refine TL.v (Want.plain rfl) rfl rfl (PV.build (cells := (ints ViewT.zero.flat).toArray) rfl rfl (by as_aux_lemma => kernel_rfl)) ?_
    refine TL.store (vs := ints ViewT.zero.flat) (i := 0) (H' := [blkA b4 (ints ViewT.zero.flat) 25, blkA b3 (ints c.flat) 42, blkA b2 (ints v.flat) 25]) (Want.plain rfl) rfl rfl rfl rfl rfl (by rw [(ViewT.len ViewT.zero)]; exact sz25) (ints_one _) rfl rfl (by have h0 := (ViewT.len ViewT.zero); have h1 := (ViewT.len ViewT.zero); omega) (wwhole ((ViewT.len ViewT.zero).trans (ViewT.len ViewT.zero).symm)) rfl ?_
    refine TL.v (Want.plain rfl) rfl rfl (PV.assign rfl rfl) ?_
    refine TL.nil ?_
    refine TE.next hK33 ?_
    clear hK33
    refine TC.ret ?_
    refine TE.passRet ?_
    clear hK2
    refine TE.retCT (H' := []) rfl rfl rfl Try.underlying25 rfl sz25 (Rd.own 0 rfl rfl) (ViewT.len ViewT.zero) (fun _ s => sep_keep [] rfl s) ?_
    exact ⟨by simp_all [nextV], rfl⟩


end Go.Proofs.Ytdekgkmbcdlekaa
