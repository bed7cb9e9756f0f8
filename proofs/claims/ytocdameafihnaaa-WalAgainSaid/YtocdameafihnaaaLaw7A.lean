/-
  Layer 7's statements: contracts for them.
-/

import Derived.Test.YtocdameafihnaaaWalB
import Derived.Test.YtocdameafihnaaaWalT
import Derived.Test.YtocdameafihnaaaLegQ

namespace Go.Proofs.Ytocdameafihnaaa

open Go Leg Codec Api Dsk Wal

set_option maxRecDepth 100000

theorem openEq_does (d : Nat) (D D' : DS) (rs : List (List UInt8)) (used : Int) (hD : D.Ok) (hI : Wal.DS.In D) (hb : D.ws.length ≤ 1000000) (he : openP D = ⟨0, rs, used, D'⟩) : Does Try.prog 25 #[.pointer (some ⟨d, 0, none⟩)] (fun _ => True) [dk d D]
  (Ret (fun v H => ∃ lg vr, v = .tuple #[.pointer (some ⟨lg, 0, none⟩), vr, .int .i64 0] ∧ H = [lgP lg d ((rs.length : Nat) : Int) used, rcP vr rs, dk d D'])) :=
  (open_does d D hD hI hb).mono fun e H q => by
    cases e with
    | returned v =>
      replace q : (_ ∧ _) ∨ _ := q
      rw [he] at q
      rcases q with ⟨q, _⟩ | ⟨_, lg, vr, q1, q2⟩
      · exact absurd rfl q
      · exact ⟨lg, vr, q1, q2⟩
    | panicked c => exact q
    | outgrown => exact q

theorem putLog_does (lg d : Nat) (D : DS) (ls : List (List UInt8)) (x : Value) (bs : List UInt8) (h : LogD D ls) (hd : D.dn = false) : Does Try.prog 27 #[.pointer (some ⟨lg, 0, none⟩), x] (IsW x bs) [lgP lg d (((ls).length : Nat) : Int) ((sizeS (ls) : Nat) : Int), dk d D]
  (Ret (fun v H => (3000 < bs.length ∧ v = .int .i64 2 ∧ H = [lgP lg d (((ls).length : Nat) : Int) ((sizeS (ls) : Nat) : Int), dk d D]) ∨ (bs.length ≤ 3000 ∧ 2048 < sizeS ls + piecesN bs.length ∧ v = .int .i64 3 ∧ H = [lgP lg d (((ls).length : Nat) : Int) ((sizeS (ls) : Nat) : Int), dk d D]) ∨
    (bs.length ≤ 3000 ∧ sizeS ls + piecesN bs.length ≤ 2048 ∧ ∃ D', LogD D' (ls ++ [bs]) ∧ D'.dn = false ∧ D'.ar = D.ar ∧ v = .int .i64 0 ∧ H = [lgP lg d (((ls ++ [bs]).length : Nat) : Int) ((sizeS (ls ++ [bs]) : Nat) : Int), dk d D']) ∨
    (bs.length ≤ 3000 ∧ D.ar = true ∧ ∃ D', Half D' ls bs ∧ v = .int .i64 4 ∧ H = [lgP lg d (((ls).length : Nat) : Int) ((sizeS (ls) : Nat) : Int), dk d D']))) :=
  (walPut_does lg d ls.length ((sizeS ls : Nat) : Int) x bs D h.ok (by rw [h.ws]; simp) (by have := h.room; omega) (by have := h.len; omega)).mono fun e H q => by
    cases e with
    | returned v =>
      replace q : _ ∧ _ := q
      by_cases hb : 3000 < bs.length
      · rw [put_long' hb] at q
        exact .inl ⟨hb, q.1, q.2⟩
      · rcases put_spec h hd (bs := bs) (by omega) with ⟨r1, r2⟩ | ⟨r1, D', r2, r3, r4, r5⟩ | ⟨r1, D', r2, r3⟩
        · rw [r2] at q
          exact .inr (.inl ⟨by omega, r1, q.1, q.2⟩)
        · rw [r2] at q
          refine .inr (.inr (.inl ⟨by omega, r1, D', r3, r4, r5, q.1, ?_⟩))
          rw [q.2, List.length_append]; rfl
        · rw [r2] at q
          exact .inr (.inr (.inr ⟨by omega, r1, D', r3, q.1, q.2⟩))
    | panicked c => exact q
    | outgrown => exact q

theorem few_does (x : Value) (l : List (List UInt8)) :
    Does Try.prog 24 #[x] (IsBB x l) [] (Ret (fun v H => ∃ b, v = .bool b ∧ (b = true → l.length ≤ 100) ∧ H = [])) := by
  refine Does.body (vs := [x]) (n := 24) Try.func24 rfl rfl rfl (fun w0 F hF => ?_)
  refine TC.seq (fun K1 hK1 => ?_)
  refine TC.region ?_
  refine TL.v (Want.plain rfl) rfl rfl (PV.assign rfl rfl) ?_
  refine TL.nil ?_
  refine TE.next hK1 ?_
  clear hK1
  refine TC.seq (fun K2 hK2 => ?_)
  refine TC.region ?_
  refine TL.v (Want.plain rfl) rfl rfl (PV.assign rfl rfl) ?_
  refine TL.nil ?_
  refine TE.next hK2 ?_
  clear hK2
  refine TC.seq (fun K3 hK3 => ?_)
  refine TC.seq (fun K4 hK4 => ?_)
  refine TC.region ?_
  refine TL.v (Want.plain rfl) rfl rfl (PV.move rfl rfl) ?_
  refine TL.v (Want.plain rfl) rfl rfl (PV.lenV rfl Try.underlying44 rfl hF.len) ?_
  refine TL.v (Want.plain rfl) rfl rfl (PV.move rfl rfl) ?_
  refine TL.nil ?_
  refine TE.next hK4 ?_
  clear hK4
  refine TC.block ?_
  refine TC.loop (α := (Nat) × (Int)) (fun ⟨k, n⟩ => k ≤ l.length) (fun ⟨k, n⟩ => [(0, x), (2, (.bool false)), (3, (.int .i64 (n))), (6, x), (7, (.int .i64 (((l.length : Nat) : Int)))), (8, (.int .i64 (((k : Nat) : Int))))]) (fun ⟨k, n⟩ => []) (fun ⟨k, n⟩ => l.length - k) (0, 0)
      (Nat.zero_le _) (Sub.r (Sub.r (Sub.cons rfl (by congr 1) (Sub.r (Sub.r (Sub.cons rfl (by congr 1) (Sub.nil _)))))))
      (fun _ s => s) (fun ⟨k, n⟩ hinv => ?_)
  obtain hk := hinv
  refine TC.seq (fun K5 hK5 => ?_)
  refine TC.region ?_
  refine TL.v (Want.plain rfl) rfl rfl (PV.lss rfl rfl rfl) ?_
  refine TL.dec (fun h9 => ?_) (fun h9 => ?_)
  · skip
    obtain ⟨b_a, off_a, cap_a, cs_a, T_a, z_a, us_a, hv_a, hc_a, hb_a, hl_a, hs_a, hE_a⟩ := IsL.at hF (j := k) (by omega)
    obtain ⟨u_a, rfl, hu_a⟩ := hE_a
    refine TL.nil ?_
    refine TE.next hK5 ?_
    clear hK5
    refine TC.seq (fun K6 hK6 => ?_)
    refine TC.yes rfl ?_
    refine TC.skip ?_
    refine TE.next hK6 ?_
    clear hK6
    refine TC.seq (fun K7 hK7 => ?_)
    refine TC.block ?_
    refine TC.seq (fun K8 hK8 => ?_)
    refine TC.region ?_
    refine TL.v (Want.plain rfl) rfl rfl (PV.indexSlV (r := off_a + k) hv_a rfl Try.underlying44 sz28 rfl rfl (by omega) (by omega) (by omega)) ?_
    refine TL.v (Want.plain rfl) rfl rfl (PV.load1X (v := u_a) rfl Try.underlying28 rfl rfl (RdX.frm hb_a (fun _ h => Frm.of h)) (by have := stretch_get (j := 0) hs_a rfl; simpa using this)) ?_
    refine TL.v (Want.plain rfl) rfl rfl (PV.assign rfl rfl) ?_
    refine TL.nil ?_
    refine TE.next hK8 ?_
    clear hK8
    refine TC.region ?_
    refine TL.v (Want.plain rfl) rfl rfl (PV.move rfl rfl) ?_
    refine TL.v (Want.plain rfl) rfl rfl (PV.move rfl rfl) ?_
    refine TL.v (Want.plain rfl) rfl rfl (PV.lenV rfl Try.underlying28 rfl hu_a.len) ?_
    refine TL.v (Want.plain rfl) rfl rfl (PV.add (r := IntKind.i64.wrap (n + ((l[k].length : Nat) : Int))) rfl rfl rfl rfl) ?_
    refine TL.v (Want.plain rfl) rfl rfl (PV.assign rfl rfl) ?_
    refine TL.nil ?_
    refine TE.blockEnd ?_
    refine TE.next hK7 ?_
    clear hK7
    refine TC.region ?_
    refine TL.v (Want.plain rfl) rfl rfl (PV.add rfl rfl rfl (wrap_i64 (by omega) (by omega))) ?_
    refine TL.v (Want.plain rfl) rfl rfl (PV.move rfl rfl) ?_
    refine TL.nil ?_
    exact TE.round ((k + 1, IntKind.i64.wrap (n + ((l[k].length : Nat) : Int))) : (Nat) × (Int)) (by show k + 1 ≤ l.length; omega) (by show l.length - (k + 1) < l.length - k; omega)
      (Sub.r (Sub.r (Sub.r (Sub.r (Sub.r (Sub.cons rfl (by simp) (Sub.nil _)))))))
      (fun _ s => s)
  · skip
    refine TL.nil ?_
    refine TE.next hK5 ?_
    clear hK5
    refine TC.seq (fun K9 hK9 => ?_)
    refine TC.no rfl ?_
    refine TC.exit ?_
    refine TE.pass ?_
    clear hK9
    refine TE.pass ?_
    refine TE.hit ?_
    refine TE.next hK3 ?_
    clear hK3
    refine TC.seq (fun K10 hK10 => ?_)
    refine TC.region ?_
    refine TL.v (Want.plain rfl) rfl rfl (PV.move rfl rfl) ?_
    refine TL.v (Want.plain rfl) rfl rfl (PV.leq rfl rfl rfl) ?_
    refine TL.dec (fun h18 => ?_) (fun h18 => ?_)
    · skip
      refine TL.v (Want.plain rfl) rfl rfl (PV.move rfl rfl) ?_
      refine TL.v (Want.met rfl rfl rfl) rfl rfl (PV.move rfl rfl) ?_
      refine TL.v (Want.met rfl rfl rfl) rfl rfl (PV.lenV rfl Try.underlying44 rfl hF.len) ?_
      refine TL.v (Want.met rfl rfl rfl) rfl rfl (PV.leq rfl rfl rfl) ?_
      refine TL.v (Want.plain rfl) rfl rfl (PV.pick rfl rfl rfl) ?_
      refine TL.v (Want.plain rfl) rfl rfl (PV.assign rfl rfl) ?_
      refine TL.nil ?_
      refine TE.next hK10 ?_
      clear hK10
      refine TC.ret ?_
      refine TE.weak (Sub.refl _) (fun _ s => sep_keep [] rfl s) ?_
      refine TE.ret1 rfl rfl ?_
      exact ⟨_, rfl, fun h => (by have := of_decide_eq_true h; omega), rfl⟩
    · skip
      refine TL.v (Want.plain rfl) rfl rfl (PV.move rfl rfl) ?_
      refine TL.unmet (b := false) rfl rfl rfl rfl (lb rfl) ?_
      refine TL.unmet (b := false) rfl rfl rfl rfl (lb rfl) ?_
      refine TL.unmet (b := false) rfl rfl rfl rfl (lb rfl) ?_
      refine TL.v (Want.plain rfl) rfl rfl (PV.pick rfl rfl rfl) ?_
      refine TL.v (Want.plain rfl) rfl rfl (PV.assign rfl rfl) ?_
      refine TL.nil ?_
      refine TE.next hK10 ?_
      clear hK10
      refine TC.ret ?_
      refine TE.weak (Sub.refl _) (fun _ s => sep_keep [] rfl s) ?_
      refine TE.ret1 rfl rfl ?_
      exact ⟨_, rfl, fun h => (by cases h), rfl⟩


theorem same_does (x y : Value) (a b : List (List UInt8)) :
    Does Try.prog 26 #[x, y] (fun F => IsBB x a F ∧ IsBB y b F) [] (Ret (fun v H => v = .bool (decide (a = b)) ∧ H = [])) := by
  refine Does.body (vs := [x, y]) (n := 28) Try.func26 rfl rfl rfl (fun w0 F hF => ?_)
  refine TC.seq (fun K1 hK1 => ?_)
  refine TC.region ?_
  refine TL.v (Want.plain rfl) rfl rfl (PV.assign rfl rfl) ?_
  refine TL.nil ?_
  refine TE.next hK1 ?_
  clear hK1
  refine TC.seq (fun K2 hK2 => ?_)
  refine TC.seq (fun K3 hK3 => ?_)
  refine TC.region ?_
  refine TL.v (Want.plain rfl) rfl rfl (PV.move rfl rfl) ?_
  refine TL.v (Want.plain rfl) rfl rfl (PV.lenV rfl Try.underlying44 rfl hF.1.len) ?_
  refine TL.v (Want.plain rfl) rfl rfl (PV.move rfl rfl) ?_
  refine TL.v (Want.plain rfl) rfl rfl (PV.lenV rfl Try.underlying44 rfl hF.2.len) ?_
  refine TL.v (Want.plain rfl) rfl rfl (PV.neq rfl rfl rfl) ?_
  refine TL.dec (fun h10 => ?_) (fun h10 => ?_)
  · skip
    refine TL.nil ?_
    refine TE.next hK3 ?_
    clear hK3
    refine TC.yes rfl ?_
    refine TC.seq (fun K4 hK4 => ?_)
    refine TC.region ?_
    refine TL.v (Want.plain rfl) rfl rfl (PV.assign rfl rfl) ?_
    refine TL.nil ?_
    refine TE.next hK4 ?_
    clear hK4
    refine TC.ret ?_
    refine TE.passRet ?_
    clear hK2
    refine TE.weak (Sub.refl _) (fun _ s => sep_keep [] rfl s) ?_
    refine TE.ret1 rfl rfl ?_
    exact ⟨by rw [decide_eq_false (fun e => h10 (by rw [e]))], rfl⟩
  · skip
    have hlen : a.length = b.length := by omega
    refine TL.nil ?_
    refine TE.next hK3 ?_
    clear hK3
    refine TC.no rfl ?_
    refine TC.skip ?_
    refine TE.next hK2 ?_
    clear hK2
    refine TC.seq (fun K5 hK5 => ?_)
    refine TC.seq (fun K6 hK6 => ?_)
    refine TC.region ?_
    refine TL.v (Want.plain rfl) rfl rfl (PV.move rfl rfl) ?_
    refine TL.v (Want.plain rfl) rfl rfl (PV.lenV rfl Try.underlying44 rfl hF.1.len) ?_
    refine TL.v (Want.plain rfl) rfl rfl (PV.move rfl rfl) ?_
    refine TL.nil ?_
    refine TE.next hK6 ?_
    clear hK6
    refine TC.block ?_
    refine TC.loop (α := (Nat)) (fun k => k ≤ a.length ∧ a.take k = b.take k) (fun k => [(0, x), (1, y), (12, (.int .i64 (((a.length : Nat) : Int)))), (13, (.int .i64 (((k : Nat) : Int))))]) (fun k => []) (fun k => a.length - k) 0
        ⟨Nat.zero_le _, rfl⟩ (Sub.r (Sub.r (Sub.r (Sub.cons rfl (by congr 1) (Sub.nil _)))))
        (fun _ s => s) (fun k hinv => ?_)
    obtain ⟨hk, he⟩ := hinv
    refine TC.seq (fun K7 hK7 => ?_)
    refine TC.region ?_
    refine TL.v (Want.plain rfl) rfl rfl (PV.lss rfl rfl rfl) ?_
    refine TL.dec (fun h14 => ?_) (fun h14 => ?_)
    · skip
      obtain ⟨b_a, off_a, cap_a, cs_a, T_a, z_a, us_a, hv_a, hc_a, hb_a, hl_a, hs_a, hE_a⟩ := IsL.at hF.1 (j := k) (by omega)
      obtain ⟨u_a, rfl, hu_a⟩ := hE_a
      obtain ⟨b_c, off_c, cap_c, cs_c, T_c, z_c, us_c, hv_c, hc_c, hb_c, hl_c, hs_c, hE_c⟩ := IsL.at hF.2 (j := k) (by omega)
      obtain ⟨u_c, rfl, hu_c⟩ := hE_c
      refine TL.nil ?_
      refine TE.next hK7 ?_
      clear hK7
      refine TC.seq (fun K8 hK8 => ?_)
      refine TC.yes rfl ?_
      refine TC.skip ?_
      refine TE.next hK8 ?_
      clear hK8
      refine TC.seq (fun K9 hK9 => ?_)
      refine TC.block ?_
      refine TC.seq (fun K10 hK10 => ?_)
      refine TC.region ?_
      refine TL.v (Want.plain rfl) rfl rfl (PV.move rfl rfl) ?_
      refine TL.v (Want.plain rfl) rfl rfl (PV.assign rfl rfl) ?_
      refine TL.nil ?_
      refine TE.next hK10 ?_
      clear hK10
      refine TC.seq (fun K11 hK11 => ?_)
      refine TC.draw (fun w => Frm F w ∧ True) mixed rfl (fun _ s => ⟨Frm.of s, trivial⟩) ?_
      refine TD.take (i := 0) rfl (by kernel_rfl) (by kernel_rfl) (by kernel_rfl) (fun _ _ _ _ h => h) (Want.plain rfl) rfl rfl (PV.move rfl rfl) ?_
      refine TD.take (i := 1) rfl (by kernel_rfl) (by kernel_rfl) (by kernel_rfl) (fun _ _ _ _ h => h) (Want.plain rfl) rfl rfl (PV.move rfl rfl) ?_
      refine TD.take (i := 2) rfl (by kernel_rfl) (by kernel_rfl) (by kernel_rfl) (fun _ _ _ _ h => h) (Want.plain rfl) rfl rfl (PV.indexSlV (r := off_a + k) hv_a rfl Try.underlying44 sz28 rfl rfl (by omega) (by omega) (by omega)) ?_
      refine TD.take (i := 3) rfl (by kernel_rfl) (by kernel_rfl) (by kernel_rfl) (fun _ _ _ _ h => h) (Want.plain rfl) rfl rfl (PV.load1X (v := u_a) rfl Try.underlying28 rfl rfl (RdX.frm hb_a (fun _ h => h.1)) (by have := stretch_get (j := 0) hs_a rfl; simpa using this)) ?_
      refine TD.take (i := 4) rfl (by kernel_rfl) (by kernel_rfl) (by kernel_rfl) (fun _ _ _ _ h => h) (Want.plain rfl) rfl rfl (PV.bytesStr (l := a[k]) rfl Try.underlying28 Try.underlying5 Try.underlying9 rfl (fun _ _ => hu_a.src (fun _ h => h.1))) ?_
      refine TD.take (i := 5) rfl (by kernel_rfl) (by kernel_rfl) (by kernel_rfl) (fun _ _ _ _ h => h) (Want.plain rfl) rfl rfl (PV.move rfl rfl) ?_
      refine TD.take (i := 6) rfl (by kernel_rfl) (by kernel_rfl) (by kernel_rfl) (fun _ _ _ _ h => h) (Want.plain rfl) rfl rfl (PV.move rfl rfl) ?_
      refine TD.take (i := 7) rfl (by kernel_rfl) (by kernel_rfl) (by kernel_rfl) (fun _ _ _ _ h => h) (Want.plain rfl) rfl rfl (PV.indexSlV (r := off_c + k) hv_c rfl Try.underlying44 sz28 rfl rfl (by omega) (by omega) (by omega)) ?_
      refine TD.take (i := 8) rfl (by kernel_rfl) (by kernel_rfl) (by kernel_rfl) (fun _ _ _ _ h => h) (Want.plain rfl) rfl rfl (PV.load1X (v := u_c) rfl Try.underlying28 rfl rfl (RdX.frm hb_c (fun _ h => h.1)) (by have := stretch_get (j := 0) hs_c rfl; simpa using this)) ?_
      refine TD.take (i := 9) rfl (by kernel_rfl) (by kernel_rfl) (by kernel_rfl) (fun _ _ _ _ h => h) (Want.plain rfl) rfl rfl (PV.bytesStr (l := b[k]) rfl Try.underlying28 Try.underlying5 Try.underlying9 rfl (fun _ _ => hu_c.src (fun _ h => h.1))) ?_
      refine TD.take (i := 10) rfl (by kernel_rfl) (by kernel_rfl) (by kernel_rfl) (fun _ _ _ _ h => h) (Want.plain rfl) rfl rfl (PV.strNeq (a := a[k]) (b := b[k]) rfl rfl rfl) ?_
      refine TD.dec (fun h26 => ?_) (fun h26 => ?_)
      · skip
        refine TD.done (by kernel_rfl) ?_
        refine TE.next hK11 ?_
        clear hK11
        refine TC.yes rfl ?_
        refine TC.seq (fun K12 hK12 => ?_)
        refine TC.region ?_
        refine TL.v (Want.plain rfl) rfl rfl (PV.assign rfl rfl) ?_
        refine TL.nil ?_
        refine TE.next hK12 ?_
        clear hK12
        refine TC.ret ?_
        refine TE.blockRet ?_
        refine TE.passRet ?_
        clear hK9
        refine TE.passRet ?_
        refine TE.blockRet ?_
        refine TE.passRet ?_
        clear hK5
        refine TE.weak (Sub.refl _) (fun _ s => sep_keep [] rfl s) ?_
        refine TE.ret1 rfl rfl ?_
        exact ⟨by rw [decide_eq_false]; intro e; subst e; exact h26 rfl, rfl⟩
      · skip
        refine TD.done (by kernel_rfl) ?_
        refine TE.next hK11 ?_
        clear hK11
        refine TC.no rfl ?_
        refine TC.skip ?_
        refine TE.blockEnd ?_
        refine TE.next hK9 ?_
        clear hK9
        refine TC.region ?_
        refine TL.v (Want.plain rfl) rfl rfl (PV.add rfl rfl rfl (wrap_i64 (by omega) (by omega))) ?_
        refine TL.v (Want.plain rfl) rfl rfl (PV.move rfl rfl) ?_
        refine TL.nil ?_
        exact TE.round ((k + 1) : (Nat)) ⟨by omega, by rw [List.take_succ_eq_append_getElem (by omega), List.take_succ_eq_append_getElem (by omega), he, show a[k] = b[k] by simpa using h26]⟩ (by show a.length - (k + 1) < a.length - k; omega)
          (Sub.r (Sub.r (Sub.r (Sub.cons rfl (by simp) (Sub.nil _)))))
          (fun _ s => s)
    · skip
      refine TL.nil ?_
      refine TE.next hK7 ?_
      clear hK7
      refine TC.seq (fun K13 hK13 => ?_)
      refine TC.no rfl ?_
      refine TC.exit ?_
      refine TE.pass ?_
      clear hK13
      refine TE.pass ?_
      refine TE.hit ?_
      refine TE.next hK5 ?_
      clear hK5
      refine TC.seq (fun K14 hK14 => ?_)
      refine TC.region ?_
      refine TL.v (Want.plain rfl) rfl rfl (PV.assign rfl rfl) ?_
      refine TL.nil ?_
      refine TE.next hK14 ?_
      clear hK14
      refine TC.ret ?_
      refine TE.weak (Sub.refl _) (fun _ s => sep_keep [] rfl s) ?_
      refine TE.ret1 rfl rfl ?_
      obtain rfl : k = a.length := by omega
      rw [List.take_length, hlen, List.take_length] at he
      exact ⟨by rw [decide_eq_true he], rfl⟩


theorem bunch_src (i : Nat) {us : List Value} {ls : List (List UInt8)} {e k : Nat} {H : List HP} {G : Hl} (hi : Nat.blt i H.length = true) (hH : H.getD i (fun _ => True) = bunch us ls e) (hk : k < ls.length) {w0 : World} (s : Sat H G w0) : Src (Sat H G) (us.getD k undef) ls[k].length (u8s ls[k]) 1 := by
  have key : ∀ w, Sat H G w → IsB (us.getD k undef) ls[k] (hp w) := fun w ⟨h, d, e', x⟩ => by
    obtain ⟨h1, h2, d', rfl, a, _⟩ := sep_get i (lb hi) x
    rw [hH] at a
    obtain ⟨u, e1, k1, k2, dk, rfl, a3⟩ := bunch_at us ls e _ a.1 a.2 k hk
    rw [List.getD_eq_getElem?_getD, e1]
    refine subB_isB a3 fun b o q => ?_
    rw [e']; exact jn_some (jn_some (jn_some q))
  refine ⟨by simp [u8s], ?_⟩
  rcases key w0 s with ⟨h1, h2⟩ | ⟨b, off, cap, cs, T, z, h1, _⟩
  · exact .inl ⟨h1, by rw [h2]; rfl⟩
  · refine .inr ⟨⟨b, off, none⟩, cap, h1, fun w s' j u hj => ?_⟩
    rcases key w s' with ⟨h3, _⟩ | ⟨b', off', cap', cs', T', z', h3, _, _, h4, h5⟩
    · rw [h1] at h3; simp at h3
    · rw [h1] at h3
      simp only [Value.slice.injEq, Option.some.injEq, Addr.mk.injEq, and_true, true_and] at h3
      obtain ⟨⟨rfl, rfl⟩, _⟩ := h3
      rw [addL]
      have hl := (List.getElem?_eq_some_iff.1 hj).1
      rw [u8s_length] at hl
      have h4' : w.heap[b]? = some (.cells (List.toArray cs') T' z') := h4
      rw [cell_ofL h4', h5 j hl]
      rw [u8s_at hl] at hj
      exact hj

theorem fit7_does  :
    Does Try.prog 23 #[] (fun _ => True) [] (Ret (fun v H => v = .bool true ∧ H = [])) := by
  refine Does.body (vs := []) (n := 59) Try.func23 rfl rfl rfl (fun w0 F hF => ?_)
  refine TC.seq (fun K1 hK1 => ?_)
  refine TC.region ?_
  refine TL.v (Want.plain rfl) rfl rfl (PV.assign rfl rfl) ?_
  refine TL.nil ?_
  refine TE.next hK1 ?_
  clear hK1
  refine TC.seq (fun K2 hK2 => ?_)
  refine TC.region ?_
  refine TL.callR (A := []) (B := []) (Want.plain rfl) rfl rfl rfl nm13 rfl (dk_new) (fun _ s => s) (fun _ _ _ => trivial) (fun vR HR hR => ?_)
  obtain ⟨d, rfl, rfl⟩ := hR
  change TL _ _ _ _ _ _ _ _ _ [dk d (DS.new)]
  refine TL.v (Want.plain rfl) rfl rfl (PV.assign rfl rfl) ?_
  refine TL.nil ?_
  refine TE.next hK2 ?_
  clear hK2
  refine TC.seq (fun K3 hK3 => ?_)
  refine TC.seq (fun K4 hK4 => ?_)
  refine TC.region ?_
  refine TL.v (Want.plain rfl) rfl rfl (PV.move rfl rfl) ?_
  refine TL.v (Want.plain rfl) rfl rfl (PV.ptrNil rfl Try.underlying23 rfl rfl) ?_
  refine TL.nil ?_
  refine TE.next hK4 ?_
  clear hK4
  refine TC.no rfl ?_
  refine TC.skip ?_
  refine TE.next hK3 ?_
  clear hK3
  refine TC.seq (fun K5 hK5 => ?_)
  refine TC.region ?_
  refine TL.v (Want.plain rfl) rfl rfl (PV.move rfl rfl) ?_
  obtain ⟨D1, he1, hL1, ha1, hd1⟩ := LogD.open LogD.new rfl rfl
  refine TL.callR (A := [dk d (DS.new)]) (B := []) (Want.plain rfl) rfl rfl rfl nm25 rfl (openEq_does d (DS.new) D1 ([]) ((sizeS ([]) : Nat) : Int) DS.new_ok LogD.new.inn (by decide) he1) (fun _ s => s) (fun _ _ _ => trivial) (fun vR HR hR => ?_)
  obtain ⟨lg1, vr1, rfl, rfl⟩ := hR
  change TL _ _ _ _ _ _ _ _ _ [blkA lg1 [(.pointer (some ⟨d, 0, none⟩)), (.int .i64 (((([]).length : Nat) : Int))), (.int .i64 (((sizeS ([]) : Nat) : Int)))] 71, recsP 28 5 vr1 ([]), dk d (D1)]
  refine TL.recsLen 1 rfl rfl (fun hvl1 hvo1 => ?_)
  refine TL.v (Want.plain rfl) rfl rfl (PV.move rfl rfl) ?_
  refine TL.v (Want.plain rfl) rfl rfl (PV.extract (vs := [(.pointer (some ⟨lg1, 0, none⟩)), vr1, (.int .i64 0)]) rfl rfl rfl) ?_
  refine TL.v (Want.plain rfl) rfl rfl (PV.extract (vs := [(.pointer (some ⟨lg1, 0, none⟩)), vr1, (.int .i64 0)]) rfl rfl rfl) ?_
  refine TL.v (Want.plain rfl) rfl rfl (PV.extract (vs := [(.pointer (some ⟨lg1, 0, none⟩)), vr1, (.int .i64 0)]) rfl rfl rfl) ?_
  refine TL.v (Want.plain rfl) rfl rfl (PV.assign rfl rfl) ?_
  refine TL.v (Want.plain rfl) rfl rfl (PV.assign rfl rfl) ?_
  refine TL.v (Want.plain rfl) rfl rfl (PV.assign rfl rfl) ?_
  refine TL.nil ?_
  refine TE.next hK5 ?_
  clear hK5
  refine TC.seq (fun K6 hK6 => ?_)
  refine TC.seq (fun K7 hK7 => ?_)
  refine TC.region ?_
  refine TL.v (Want.plain rfl) rfl rfl (PV.move rfl rfl) ?_
  refine TL.v (Want.plain rfl) rfl rfl (PV.neq rfl rfl rfl) ?_
  refine TL.v (Want.plain rfl) rfl rfl (PV.move rfl rfl) ?_
  refine TL.v (Want.met rfl rfl rfl) rfl rfl (PV.move rfl rfl) ?_
  refine TL.v (Want.met rfl rfl rfl) rfl rfl (PV.lenV rfl Try.underlying44 rfl hvl1) ?_
  refine TL.v (Want.met rfl rfl rfl) rfl rfl (PV.to (v' := (.bool false)) (PV.neq rfl rfl rfl) rfl) ?_
  refine TL.v (Want.plain rfl) rfl rfl (PV.pick rfl rfl rfl) ?_
  refine TL.v (Want.plain rfl) rfl rfl (PV.move rfl rfl) ?_
  refine TL.v (Want.met rfl rfl rfl) rfl rfl (PV.move rfl rfl) ?_
  refine TL.v (Want.met rfl rfl rfl) rfl rfl (PV.ptrNil rfl Try.underlying49 rfl rfl) ?_
  refine TL.v (Want.plain rfl) rfl rfl (PV.pick rfl rfl rfl) ?_
  refine TL.v (Want.plain rfl) rfl rfl (PV.move rfl rfl) ?_
  refine TL.v (Want.met rfl rfl rfl) rfl rfl (PV.move rfl rfl) ?_
  refine TL.buildSlice (cells := #[(.int .u8 97)]) (Want.met rfl rfl rfl) rfl rfl rfl Try.underlying28 in5 rfl rfl rfl (by as_aux_lemma => kernel_rfl) (fun b30 => ?_)
  change TL _ _ _ _ _ _ _ _ _ [blkA b30 [(.int .u8 97)] 5, blkA lg1 [(.pointer (some ⟨d, 0, none⟩)), (.int .i64 (((([]).length : Nat) : Int))), (.int .i64 (((sizeS ([]) : Nat) : Int)))] 71, recsP 28 5 vr1 ([]), dk d (D1)]
  refine TL.convLit (i := 0) (H' := [obj b30 (cellsO [(.int .u8 97)] 5 (1, 2)), blkA lg1 [(.pointer (some ⟨d, 0, none⟩)), (.int .i64 (((([]).length : Nat) : Int))), (.int .i64 (((sizeS ([]) : Nat) : Int)))] 71, recsP 28 5 vr1 ([]), dk d (D1)]) (Want.met rfl rfl rfl) rfl rfl rfl Try.underlying28 Try.underlying5 rfl rfl rfl rfl ?_
  refine TL.callR (A := [blkA lg1 [(.pointer (some ⟨d, 0, none⟩)), (.int .i64 (((([]).length : Nat) : Int))), (.int .i64 (((sizeS ([]) : Nat) : Int)))] 71, dk d (D1)]) (B := [obj b30 (cellsO [(.int .u8 97)] 5 (1, 2)), recsP 28 5 vr1 ([])]) (Want.met rfl rfl rfl) rfl rfl rfl nm27 rfl (putLog_does lg1 d (D1) ([]) (.slice (some ⟨b30, 0, none⟩) (1) (1)) ([97]) hL1 hd1) (fun _ s => sep_selR [1, 2] rfl s) (fun g d s => IsB.w (isB_lit (bs := [97]) 0 (by simp) rfl rfl g d s)) (fun vR HR hR => ?_)
  rcases hR with ⟨hlong2, rfl, rfl⟩ | ⟨hsh2, hfull2, rfl, rfl⟩ | ⟨hsh2, hroom2, D2, hL2, hd2, ha2, rfl, rfl⟩ | ⟨hsh2, har2, D2, hH2, rfl, rfl⟩
  · exact absurd hlong2 (by decide)
  · exact absurd hfull2 (by decide)
  · skip
    have hnx2 : (([]) ++ [[97]] : List (List UInt8)) = [[97]] := rfl
    rw [hnx2] at hL2 ⊢
    change TL _ _ _ _ _ _ _ _ _ [blkA lg1 [(.pointer (some ⟨d, 0, none⟩)), (.int .i64 (((([[97]]).length : Nat) : Int))), (.int .i64 (((sizeS ([[97]]) : Nat) : Int)))] 71, dk d (D2), obj b30 (cellsO [(.int .u8 97)] 5 (1, 2)), recsP 28 5 vr1 ([])]
    refine TL.v (Want.met rfl rfl rfl) rfl rfl (PV.neq rfl rfl rfl) ?_
    refine TL.v (Want.plain rfl) rfl rfl (PV.pick rfl rfl rfl) ?_
    refine TL.nil ?_
    refine TE.next hK7 ?_
    clear hK7
    refine TC.no rfl ?_
    refine TC.skip ?_
    refine TE.next hK6 ?_
    clear hK6
    refine TC.seq (fun K8 hK8 => ?_)
    refine TC.region ?_
    refine TL.v (Want.plain rfl) rfl rfl (PV.move rfl rfl) ?_
    obtain ⟨D3, he3, hL3, ha3, hd3⟩ := LogD.open hL2 (ha2.trans ha1) hd2
    refine TL.callR (A := [dk d (D2)]) (B := [blkA lg1 [(.pointer (some ⟨d, 0, none⟩)), (.int .i64 (((([[97]]).length : Nat) : Int))), (.int .i64 (((sizeS ([[97]]) : Nat) : Int)))] 71, obj b30 (cellsO [(.int .u8 97)] 5 (1, 2)), recsP 28 5 vr1 ([])]) (Want.plain rfl) rfl rfl rfl nm25 rfl (openEq_does d (D2) D3 ([[97]]) ((sizeS ([[97]]) : Nat) : Int) hL2.ok hL2.inn (by rw [hL2.ws]; simp) he3) (fun _ s => sep_selR [1] rfl s) (fun _ _ _ => trivial) (fun vR HR hR => ?_)
    obtain ⟨lg3, vr3, rfl, rfl⟩ := hR
    change TL _ _ _ _ _ _ _ _ _ [blkA lg3 [(.pointer (some ⟨d, 0, none⟩)), (.int .i64 (((([[97]]).length : Nat) : Int))), (.int .i64 (((sizeS ([[97]]) : Nat) : Int)))] 71, recsP 28 5 vr3 ([[97]]), dk d (D3), blkA lg1 [(.pointer (some ⟨d, 0, none⟩)), (.int .i64 (((([[97]]).length : Nat) : Int))), (.int .i64 (((sizeS ([[97]]) : Nat) : Int)))] 71, obj b30 (cellsO [(.int .u8 97)] 5 (1, 2)), recsP 28 5 vr1 ([])]
    refine TL.recsLen 1 rfl rfl (fun hvl3 hvo3 => ?_)
    refine TL.v (Want.plain rfl) rfl rfl (PV.move rfl rfl) ?_
    refine TL.v (Want.plain rfl) rfl rfl (PV.extract (vs := [(.pointer (some ⟨lg3, 0, none⟩)), vr3, (.int .i64 0)]) rfl rfl rfl) ?_
    refine TL.v (Want.plain rfl) rfl rfl (PV.extract (vs := [(.pointer (some ⟨lg3, 0, none⟩)), vr3, (.int .i64 0)]) rfl rfl rfl) ?_
    refine TL.v (Want.plain rfl) rfl rfl (PV.extract (vs := [(.pointer (some ⟨lg3, 0, none⟩)), vr3, (.int .i64 0)]) rfl rfl rfl) ?_
    refine TL.v (Want.plain rfl) rfl rfl (PV.assign rfl rfl) ?_
    refine TL.v (Want.plain rfl) rfl rfl (PV.assign rfl rfl) ?_
    refine TL.v (Want.plain rfl) rfl rfl (PV.assign rfl rfl) ?_
    refine TL.nil ?_
    refine TE.next hK8 ?_
    clear hK8
    refine TC.seq (fun K9 hK9 => ?_)
    refine TC.region ?_
    refine TL.v (Want.plain rfl) rfl rfl (PV.move rfl rfl) ?_
    refine TL.v (Want.plain rfl) rfl rfl (PV.eql rfl rfl rfl) ?_
    refine TL.v (Want.plain rfl) rfl rfl (PV.move rfl rfl) ?_
    refine TL.v (Want.met rfl rfl rfl) rfl rfl (PV.move rfl rfl) ?_
    refine TL.v (Want.met rfl rfl rfl) rfl rfl (PV.lenV rfl Try.underlying44 rfl hvl3) ?_
    refine TL.v (Want.met rfl rfl rfl) rfl rfl (PV.to (v' := (.bool true)) (PV.eql rfl rfl rfl) rfl) ?_
    refine TL.v (Want.plain rfl) rfl rfl (PV.pick rfl rfl rfl) ?_
    refine TL.v (Want.plain rfl) rfl rfl (PV.move rfl rfl) ?_
    refine TL.v (Want.met rfl rfl rfl) rfl rfl (PV.move rfl rfl) ?_
    refine TL.mono (fun _ s => sep_selR [1] rfl s) ?_
    refine TL.recsOpen (fun us => ?_)
    change TL _ _ _ _ _ _ _ _ _ [own vr3 (([[97]] : List (List UInt8)).length) (us) 28 1, bunch us ([[97]] : List (List UInt8)) 5, blkA lg3 [(.pointer (some ⟨d, 0, none⟩)), (.int .i64 (((([[97]]).length : Nat) : Int))), (.int .i64 (((sizeS ([[97]]) : Nat) : Int)))] 71, dk d (D3), blkA lg1 [(.pointer (some ⟨d, 0, none⟩)), (.int .i64 (((([[97]]).length : Nat) : Int))), (.int .i64 (((sizeS ([[97]]) : Nat) : Int)))] 71, obj b30 (cellsO [(.int .u8 97)] 5 (1, 2)), recsP 28 5 vr1 ([])]
    refine TL.fact (p := us.length = ([[97]] : List (List UInt8)).length * 1) (fun w m => m.own_len (i := 0) (lb rfl) rfl) (fun hul => ?_)
    replace hul : us.length = 1 := hul
    refine TL.ownAt 0 rfl rfl (by decide) (fun g cap hv hcap => ?_)
    replace hv : vr3 = .slice (some ⟨g, 0, none⟩) 1 cap := hv
    refine TL.v (Want.met rfl rfl rfl) rfl rfl (PV.indexSlV (r := 0) hv rfl Try.underlying44 sz28 rfl rfl (by omega) (by omega) rfl) ?_
    refine TL.v (Want.met rfl rfl rfl) rfl rfl (PV.load1X (v := (us.getD 0 undef)) rfl Try.underlying28 rfl rfl (RdX.own 0 rfl hv rfl) (by simp [List.getD_eq_getElem?_getD, hul])) ?_
    refine TL.v (Want.met rfl rfl rfl) rfl rfl (PV.bytesStr (l := [97]) rfl Try.underlying28 Try.underlying5 Try.underlying9 rfl (fun w s => bunch_src 1 rfl rfl (k := 0) (by decide) s)) ?_
    refine TL.v (Want.met rfl rfl rfl) rfl rfl (PV.strEql (a := [97]) (b := [97]) rfl rfl rfl) ?_
    refine TL.dec (fun h53 => ?_) (fun h53 => ?_)
    · skip
      refine TL.v (Want.plain rfl) rfl rfl (PV.pick rfl rfl rfl) ?_
      refine TL.v (Want.plain rfl) rfl rfl (PV.move rfl rfl) ?_
      refine TL.callR (A := []) (B := [own vr3 (([[97]] : List (List UInt8)).length) (us) 28 1, bunch us ([[97]] : List (List UInt8)) 5, blkA lg3 [(.pointer (some ⟨d, 0, none⟩)), (.int .i64 (((([[97]]).length : Nat) : Int))), (.int .i64 (((sizeS ([[97]]) : Nat) : Int)))] 71, dk d (D3), blkA lg1 [(.pointer (some ⟨d, 0, none⟩)), (.int .i64 (((([[97]]).length : Nat) : Int))), (.int .i64 (((sizeS ([[97]]) : Nat) : Int)))] 71, obj b30 (cellsO [(.int .u8 97)] 5 (1, 2)), recsP 28 5 vr1 ([])]) (Want.met rfl rfl rfl) rfl rfl rfl nm32 rfl (of_does (.slice none 0 0) []) (fun _ s => s) (fun _ _ _ => .inl ⟨rfl, rfl⟩) (fun vR HR hR => ?_)
      obtain ⟨rfl, rfl⟩ := hR
      change TL _ _ _ _ _ _ _ _ _ [own vr3 (([[97]] : List (List UInt8)).length) (us) 28 1, bunch us ([[97]] : List (List UInt8)) 5, blkA lg3 [(.pointer (some ⟨d, 0, none⟩)), (.int .i64 (((([[97]]).length : Nat) : Int))), (.int .i64 (((sizeS ([[97]]) : Nat) : Int)))] 71, dk d (D3), blkA lg1 [(.pointer (some ⟨d, 0, none⟩)), (.int .i64 (((([[97]]).length : Nat) : Int))), (.int .i64 (((sizeS ([[97]]) : Nat) : Int)))] 71, obj b30 (cellsO [(.int .u8 97)] 5 (1, 2)), recsP 28 5 vr1 ([])]
      refine TL.v (Want.met rfl rfl rfl) rfl rfl (PV.to (v' := (.bool true)) (PV.eql rfl rfl rfl) (congrArg Value.bool (by decide))) ?_
      refine TL.v (Want.plain rfl) rfl rfl (PV.pick rfl rfl rfl) ?_
      refine TL.v (Want.plain rfl) rfl rfl (PV.assign rfl rfl) ?_
      refine TL.nil ?_
      refine TE.next hK9 ?_
      clear hK9
      refine TC.ret ?_
      refine TE.weak (Sub.refl _) (fun _ s => sep_keep [] rfl s) ?_
      refine TE.ret1 rfl rfl ?_
      exact ⟨rfl, rfl⟩
    · exact absurd rfl h53
  · exact absurd har2 (by rw [ha1]; decide)


end Go.Proofs.Ytocdameafihnaaa
