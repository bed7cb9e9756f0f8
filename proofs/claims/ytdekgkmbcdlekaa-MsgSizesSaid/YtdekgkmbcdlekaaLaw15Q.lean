/-
  Messages and records that the law makes, in plain words: they are such that come back, and their bytes.
-/
import Derived.Test.YtdekgkmbcdlekaaLaw15P
import Derived.Test.YtdekgkmbcdlekaaCodecU
namespace Api
open Go Leg Codec

theorem flatsL_inj : ∀ (a b : List CellT), a.length = b.length → flats a = flats b → a = b
  | [], [], _, _ => rfl
  | [], _ :: _, h, _ => by cases h
  | _ :: _, [], h, _ => by cases h
  | x :: a, y :: b, h, e => by
    simp only [flats, List.flatMap_cons] at e
    obtain ⟨h1, h2⟩ := List.append_inj e (by simp [CellT.flat])
    rw [flat7_inj h1, flatsL_inj a b (by simpa using h) h2]
theorem flats_inj {v w : Vector CellT 4} (h : flats v.toList = flats w.toList) : v = w := Vector.toList_inj.1 (flatsL_inj _ _ (by simp) h)
theorem wf_bd {n : Int} (h : (Lit.int .i64 n).wf = true) : -9223372036854775808 ≤ n ∧ n < 9223372036854775808 := by
  have m1 : IntKind.i64.min = -9223372036854775808 := by decide
  have m2 : IntKind.i64.max = 9223372036854775807 := by decide
  simp only [Lit.wf, m1, m2, Bool.and_eq_true, decide_eq_true_eq] at h
  omega
theorem addE_mem : ∀ (l : List Int) (s : Int), (addE l s).2 = 0 → ∀ n ∈ l, okN n = true
  | [], _, _, n, hn => by cases hn
  | a :: l, s, h, n, hn => by
    rw [addE] at h
    by_cases h1 : okN a = true
    · rw [if_pos h1] at h
      by_cases h2 : a > 1099511627776 - s
      · rw [if_pos h2] at h; cases h
      · rw [if_neg h2] at h
        rcases List.mem_cons.1 hn with rfl | hn
        · exact h1
        · exact addE_mem l _ h n hn
    · rw [if_neg h1] at h; cases h
theorem okN_small {n : Int} (h : okN n = true) : Small n := by
  have : 0 ≤ n ∧ n ≤ 1099511627776 := of_decide_eq_true h
  exact ⟨this.1, by omega⟩
theorem TameC.of {c : CellT} (h : okC c = true) : TameC c := by
  unfold okC at h
  rw [Bool.and_eq_true, Bool.and_eq_true, decide_eq_true_iff] at h
  refine ⟨okN_small h.1.1, okN_small h.1.2, fun j hj => okN_small (addE_mem _ _ h.2 _ ?_)⟩
  rw [← Vector.getElem_toList (h := by simpa using hj)]
  exact List.getElem_mem _
theorem okCs_tame {v : Vector CellT 4} (h : okCs v = true) (k : Nat) (hk : k < 4) : TameC v[k] := TameC.of (of_decide_eq_true h k hk)
theorem TameR.of {x : RowT} (hw : WF x.flat) (h : rightR x = true) : TameR x := by
  unfold rightR at h
  rw [Bool.and_eq_true, Bool.and_eq_true, decide_eq_true_iff, decide_eq_true_iff] at h
  obtain ⟨⟨h1, h2⟩, h3⟩ := h
  have hh : ∀ (j : Nat) (hj : j < 5), (0 : Int) ≤ x.heir[j] ∧ okCs x.left[j] = true ∧ (x.heir[j] = (0 : Int) → flats x.left[j].toList = flats RowT.zero.left[0].toList) := fun j hj => by
    have := h3 j hj
    unfold hokR at this
    rw [Bool.and_eq_true, Bool.and_eq_true, decide_eq_true_iff, decide_eq_true_iff] at this
    exact ⟨this.1.1, this.1.2, this.2⟩
  refine ⟨⟨h1, (wf_bd (hw _ (by simp [RowT.flat]))).2⟩, fun k hk => okCs_tame h2 k hk, fun j hj => ⟨(hh j hj).1, (wf_bd (hw _ ?_)).2⟩, fun j k hj hk => okCs_tame (hh j hj).2.1 k hk, fun j hj e => flats_inj ((hh j hj).2.2 e)⟩
  have : x.heir[j] ∈ x.heir.toList := by rw [← Vector.getElem_toList (h := by simpa using hj)]; exact List.getElem_mem _
  simp [RowT.flat, this]
theorem wf_cons {n : Int} {l : List Int} (h : 0 ≤ n ∧ n < 9223372036854775808) (hl : WF l) : WF (n :: l) := fun m hm => by
  rcases List.mem_cons.1 hm with rfl | hm
  · exact wf_small h
  · exact hl m hm
theorem wf_app {a b : List Int} (ha : WF a) (hb : WF b) : WF (a ++ b) := fun m hm => by
  rcases List.mem_append.1 hm with hm | hm
  · exact ha m hm
  · exact hb m hm
theorem wf_nil : WF [] := fun _ h => by cases h
theorem OkB.wf {b : BallotT} (h : OkB b) : WF b.flat := wf_cons h.1 (wf_cons ⟨h.2.1, by have := h.2.2; omega⟩ wf_nil)
theorem OkC.wf {c : ChangeT} (h : OkC c) : WF c.flat := wf_cons ⟨h.1.1, by have := h.1.2; omega⟩ (wf_cons ⟨h.2.1.1, by have := h.2.1.2; omega⟩ (wf_cons ⟨h.2.2.1, by have := h.2.2.2; omega⟩ wf_nil))
theorem OkV.wf {v : ViewT} (h : OkV v) : WF v.flat := wf_cons h.1 (wf_cons ⟨h.2.1.1, by have := h.2.1.2; omega⟩ fun n hn => by
  obtain ⟨j, hj, rfl⟩ := List.getElem_of_mem hn
  rw [Vector.length_toList] at hj
  have := h.2.2 j hj
  simpa using wf_small ⟨this.1, by omega⟩)
theorem nm_zero : Nm 0 := ⟨by decide, by decide⟩
theorem OkB.zero : OkB .zero := ⟨nm_zero, by decide, by decide⟩
theorem OkC.zero : OkC .zero := ⟨by decide, by decide, by decide⟩
theorem OkV.zero : OkV .zero := ⟨nm_zero, by decide, fun i h => by have := Rng.zero i h; omega⟩
theorem OkM.wf {m : MsgT} (h : OkM m) : WF m.flat := wf_cons ⟨h.kind.1, by have := h.kind.2; omega⟩ (wf_cons ⟨h.whose.1, by have := h.whose.2; omega⟩ (wf_app h.row.wf (wf_cons h.version (wf_cons h.epoch (wf_app h.ballot.wf (wf_app h.had.wf (wf_app h.change.wf h.view.wf)))))))
theorem OkM.norm {m : MsgT} (h : OkM m) : OkM (normM m) := by
  unfold normM
  have z : (0 : Int) ≤ 0 ∧ (0 : Int) < 5 := by decide
  split
  · exact ⟨h.kind, h.whose, h.row, nm_zero, nm_zero, .zero, .zero, .zero, .zero⟩
  split
  · exact ⟨h.kind, z, tame_rzero, h.version, nm_zero, .zero, .zero, .zero, .zero⟩
  split
  · exact ⟨h.kind, z, tame_rzero, nm_zero, h.epoch, h.ballot, .zero, .zero, .zero⟩
  split
  · exact ⟨h.kind, z, tame_rzero, nm_zero, h.epoch, h.ballot, h.had, h.change, .zero⟩
  split
  · exact ⟨h.kind, z, tame_rzero, nm_zero, h.epoch, h.ballot, .zero, h.change, .zero⟩
  split
  · exact ⟨h.kind, z, tame_rzero, nm_zero, nm_zero, .zero, .zero, .zero, h.view⟩
  · exact ⟨h.kind, h.whose, tame_rzero, nm_zero, nm_zero, .zero, .zero, .zero, h.view⟩
theorem OkM.zero : OkM .zero := ⟨by decide, by decide, tame_rzero, nm_zero, nm_zero, .zero, .zero, .zero, .zero⟩
theorem normM_kind (m : MsgT) : (normM m).kind = m.kind := by unfold normM; split <;> (try rfl); split <;> (try rfl); split <;> (try rfl); split <;> (try rfl); split <;> (try rfl); split <;> rfl
theorem encM_norm {m : MsgT} (h : OkM m) : encM (normM m) = encM m := by
  have hk := h.kind
  unfold normM
  split
  · rename_i c; simp only [encM, c, if_true]
  split
  · rename_i c0 c; simp only [encM, if_neg c0, if_pos c]
  split
  · rename_i c0 c1 c; simp only [encM, if_neg c0, if_neg c1, if_pos c]
  split
  · rename_i c0 c1 c2 c; simp only [encM, if_neg c0, if_neg c1, if_neg c2, if_pos c]
  split
  · rename_i c0 c1 c2 c3 c; simp only [encM, if_neg c0, if_neg c1, if_neg c2, if_neg c3, if_pos c]
  split
  · rename_i c0 c1 c2 c3 c4 c; simp only [encM, if_neg c0, if_neg c1, if_neg c2, if_neg c3, if_neg c4, if_pos c]
  · rename_i c0 c1 c2 c3 c4 c5; simp only [encM, if_neg c0, if_neg c1, if_neg c2, if_neg c3, if_neg c4, if_neg c5]
theorem dec_enc {m : MsgT} (h : OkM m) (ho : okM m = true) : readMsgP (encM (normM m)) = some ((normM m, true), []) := by
  have := msg_enc h []
  rw [ho, List.append_nil] at this
  rw [encM_norm h]; exact this
theorem decM_enc {m : MsgT} (h : OkM m) (ho : okM m = true) : decM (encM (normM m)) = (normM m, 0) := by unfold decM; rw [dec_enc h ho]
theorem decM_cut {m : MsgT} (h : OkM m) (ho : okM m = true) {k : Nat} (hk : k < (encM (normM m)).length) : decM ((encM (normM m)).take k) = (.zero, 1) := by
  unfold decM; rw [Ext.cut Ext.msg (dec_enc h ho) hk]
theorem decM_more {m : MsgT} (h : OkM m) (ho : okM m = true) (b : UInt8) : decM (encM (normM m) ++ [b]) = (.zero, 1) := by
  have := Ext.msg _ _ _ [b] (dec_enc h ho)
  unfold decM; rw [this]; rfl
theorem encM_len (m : MsgT) : (encM m).length ≤ 3000 := by
  have h1 := encRow_len m.row
  have h2 := encs_len m.ballot.flat
  have h3 := encs_len m.had.flat
  have h4 := encs_len m.change.flat
  have h5 := encs_len m.view.flat
  have h6 := encs_len [m.kind, m.whose]
  have h7 := encs_len [m.kind, m.version]
  have h8 := encs_len [m.kind, m.epoch]
  have h9 := encs_len [m.kind]
  simp only [BallotT.flat, ChangeT.flat, ViewT.flat, List.length_cons, List.length_nil, Vector.length_toList] at h2 h3 h4 h5 h6 h7 h8 h9
  unfold encM
  split
  · simp only [List.length_append]; omega
  split
  · omega
  split
  · simp only [List.length_append, BallotT.flat]; omega
  split
  · simp only [List.length_append, BallotT.flat, ChangeT.flat]; omega
  split
  · simp only [List.length_append, BallotT.flat, ChangeT.flat]; omega
  split
  · simp only [List.length_append, ViewT.flat]; omega
  split
  · simp only [List.length_append, ViewT.flat]; omega
  · simp
theorem encM_pos {m : MsgT} (hk : 0 ≤ m.kind ∧ m.kind < 10) : 0 < (encM m).length := by
  have h := fun n l => show 0 < (encs (n :: l)).length by have := encU_pos (n % 18446744073709551616).toNat; rw [encs_cons, List.length_append]; unfold encN; omega
  have a := h m.kind [m.whose]
  have b := h m.kind [m.version]
  have c := h m.kind [m.epoch]
  have d := h m.kind []
  unfold encM
  split
  · simp only [List.length_append]; omega
  split
  · omega
  split
  · simp only [List.length_append]; omega
  split
  · simp only [List.length_append]; omega
  split
  · simp only [List.length_append]; omega
  split
  · simp only [List.length_append]; omega
  split
  · simp only [List.length_append]; omega
  rename_i c0 c1 c2 c3 c4 c5 c6
  have := kRow_cases c0 c2
  omega
theorem OkM.full {m : MsgT} {v : ViewT} (hr : TameR m.row) (hv : OkV v) : OkM (fullM m v) := by
  have g : ∀ n : Int, 0 ≤ n % 1024 ∧ n % 1024 < 9223372036854775808 := fun n => by omega
  have f : ∀ n : Int, 0 ≤ n % 256 % 5 ∧ n % 256 % 5 < 5 := fun n => by omega
  refine ⟨?_, f _, hr, g _, g _, ⟨g _, f _⟩, ⟨g _, f _⟩, ⟨?_, f _, f _⟩, hv⟩
  · show 0 ≤ m.kind % 256 % 10 ∧ m.kind % 256 % 10 < 10; omega
  · show 0 ≤ m.change.kind % 2 ∧ m.change.kind % 2 < 2; omega
theorem okM_full {m : MsgT} {v : ViewT} (hr : rightR m.row = true) (hv : rightV v = true) : okM (fullM m v) = true := by
  unfold okM
  split
  · exact hr
  split
  · exact hv
  · rfl
/-- The law's records. -/
def fullR (a b c d : Int) (x : RowT) (v : ViewT) : RecT := ⟨a % 256 % 6, b % 256 % 5, x, b % 1024, ⟨c % 1024, d % 256 % 5⟩, ⟨c % 2, d % 256 % 5, d % 4⟩, v⟩
def recM (a b c d : Int) (x : RowT) (v : ViewT) : RecT := normR (fullR a b c d x v)
theorem OkRc.wf {m : RecT} (h : OkRc m) : WF m.flat := wf_cons ⟨h.kind.1, by have := h.kind.2; omega⟩ (wf_cons ⟨h.whose.1, by have := h.whose.2; omega⟩ (wf_app h.row.wf (wf_cons h.epoch (wf_app h.ballot.wf (wf_app h.change.wf h.view.wf)))))
theorem OkRc.norm {m : RecT} (h : OkRc m) : OkRc (normR m) := by
  unfold normR
  have z : (0 : Int) ≤ 0 ∧ (0 : Int) < 5 := by decide
  split
  · exact ⟨h.kind, z, h.row, nm_zero, .zero, .zero, .zero⟩
  split
  · exact ⟨h.kind, h.whose, h.row, nm_zero, .zero, .zero, .zero⟩
  split
  · exact ⟨h.kind, h.whose, tame_rzero, nm_zero, .zero, .zero, .zero⟩
  split
  · exact ⟨h.kind, z, tame_rzero, h.epoch, h.ballot, .zero, .zero⟩
  split
  · exact ⟨h.kind, z, tame_rzero, h.epoch, h.ballot, h.change, .zero⟩
  · exact ⟨h.kind, z, tame_rzero, nm_zero, .zero, .zero, h.view⟩
theorem OkRc.zero : OkRc .zero := ⟨by decide, by decide, tame_rzero, nm_zero, .zero, .zero, .zero⟩
theorem encR_norm {m : RecT} (h : OkRc m) : encR (normR m) = encR m := by
  have hk := h.kind
  unfold normR
  split
  · rename_i c; simp only [encR, if_pos c]
  split
  · rename_i c0 c; simp only [encR, if_neg c0, if_pos c]
  split
  · rename_i c0 c1 c; simp only [encR, if_neg c0, if_neg c1, if_pos c]
  split
  · rename_i c0 c1 c2 c; simp only [encR, if_neg c0, if_neg c1, if_neg c2, if_pos c]
  split
  · rename_i c0 c1 c2 c3 c; simp only [encR, if_neg c0, if_neg c1, if_neg c2, if_neg c3, if_pos c]
  · rename_i c0 c1 c2 c3 c4; simp only [encR, if_neg c0, if_neg c1, if_neg c2, if_neg c3, if_neg c4]
theorem decR_enc {m : RecT} (h : OkRc m) (ho : okRc m = true) : decR (encR (normR m)) = (normR m, 0) := by
  have := rec_enc h []
  rw [ho, List.append_nil] at this
  unfold decR; rw [encR_norm h, this]
theorem OkRc.full {a b c d : Int} {x : RowT} {v : ViewT} (hr : TameR x) (hv : OkV v) : OkRc (fullR a b c d x v) := by
  have g : ∀ n : Int, 0 ≤ n % 1024 ∧ n % 1024 < 9223372036854775808 := fun n => by omega
  have f : ∀ n : Int, 0 ≤ n % 256 % 5 ∧ n % 256 % 5 < 5 := fun n => by omega
  refine ⟨?_, f _, hr, g _, ⟨g _, f _⟩, ⟨?_, f _, ?_⟩, hv⟩
  · show 0 ≤ a % 256 % 6 ∧ a % 256 % 6 < 6; omega
  · show 0 ≤ c % 2 ∧ c % 2 < 2; omega
  · show 0 ≤ d % 4 ∧ d % 4 < 5; omega
theorem okRc_full {a b c d : Int} {x : RowT} {v : ViewT} (hr : rightR x = true) (hv : rightV v = true) : okRc (fullR a b c d x v) = true := by
  unfold okRc
  split
  · exact hr
  split
  · exact hv
  · rfl
/-- What was read of any bytes. -/
theorem rightR_zero : rightR RowT.zero = true := by decide +kernel
theorem msg_row {m : MsgT} {bs r : List UInt8} (h : readMsgP bs = some ((m, true), r)) : rightR m.row = true := by
  obtain ⟨k, r1, _, h⟩ := pb_inv h
  split at h
  · obtain ⟨_, _, _, h⟩ := pb_inv h
    obtain ⟨_, _, _, h⟩ := pb_inv h
    obtain ⟨e, _⟩ := pr_inv h
    injection e with e1 e2; subst e1; exact e2
  have fin : ∀ {m' : MsgT} {g : Bool} {b r : List UInt8}, pr (m', g) b = some ((m, true), r) → m'.row = .zero → rightR m.row = true := fun h e => by
    obtain ⟨e', _⟩ := pr_inv h
    injection e' with e1 e2; subst e1; rw [e]; exact rightR_zero
  split at h
  · obtain ⟨_, _, _, h⟩ := pb_inv h; exact fin h rfl
  split at h
  · obtain ⟨_, _, _, h⟩ := pb_inv h; obtain ⟨_, _, _, h⟩ := pb_inv h; exact fin h rfl
  split at h
  · obtain ⟨_, _, _, h⟩ := pb_inv h; obtain ⟨_, _, _, h⟩ := pb_inv h; obtain ⟨_, _, _, h⟩ := pb_inv h; obtain ⟨_, _, _, h⟩ := pb_inv h; exact fin h rfl
  split at h
  · obtain ⟨_, _, _, h⟩ := pb_inv h; obtain ⟨_, _, _, h⟩ := pb_inv h; obtain ⟨_, _, _, h⟩ := pb_inv h; exact fin h rfl
  split at h
  · obtain ⟨_, _, _, h⟩ := pb_inv h; exact fin h rfl
  split at h
  · obtain ⟨_, _, _, h⟩ := pb_inv h; obtain ⟨_, _, _, h⟩ := pb_inv h; exact fin h rfl
  · exact fin h rfl
theorem rec_row {m : RecT} {bs r : List UInt8} (h : readRecP bs = some ((m, true), r)) : rightR m.row = true := by
  obtain ⟨k, r1, _, h⟩ := pb_inv h
  split at h
  · obtain ⟨_, _, _, h⟩ := pb_inv h
    obtain ⟨e, _⟩ := pr_inv h
    injection e with e1 e2; subst e1; exact e2
  split at h
  · obtain ⟨_, _, _, h⟩ := pb_inv h
    obtain ⟨_, _, _, h⟩ := pb_inv h
    obtain ⟨e, _⟩ := pr_inv h
    injection e with e1 e2; subst e1; exact e2
  have fin : ∀ {m' : RecT} {g : Bool} {b r : List UInt8}, pr (m', g) b = some ((m, true), r) → m'.row = .zero → rightR m.row = true := fun h e => by
    obtain ⟨e', _⟩ := pr_inv h
    injection e' with e1 e2; subst e1; rw [e]; exact rightR_zero
  split at h
  · obtain ⟨_, _, _, h⟩ := pb_inv h; exact fin h rfl
  split at h
  · obtain ⟨_, _, _, h⟩ := pb_inv h; obtain ⟨_, _, _, h⟩ := pb_inv h; exact fin h rfl
  split at h
  · obtain ⟨_, _, _, h⟩ := pb_inv h; obtain ⟨_, _, _, h⟩ := pb_inv h; obtain ⟨_, _, _, h⟩ := pb_inv h; exact fin h rfl
  split at h
  · obtain ⟨_, _, _, h⟩ := pb_inv h; exact fin h rfl
  · exact fin h rfl
theorem decM_any (bs : List UInt8) : (∃ m, decM bs = (m, 0) ∧ bs = encM m ∧ rightR m.row = true ∧ WF m.row.flat ∧ readMsgP bs = some ((m, true), [])) ∨ decM bs = (.zero, 1) := by
  unfold decM
  split
  · rename_i m h
    obtain ⟨h1, _, _, _, h5⟩ := msg_spec h
    rw [List.append_nil] at h1
    exact .inl ⟨m, rfl, h1, msg_row h, h5.wf, h⟩
  · exact .inr rfl
theorem decR_any (bs : List UInt8) : (∃ m, decR bs = (m, 0) ∧ bs = encR m ∧ rightR m.row = true ∧ WF m.row.flat) ∨ decR bs = (.zero, 1) := by
  unfold decR
  split
  · rename_i m h
    obtain ⟨h1, _, _, _, h5⟩ := rec_spec h
    rw [List.append_nil] at h1
    exact .inl ⟨m, rfl, h1, rec_row h, h5.wf⟩
  · exact .inr rfl
/-- Arguments: lists of numbers that are structs. -/
theorem MsgT.of (l : List Int) (h : l.length = 192) : ∃ x : MsgT, x.flat = l := by
  match l, h with
  | a :: b :: l, h =>
    have h' : l.length = 190 := by simpa using h
    obtain ⟨x, hx⟩ := RowT.of (l.take 174) (by rw [List.length_take]; omega)
    have h2 : (l.drop 174).length = 16 := by rw [List.length_drop]; omega
    rw [← List.take_append_drop 174 l, ← hx]
    generalize l.drop 174 = r at h2
    match r, h2 with
    | [c, d, e1, e2, f1, f2, g1, g2, g3, v1, v2, h0, h1, h2, h3, h4], _ => exact ⟨⟨a, b, x, c, d, ⟨e1, e2⟩, ⟨f1, f2⟩, ⟨g1, g2, g3⟩, ⟨v1, v2, #v[h0, h1, h2, h3, h4]⟩⟩, by simp [MsgT.flat, BallotT.flat, ChangeT.flat, ViewT.flat]⟩
theorem ViewT.of (l : List Int) (h : l.length = 7) : ∃ x : ViewT, x.flat = l := by
  match l, h with
  | [v1, v2, h0, h1, h2, h3, h4], _ => exact ⟨⟨v1, v2, #v[h0, h1, h2, h3, h4]⟩, by simp [ViewT.flat]⟩
theorem ChangeT.of (l : List Int) (h : l.length = 3) : ∃ x : ChangeT, x.flat = l := by
  match l, h with
  | [a, b, c], _ => exact ⟨⟨a, b, c⟩, rfl⟩
end Api
