/-
  Messages and records come back from their bytes, and what was read has those bytes: in plain words.
-/
import Derived.Test.YtdekgkmbcdlekaaMsgQ
import Derived.Test.YtdekgkmbcdlekaaCodecT
namespace Api
open Go Leg Codec

def Nm (n : Int) : Prop := 0 ≤ n ∧ n < 9223372036854775808
def OkB (b : BallotT) : Prop := Nm b.round ∧ 0 ≤ b.who ∧ b.who < 5
def OkC (c : ChangeT) : Prop := (0 ≤ c.kind ∧ c.kind < 2) ∧ (0 ≤ c.who ∧ c.who < 5) ∧ (0 ≤ c.heir ∧ c.heir < 5)
def OkV (v : ViewT) : Prop := Nm v.epoch ∧ (0 ≤ v.members ∧ v.members < 32) ∧ ∀ (i : Nat) (h : i < 5), 0 ≤ v.heirs[i] ∧ v.heirs[i] < 6
theorem ballot_enc {b : BallotT} (h : OkB b) (r : List UInt8) : ballotP (encs b.flat ++ r) = some (b, r) := by
  obtain ⟨a, c⟩ := b
  obtain ⟨h1, h2, h3⟩ := h
  replace h3 : c < 5 := h3
  simp only [BallotT.flat, encs_cons, encs_nil, List.append_assoc, List.nil_append, ballotP]
  rw [pb_some (numP_encN h1.1 h1.2 _), pb_some (smallP_enc (n := c) h2 h3 (by omega) _)]; rfl
theorem change_enc {c : ChangeT} (h : OkC c) (r : List UInt8) : changeP (encs c.flat ++ r) = some (c, r) := by
  obtain ⟨a, b, d⟩ := c
  obtain ⟨⟨h1, h2⟩, ⟨h3, h4⟩, h5, h6⟩ := h
  simp only at h1 h2 h3 h4 h5 h6
  simp only [ChangeT.flat, encs_cons, encs_nil, List.append_assoc, List.nil_append, changeP]
  rw [pb_some (smallP_enc h1 h2 (by omega) _), pb_some (smallP_enc h3 h4 (by omega) _), pb_some (smallP_enc h5 h6 (by omega) _)]; rfl
theorem view_enc {v : ViewT} (h : OkV v) (r : List UInt8) : viewP (encs v.flat ++ r) = some (v, r) := by
  obtain ⟨i, o, g⟩ := v
  obtain ⟨h1, ⟨h2, h3⟩, h4⟩ := h
  replace h2 : 0 ≤ o := h2
  replace h3 : o < 32 := h3
  revert h4
  refine vec5 (p := fun g => (∀ (i_1 : Nat) (h : i_1 < 5), 0 ≤ g[i_1] ∧ g[i_1] < 6) → viewP (encs (ViewT.flat ⟨i, o, g⟩) ++ r) = some (⟨i, o, g⟩, r)) (fun a b c d e h4 => ?_) g
  have e0 := h4 0 (by omega)
  have e1 := h4 1 (by omega)
  have e2 := h4 2 (by omega)
  have e3 := h4 3 (by omega)
  have e4 := h4 4 (by omega)
  have s := fun n (h : 0 ≤ n ∧ n < 6) r => smallP_enc (n := n) (lim := 6) h.1 h.2 (by omega) r
  simp only [ViewT.flat, Vector.toList_mk, encs_cons, encs_nil, List.append_assoc, List.nil_append, viewP]
  rw [pb_some (numP_encN h1.1 h1.2 _), pb_some (smallP_enc h2 h3 (by omega) _), pb_some (s a e0 _), pb_some (s b e1 _), pb_some (s c e2 _), pb_some (s d e3 _), pb_some (s e e4 _)]; rfl
/-- The fields of its kind alone. -/
def normM (m : MsgT) : MsgT :=
  if kRow m.kind then ⟨m.kind, m.whose, m.row, 0, 0, .zero, .zero, .zero, .zero⟩
  else if m.kind = 1 then ⟨m.kind, 0, .zero, m.version, 0, .zero, .zero, .zero, .zero⟩
  else if kAsk m.kind then ⟨m.kind, 0, .zero, 0, m.epoch, m.ballot, .zero, .zero, .zero⟩
  else if m.kind = 4 then ⟨m.kind, 0, .zero, 0, m.epoch, m.ballot, m.had, m.change, .zero⟩
  else if m.kind = 5 then ⟨m.kind, 0, .zero, 0, m.epoch, m.ballot, .zero, m.change, .zero⟩
  else if m.kind = 7 then ⟨m.kind, 0, .zero, 0, 0, .zero, .zero, .zero, m.view⟩
  else ⟨m.kind, m.whose, .zero, 0, 0, .zero, .zero, .zero, m.view⟩
def okM (m : MsgT) : Bool := if kRow m.kind then rightR m.row else if m.kind = 7 ∨ m.kind = 8 then rightV m.view else true
structure OkM (m : MsgT) : Prop where
  kind : 0 ≤ m.kind ∧ m.kind < 10
  whose : 0 ≤ m.whose ∧ m.whose < 5
  row : TameR m.row
  version : Nm m.version
  epoch : Nm m.epoch
  ballot : OkB m.ballot
  had : OkB m.had
  change : OkC m.change
  view : OkV m.view
theorem msg_enc {m : MsgT} (h : OkM m) (r : List UInt8) : readMsgP (encM m ++ r) = some ((normM m, okM m), r) := by
  have hk := h.kind
  have k0 : smallP 10 (encN m.kind ++ r) = some (m.kind, r) := smallP_enc hk.1 hk.2 (by omega) r
  have kk := fun r => smallP_enc hk.1 hk.2 (show m.kind < 9223372036854775808 by omega) r
  have kw := fun r => smallP_enc h.whose.1 h.whose.2 (show m.whose < 9223372036854775808 by have := h.whose; omega) r
  have kv := fun r => numP_encN h.version.1 h.version.2 r
  have ke := fun r => numP_encN h.epoch.1 h.epoch.2 r
  unfold readMsgP encM normM okM
  by_cases c0 : kRow m.kind = true
  · simp only [if_pos c0, encs_cons, encs_nil, List.append_assoc, List.nil_append]
    rw [pb_some (kk _)]; simp only [if_pos c0]; rw [pb_some (kw _), pb_some (rowP_enc h.row _)]; rfl
  simp only [if_neg c0]
  by_cases c1 : m.kind = 1
  · have q : ¬ (m.kind = 7 ∨ m.kind = 8) := by omega
    simp only [if_pos c1, if_neg q, encs_cons, encs_nil, List.append_assoc, List.nil_append]
    rw [pb_some (kk _)]; simp only [if_neg c0, if_pos c1]; rw [pb_some (kv _)]; rfl
  simp only [if_neg c1]
  by_cases c2 : kAsk m.kind = true
  · have q : ¬ (m.kind = 7 ∨ m.kind = 8) := by have := of_decide_eq_true c2; omega
    simp only [if_pos c2, if_neg q, encs_cons, encs_nil, List.append_assoc, List.nil_append]
    rw [pb_some (kk _)]; simp only [if_neg c0, if_neg c1, if_pos c2]; rw [pb_some (ke _), pb_some (ballot_enc h.ballot _)]; rfl
  simp only [if_neg c2]
  by_cases c3 : m.kind = 4
  · have q : ¬ (m.kind = 7 ∨ m.kind = 8) := by omega
    simp only [if_pos c3, if_neg q, encs_cons, encs_nil, List.append_assoc, List.nil_append]
    rw [pb_some (kk _)]; simp only [if_neg c0, if_neg c1, if_neg c2, if_pos c3]; rw [pb_some (ke _), pb_some (ballot_enc h.ballot _), pb_some (ballot_enc h.had _), pb_some (change_enc h.change _)]; rfl
  simp only [if_neg c3]
  by_cases c4 : m.kind = 5
  · have q : ¬ (m.kind = 7 ∨ m.kind = 8) := by omega
    simp only [if_pos c4, if_neg q, encs_cons, encs_nil, List.append_assoc, List.nil_append]
    rw [pb_some (kk _)]; simp only [if_neg c0, if_neg c1, if_neg c2, if_neg c3, if_pos c4]; rw [pb_some (ke _), pb_some (ballot_enc h.ballot _), pb_some (change_enc h.change _)]; rfl
  simp only [if_neg c4]
  by_cases c5 : m.kind = 7
  · have q : m.kind = 7 ∨ m.kind = 8 := .inl c5
    simp only [if_pos c5, if_pos q, encs_cons, encs_nil, List.append_assoc, List.nil_append]
    rw [pb_some (kk _)]; simp only [if_neg c0, if_neg c1, if_neg c2, if_neg c3, if_neg c4, if_pos c5]; rw [pb_some (view_enc h.view _)]; rfl
  have c6 : m.kind = 8 := by
    have n0 : ¬ (m.kind = 0 ∨ m.kind = 2 ∨ m.kind = 9) := fun e => c0 (decide_eq_true e)
    have n2 : ¬ (m.kind = 3 ∨ m.kind = 6) := fun e => c2 (decide_eq_true e)
    omega
  have q : m.kind = 7 ∨ m.kind = 8 := .inr c6
  simp only [if_neg c5, if_pos c6, if_pos q, encs_cons, encs_nil, List.append_assoc, List.nil_append]
  rw [pb_some (kk _)]; simp only [if_neg c0, if_neg c1, if_neg c2, if_neg c3, if_neg c4, if_neg c5, if_pos c6]; rw [pb_some (kw _), pb_some (view_enc h.view _)]; rfl
/-- What was read has those bytes. -/
theorem heir_z (i : Nat) (hi : i < 5) : RowT.zero.heir[i] = 0 := by match i, hi with | 0, _ | 1, _ | 2, _ | 3, _ | 4, _ => rfl
theorem cell_z (k : Nat) (hk : k < 4) : RowT.zero.cells[k] = CellT.zero := by match k, hk with | 0, _ | 1, _ | 2, _ | 3, _ => rfl
theorem left_z (i : Nat) (hi : i < 5) : RowT.zero.left[i] = RowT.zero.cells := by match i, hi with | 0, _ | 1, _ | 2, _ | 3, _ | 4, _ => rfl
theorem tame_rzero : TameR RowT.zero := ⟨⟨by decide, by decide⟩, fun k hk => by rw [cell_z k hk]; exact tame_zero, fun i hi => by rw [heir_z i hi]; decide, fun i k hi hk => by rw [show RowT.zero.left[i][k] = RowT.zero.cells[k] from by rw [left_z i hi], cell_z k hk]; exact tame_zero, fun i hi _ => by rw [left_z i hi, left_z 0 (by decide)]⟩
theorem kRow_cases {k : Int} (h : ¬ kRow k = true) (h2 : ¬ kAsk k = true) : k ≠ 0 ∧ k ≠ 2 ∧ k ≠ 9 ∧ k ≠ 3 ∧ k ≠ 6 := by
  have n0 : ¬ (k = 0 ∨ k = 2 ∨ k = 9) := fun e => h (decide_eq_true e)
  have n2 : ¬ (k = 3 ∨ k = 6) := fun e => h2 (decide_eq_true e)
  omega
theorem msg_spec {m : MsgT} {g : Bool} {bs r : List UInt8} (h : readMsgP bs = some ((m, g), r)) : bs = encM m ++ r ∧ okM m = g ∧ (0 ≤ m.kind ∧ m.kind < 10) ∧ (0 ≤ m.whose ∧ m.whose < 5) ∧ TameR m.row := by
  obtain ⟨k, r1, h1, h2⟩ := pb_inv h
  clear h
  obtain ⟨k1, rfl⟩ := small_spec h1
  have tz := tame_rzero
  have kz : (0 : Int) ≤ 0 ∧ (0 : Int) < 5 := by omega
  by_cases c0 : kRow k = true
  · simp only [if_pos c0] at h2
    obtain ⟨w, r2, h3, h4⟩ := pb_inv h2
    obtain ⟨k3, rfl⟩ := small_spec h3
    obtain ⟨x, r3, h5, h6⟩ := pb_inv h4
    obtain ⟨k5, rfl⟩ := row_spec h5
    obtain ⟨e, rfl⟩ := pr_inv h6
    injection e with e1 e2; subst e1; subst e2
    exact ⟨by simp [encM, c0, encs], by simp [okM, c0], ⟨k1.1, k1.2.1⟩, ⟨k3.1, k3.2.1⟩, k5⟩
  simp only [if_neg c0] at h2
  have fin : ∀ {m : MsgT} {bs' : List UInt8}, m.kind = k → encN k ++ bs' = encM m ++ r → okM m = g → (0 ≤ m.whose ∧ m.whose < 5) → TameR m.row → encN k ++ bs' = encM m ++ r ∧ okM m = g ∧ (0 ≤ m.kind ∧ m.kind < 10) ∧ (0 ≤ m.whose ∧ m.whose < 5) ∧ TameR m.row := fun e a b c d => ⟨a, b, by rw [e]; exact ⟨k1.1, k1.2.1⟩, c, d⟩
  by_cases c1 : k = 1
  · simp only [if_pos c1] at h2
    subst c1
    obtain ⟨n, r2, h3, h4⟩ := pb_inv h2
    obtain ⟨_, _, rfl⟩ := numP_spec h3
    obtain ⟨e, rfl⟩ := pr_inv h4
    injection e with e1 e2; subst e1; subst e2
    exact fin rfl (by simp [encM, kRow, kAsk, encs]) (by simp [okM, kRow]) kz tz
  simp only [if_neg c1] at h2
  by_cases c2 : kAsk k = true
  · simp only [if_pos c2] at h2
    obtain ⟨n, r2, h3, h4⟩ := pb_inv h2
    obtain ⟨_, _, rfl⟩ := numP_spec h3
    obtain ⟨b, r3, h5, h6⟩ := pb_inv h4
    obtain ⟨_, rfl⟩ := ballot_spec h5
    obtain ⟨e, rfl⟩ := pr_inv h6
    injection e with e1 e2; subst e1; subst e2
    have := of_decide_eq_true c2
    exact fin rfl (by simp [encM, c0, c1, c2, encs]) (by simp [okM, c0]; omega) kz tz
  simp only [if_neg c2] at h2
  by_cases c3 : k = 4
  · simp only [if_pos c3] at h2
    subst c3
    obtain ⟨n, r2, h3, h4⟩ := pb_inv h2
    obtain ⟨_, _, rfl⟩ := numP_spec h3
    obtain ⟨b, r3, h5, h6⟩ := pb_inv h4
    obtain ⟨_, rfl⟩ := ballot_spec h5
    obtain ⟨d, r4, h7, h8⟩ := pb_inv h6
    obtain ⟨_, rfl⟩ := ballot_spec h7
    obtain ⟨c, r5, h9, h10⟩ := pb_inv h8
    obtain ⟨_, rfl⟩ := change_spec h9
    obtain ⟨e, rfl⟩ := pr_inv h10
    injection e with e1 e2; subst e1; subst e2
    exact fin rfl (by simp [encM, kRow, kAsk, encs]) (by simp [okM, kRow]) kz tz
  simp only [if_neg c3] at h2
  by_cases c4 : k = 5
  · simp only [if_pos c4] at h2
    subst c4
    obtain ⟨n, r2, h3, h4⟩ := pb_inv h2
    obtain ⟨_, _, rfl⟩ := numP_spec h3
    obtain ⟨b, r3, h5, h6⟩ := pb_inv h4
    obtain ⟨_, rfl⟩ := ballot_spec h5
    obtain ⟨c, r5, h9, h10⟩ := pb_inv h6
    obtain ⟨_, rfl⟩ := change_spec h9
    obtain ⟨e, rfl⟩ := pr_inv h10
    injection e with e1 e2; subst e1; subst e2
    exact fin rfl (by simp [encM, kRow, kAsk, encs]) (by simp [okM, kRow]) kz tz
  simp only [if_neg c4] at h2
  by_cases c5 : k = 7
  · simp only [if_pos c5] at h2
    subst c5
    obtain ⟨v, r3, h5, h6⟩ := pb_inv h2
    obtain ⟨_, rfl⟩ := view_spec h5
    obtain ⟨e, rfl⟩ := pr_inv h6
    injection e with e1 e2; subst e1; subst e2
    exact fin rfl (by simp [encM, kRow, kAsk, encs]) (by simp [okM, kRow]) kz tz
  simp only [if_neg c5] at h2
  have c6 : k = 8 := by have := kRow_cases c0 c2; omega
  simp only [if_pos c6] at h2
  subst c6
  obtain ⟨w, r2, h3, h4⟩ := pb_inv h2
  obtain ⟨k3, rfl⟩ := small_spec h3
  obtain ⟨v, r3, h5, h6⟩ := pb_inv h4
  obtain ⟨_, rfl⟩ := view_spec h5
  obtain ⟨e, rfl⟩ := pr_inv h6
  injection e with e1 e2; subst e1; subst e2
  exact fin rfl (by simp [encM, kRow, kAsk, encs]) (by simp [okM, kRow]) ⟨k3.1, k3.2.1⟩ tz
theorem Ext.if {α : Type} {c : Prop} [Decidable c] {p q : Ps α} (hp : Ext p) (hq : Ext q) : Ext (if c then p else q) := by split <;> assumption
theorem Ext.change : Ext changeP := (Ext.small _).pb fun _ => (Ext.small _).pb fun _ => (Ext.small _).pb fun _ => Ext.pr _
theorem Ext.ballot : Ext ballotP := Ext.num.pb fun _ => (Ext.small _).pb fun _ => Ext.pr _
theorem Ext.view : Ext viewP := Ext.num.pb fun _ => (Ext.small _).pb fun _ => (Ext.small _).pb fun _ => (Ext.small _).pb fun _ => (Ext.small _).pb fun _ => (Ext.small _).pb fun _ => (Ext.small _).pb fun _ => Ext.pr _
theorem Ext.msg : Ext readMsgP := (Ext.small _).pb fun k => Ext.if ((Ext.small _).pb fun _ => Ext.row.pb fun _ => Ext.pr _) (Ext.if (Ext.num.pb fun _ => Ext.pr _) (Ext.if (Ext.num.pb fun _ => Ext.ballot.pb fun _ => Ext.pr _)
  (Ext.if (Ext.num.pb fun _ => Ext.ballot.pb fun _ => Ext.ballot.pb fun _ => Ext.change.pb fun _ => Ext.pr _) (Ext.if (Ext.num.pb fun _ => Ext.ballot.pb fun _ => Ext.change.pb fun _ => Ext.pr _) (Ext.if (Ext.view.pb fun _ => Ext.pr _) (Ext.if ((Ext.small _).pb fun _ => Ext.view.pb fun _ => Ext.pr _) (Ext.pr _)))))))
theorem Ext.rec' : Ext readRecP := (Ext.small _).pb fun k => Ext.if (Ext.row.pb fun _ => Ext.pr _) (Ext.if ((Ext.small _).pb fun _ => Ext.row.pb fun _ => Ext.pr _) (Ext.if ((Ext.small _).pb fun _ => Ext.pr _)
  (Ext.if (Ext.num.pb fun _ => Ext.ballot.pb fun _ => Ext.pr _) (Ext.if (Ext.num.pb fun _ => Ext.ballot.pb fun _ => Ext.change.pb fun _ => Ext.pr _) (Ext.if (Ext.view.pb fun _ => Ext.pr _) (Ext.pr _))))))
def normR (m : RecT) : RecT :=
  if m.kind = 0 then ⟨m.kind, 0, m.row, 0, .zero, .zero, .zero⟩
  else if m.kind = 1 then ⟨m.kind, m.whose, m.row, 0, .zero, .zero, .zero⟩
  else if m.kind = 2 then ⟨m.kind, m.whose, .zero, 0, .zero, .zero, .zero⟩
  else if m.kind = 3 then ⟨m.kind, 0, .zero, m.epoch, m.ballot, .zero, .zero⟩
  else if m.kind = 4 then ⟨m.kind, 0, .zero, m.epoch, m.ballot, m.change, .zero⟩
  else ⟨m.kind, 0, .zero, 0, .zero, .zero, m.view⟩
def okRc (m : RecT) : Bool := if m.kind = 0 ∨ m.kind = 1 then rightR m.row else if m.kind = 5 then rightV m.view else true
structure OkRc (m : RecT) : Prop where
  kind : 0 ≤ m.kind ∧ m.kind < 6
  whose : 0 ≤ m.whose ∧ m.whose < 5
  row : TameR m.row
  epoch : Nm m.epoch
  ballot : OkB m.ballot
  change : OkC m.change
  view : OkV m.view
theorem rec_enc {m : RecT} (h : OkRc m) (r : List UInt8) : readRecP (encR m ++ r) = some ((normR m, okRc m), r) := by
  have hk := h.kind
  have kk := fun r => smallP_enc hk.1 hk.2 (show m.kind < 9223372036854775808 by omega) r
  have kw := fun r => smallP_enc h.whose.1 h.whose.2 (show m.whose < 9223372036854775808 by have := h.whose; omega) r
  have ke := fun r => numP_encN h.epoch.1 h.epoch.2 r
  unfold readRecP encR normR okRc
  by_cases c0 : m.kind = 0
  · have q : m.kind = 0 ∨ m.kind = 1 := .inl c0
    simp only [if_pos c0, if_pos q, encs_cons, encs_nil, List.append_assoc, List.nil_append]
    rw [pb_some (kk _)]; simp only [if_pos c0]; rw [pb_some (rowP_enc h.row _)]; rfl
  simp only [if_neg c0]
  by_cases c1 : m.kind = 1
  · have q : m.kind = 0 ∨ m.kind = 1 := .inr c1
    simp only [if_pos c1, if_pos q, encs_cons, encs_nil, List.append_assoc, List.nil_append]
    rw [pb_some (kk _)]; simp only [if_neg c0, if_pos c1]; rw [pb_some (kw _), pb_some (rowP_enc h.row _)]; rfl
  have q : ¬ (m.kind = 0 ∨ m.kind = 1) := by omega
  simp only [if_neg c1, if_neg q]
  by_cases c2 : m.kind = 2
  · have q : ¬ m.kind = 5 := by omega
    simp only [if_pos c2, if_neg q, encs_cons, encs_nil, List.append_assoc, List.nil_append]
    rw [pb_some (kk _)]; simp only [if_neg c0, if_neg c1, if_pos c2]; rw [pb_some (kw _)]; rfl
  simp only [if_neg c2]
  by_cases c3 : m.kind = 3
  · have q : ¬ m.kind = 5 := by omega
    simp only [if_pos c3, if_neg q, encs_cons, encs_nil, List.append_assoc, List.nil_append]
    rw [pb_some (kk _)]; simp only [if_neg c0, if_neg c1, if_neg c2, if_pos c3]; rw [pb_some (ke _), pb_some (ballot_enc h.ballot _)]; rfl
  simp only [if_neg c3]
  by_cases c4 : m.kind = 4
  · have q : ¬ m.kind = 5 := by omega
    simp only [if_pos c4, if_neg q, encs_cons, encs_nil, List.append_assoc, List.nil_append]
    rw [pb_some (kk _)]; simp only [if_neg c0, if_neg c1, if_neg c2, if_neg c3, if_pos c4]; rw [pb_some (ke _), pb_some (ballot_enc h.ballot _), pb_some (change_enc h.change _)]; rfl
  have c5 : m.kind = 5 := by omega
  simp only [if_neg c4, if_pos c5, encs_cons, encs_nil, List.append_assoc, List.nil_append]
  rw [pb_some (kk _)]; simp only [if_neg c0, if_neg c1, if_neg c2, if_neg c3, if_neg c4, if_pos c5]; rw [pb_some (view_enc h.view _)]; rfl
theorem rec_spec {m : RecT} {g : Bool} {bs r : List UInt8} (h : readRecP bs = some ((m, g), r)) : bs = encR m ++ r ∧ okRc m = g ∧ (0 ≤ m.kind ∧ m.kind < 6) ∧ (0 ≤ m.whose ∧ m.whose < 5) ∧ TameR m.row := by
  obtain ⟨k, r1, h1, h2⟩ := pb_inv h
  clear h
  obtain ⟨k1, rfl⟩ := small_spec h1
  have tz := tame_rzero
  have kz : (0 : Int) ≤ 0 ∧ (0 : Int) < 5 := by omega
  by_cases c0 : k = 0
  · simp only [if_pos c0] at h2
    subst c0
    obtain ⟨x, r3, h5, h6⟩ := pb_inv h2
    obtain ⟨k5, rfl⟩ := row_spec h5
    obtain ⟨e, rfl⟩ := pr_inv h6
    injection e with e1 e2; subst e1; subst e2
    exact ⟨by simp [encR, encs], by simp [okRc], ⟨k1.1, k1.2.1⟩, kz, k5⟩
  simp only [if_neg c0] at h2
  by_cases c1 : k = 1
  · simp only [if_pos c1] at h2
    subst c1
    obtain ⟨w, r2, h3, h4⟩ := pb_inv h2
    obtain ⟨k3, rfl⟩ := small_spec h3
    obtain ⟨x, r3, h5, h6⟩ := pb_inv h4
    obtain ⟨k5, rfl⟩ := row_spec h5
    obtain ⟨e, rfl⟩ := pr_inv h6
    injection e with e1 e2; subst e1; subst e2
    exact ⟨by simp [encR, encs], by simp [okRc], ⟨k1.1, k1.2.1⟩, ⟨k3.1, k3.2.1⟩, k5⟩
  simp only [if_neg c1] at h2
  by_cases c2 : k = 2
  · simp only [if_pos c2] at h2
    subst c2
    obtain ⟨w, r2, h3, h4⟩ := pb_inv h2
    obtain ⟨k3, rfl⟩ := small_spec h3
    obtain ⟨e, rfl⟩ := pr_inv h4
    injection e with e1 e2; subst e1; subst e2
    exact ⟨by simp [encR, encs], by simp [okRc], ⟨k1.1, k1.2.1⟩, ⟨k3.1, k3.2.1⟩, tz⟩
  simp only [if_neg c2] at h2
  by_cases c3 : k = 3
  · simp only [if_pos c3] at h2
    subst c3
    obtain ⟨n, r2, h3, h4⟩ := pb_inv h2
    obtain ⟨_, _, rfl⟩ := numP_spec h3
    obtain ⟨b, r3, h5, h6⟩ := pb_inv h4
    obtain ⟨_, rfl⟩ := ballot_spec h5
    obtain ⟨e, rfl⟩ := pr_inv h6
    injection e with e1 e2; subst e1; subst e2
    exact ⟨by simp [encR, encs], by simp [okRc], ⟨k1.1, k1.2.1⟩, kz, tz⟩
  simp only [if_neg c3] at h2
  by_cases c4 : k = 4
  · simp only [if_pos c4] at h2
    subst c4
    obtain ⟨n, r2, h3, h4⟩ := pb_inv h2
    obtain ⟨_, _, rfl⟩ := numP_spec h3
    obtain ⟨b, r3, h5, h6⟩ := pb_inv h4
    obtain ⟨_, rfl⟩ := ballot_spec h5
    obtain ⟨c, r5, h9, h10⟩ := pb_inv h6
    obtain ⟨_, rfl⟩ := change_spec h9
    obtain ⟨e, rfl⟩ := pr_inv h10
    injection e with e1 e2; subst e1; subst e2
    exact ⟨by simp [encR, encs], by simp [okRc], ⟨k1.1, k1.2.1⟩, kz, tz⟩
  simp only [if_neg c4] at h2
  have c5 : k = 5 := by omega
  simp only [if_pos c5] at h2
  subst c5
  obtain ⟨v, r3, h5, h6⟩ := pb_inv h2
  obtain ⟨_, rfl⟩ := view_spec h5
  obtain ⟨e, rfl⟩ := pr_inv h6
  injection e with e1 e2; subst e1; subst e2
  exact ⟨by simp [encR, encs], by simp [okRc], ⟨k1.1, k1.2.1⟩, kz, tz⟩
end Api
