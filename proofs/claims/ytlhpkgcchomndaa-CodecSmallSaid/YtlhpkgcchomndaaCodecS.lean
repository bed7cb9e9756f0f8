/-
  Small numbers, views, changes and ballots as bytes and back, in plain words.
-/
import Derived.Test.YtlhpkgcchomndaaCodecU
namespace Leg
open Go Codec Api
section
variable {P : Program} {n : Nat} {D : List Deferred} {L : List (Nat × Value)} {S : World → Prop} {o : Oper}
theorem PV.lssT {t t' : TypeId} {x y : Operand} {k : IntKind} {a b : Int} (h : a < b) (ho : o.op = .binOp .lss t x y t') (hx : evL L x = some (.int k a)) (hy : evL L y = some (.int k b)) : PV P n D L S o (.bool true) := by
  have e := PV.lss (P := P) (n := n) (D := D) (S := S) ho hx hy
  rwa [decide_eq_true h] at e
theorem PV.lssF {t t' : TypeId} {x y : Operand} {k : IntKind} {a b : Int} (h : ¬ a < b) (ho : o.op = .binOp .lss t x y t') (hx : evL L x = some (.int k a)) (hy : evL L y = some (.int k b)) : PV P n D L S o (.bool false) := by
  have e := PV.lss (P := P) (n := n) (D := D) (S := S) ho hx hy
  rwa [decide_eq_false h] at e
theorem PV.neqF {t t' : TypeId} {x y : Operand} {k : IntKind} {a b : Int} (h : a = b) (ho : o.op = .binOp .neq t x y t') (hx : evL L x = some (.int k a)) (hy : evL L y = some (.int k b)) : PV P n D L S o (.bool false) := by
  have e := PV.neq (P := P) (n := n) (D := D) (S := S) ho hx hy
  rwa [decide_eq_false (by simp [h])] at e
theorem PV.neqB {t t' : TypeId} {x y : Operand} {a b : Bool} (ho : o.op = .binOp .neq t x y t') (hu : P.underlying t = some .bool) (hx : evL L x = some (.bool a)) (hy : evL L y = some (.bool b)) : PV P n D L S o (.bool (a != b)) :=
  PV.bin ho hx hy fun w => by
    have e : (Op.equal t (.bool a) (.bool b)).run P w = .ok (a == b) w := by
      exact run_eqB 9999 hu
    simp [eqGuard, binOp, e, bne]
end
end Leg
namespace Codec
open Go Leg Api
theorem small_some {q lim a : Int} {r : List UInt8} (h0 : 0 ≤ q) (h1 : q < 9223372036854775808) (h : smallP lim (encs [q]) = some (a, r)) : q < lim ∧ q = a ∧ [] = r := by
  have e : encs [q] = encN q ++ [] := by simp [encs]
  by_cases hl : q < lim
  · rw [e, smallP_enc h0 hl h1] at h
    injection h with h
    injection h with h2 h3
    exact ⟨hl, h2, h3⟩
  · rw [e, smallP_big h0 hl h1] at h; cases h
theorem small_none {q lim : Int} (h0 : 0 ≤ q) (h1 : q < 9223372036854775808) (h : smallP lim (encs [q]) = none) : ¬ q < lim := fun hl => by
  have e : encs [q] = encN q ++ [] := by simp [encs]
  rw [e, smallP_enc h0 hl h1] at h; cases h
theorem viewP_enc {e m a b c d f : Int} (h1 : 0 ≤ e ∧ e < 1024) (h2 : 0 ≤ m ∧ m < 32) (ha : 0 ≤ a ∧ a < 6) (hb : 0 ≤ b ∧ b < 6) (hc : 0 ≤ c ∧ c < 6) (hd : 0 ≤ d ∧ d < 6) (hf : 0 ≤ f ∧ f < 6) (r : List UInt8) :
    viewP (encs (ViewT.flat ⟨e, m, #v[a, b, c, d, f]⟩) ++ r) = some (⟨e, m, #v[a, b, c, d, f]⟩, r) := by
  have s := fun (n : Int) (h : 0 ≤ n ∧ n < 6) r => smallP_enc (n := n) (lim := 6) h.1 h.2 (by omega) r
  simp only [ViewT.flat, Vector.toList_mk, encs_cons, encs_nil, List.append_assoc, viewP]
  rw [pb_some (numP_encN h1.1 (by omega) _), pb_some (smallP_enc h2.1 h2.2 (by omega) _), pb_some (s a ha _), pb_some (s b hb _), pb_some (s c hc _), pb_some (s d hd _), pb_some (s f hf _)]
  rfl
theorem changeP_enc {a b c : Int} (ha : 0 ≤ a ∧ a < 2) (hb : 0 ≤ b ∧ b < 5) (hc : 0 ≤ c ∧ c < 5) (r : List UInt8) : changeP (encs (ChangeT.flat ⟨a, b, c⟩) ++ r) = some (⟨a, b, c⟩, r) := by
  simp only [ChangeT.flat, encs_cons, encs_nil, List.append_assoc, changeP]
  rw [pb_some (smallP_enc ha.1 ha.2 (by omega) _), pb_some (smallP_enc hb.1 hb.2 (by omega) _), pb_some (smallP_enc hc.1 hc.2 (by omega) _)]
  rfl
theorem ballotP_enc {a b : Int} (ha : 0 ≤ a ∧ a < 1024) (hb : 0 ≤ b ∧ b < 5) (r : List UInt8) : ballotP (encs (BallotT.flat ⟨a, b⟩) ++ r) = some (⟨a, b⟩, r) := by
  simp only [BallotT.flat, encs_cons, encs_nil, List.append_assoc, ballotP]
  rw [pb_some (numP_encN ha.1 (by omega) _), pb_some (smallP_enc hb.1 hb.2 (by omega) _)]
  rfl
def vcbP : Ps (ViewT × ChangeT × BallotT) := pb viewP fun a => pb changeP fun d => pb ballotP fun e => pr (a, d, e)
theorem wf_list {l : List Int} (h : ∀ n ∈ l, 0 ≤ n ∧ n < 9223372036854775808) : WF l := fun n hn => wf_small (h n hn)
theorem ViewT.len (v : ViewT) : (ints v.flat).length = 7 := by simp [ViewT.flat, ints]
theorem ChangeT.len (v : ChangeT) : (ints v.flat).length = 3 := by simp [ChangeT.flat, ints]
theorem BallotT.len (v : BallotT) : (ints v.flat).length = 2 := by simp [BallotT.flat, ints]
theorem ViewT.flat_len (v : ViewT) : v.flat.length = 7 := by simp [ViewT.flat]
theorem rem6 (h : Int) : (h % 8).tmod 6 = (h % 8) % 6 := Int.tmod_eq_emod_of_nonneg (by omega)
theorem shrI (a : Int) (k : Nat) (hk : k ≤ 63) : a.fdiv (2 ^ min ((k : Nat) : Int).toNat IntKind.i64.bits) = a / 2 ^ k := by
  have : min ((k : Nat) : Int).toNat IntKind.i64.bits = k := by simp only [IntKind.bits]; omega
  rw [this, Int.fdiv_eq_ediv_of_nonneg _ (by
    have h : (2 : Int) ^ k = ((2 ^ k : Nat) : Int) := by simp
    rw [h]; exact Int.natCast_nonneg _)]
end Codec
