/-
  Arguments that are slices of structs, with how long they are by what they weigh.
-/
import Derived.Test.YtdekgkmbcdlekaaLegQ
namespace Leg
open Go Go.ChangeShapes Go.WideShapes Codec Api

section
variable {P : Program} {W : World} {H : Type} {enc : TypeId × Value → H} {B0 : Nat} {spare : Nat → Bool} {held : Bool}
theorem listS_in {t e : TypeId} {size : Nat} {α : Type} {E : List Value → α → Hl → Prop} {v : Value} {d : DataW H} {ps : List MemPlace} (ht : P.underlying t = some (.slice e)) (hc : P.cellsOf e = size) (hs : 0 < size) (hv : Value.okWide P W .any B0 t v)
    (hE : ∀ fuel cs x, DataW.trod enc P W 0 spare held fuel e cs = some x → ∃ a, E cs a (hp W)) (hd : DataW.Trod enc P W 0 spare held t v d ps) : ∃ l, IsL size E v l (hp W) ∧ (l = [] ∨ ∃ es sp, d = .slice es sp ∧ l.length = es.length) := by
  obtain ⟨l, hl⟩ := listV_in ht hc hs hv hE hd
  refine ⟨l, hl, ?_⟩
  obtain ⟨fuel, hf⟩ := hd
  obtain ⟨a0, len0, cap0, rfl⟩ := WideShapes.okWide_slice ht hv
  obtain ⟨a1, c1, e1⟩ := hl.len
  injection e1 with e1 e2 e3
  rcases Deep.open_slice ht hf with ⟨h1, _⟩ | ⟨a, len, cap, m, n, D, Pl, h1, _, _, _, _, h2, _⟩
  · simp [Value.cells] at h1
    exact .inl (List.eq_nil_of_length_eq_zero (by omega))
  · simp [Value.cells] at h1
    exact .inr ⟨_, _, congrArg Prod.fst h2, by rw [List.length_map, List.length_range]; omega⟩
end
end Leg
