/-
  From what a call does to a row: arguments as lists, and what is left as it was.
-/
import Derived.Test.YtdekgkmbcdlekaaCodecA
import Derived.ProofKit
import Derived.ChangeOld
import Derived.Below
import Derived.WalkKit
namespace Leg
open Go Go.ChangeShapes Go.WideShapes Go.RowKit Codec Api

theorem sat_nil (w : World) : Sat [] (hp w) w := ⟨em, fun _ => .inl rfl, by funext b; rfl, trivial⟩
theorem Sat.below {H : List HP} {w w' : World} (h : Same w w') (s : Sat H (hp w) w') : Below w.heap.size w w' := by
  refine ⟨h.os, h.tape, h.output, h.size, fun k hk => ?_⟩
  have e : hp w k = some w.heap[k] := by simp [hp, hk]
  rw [s.frame e]
  exact e.symm
theorem Does.row {P : Program} {f : FuncId} {args : Array Value} {R : Hl → Prop} {v : Value} (s : Does P f args R [] (Ret fun u H => u = v ∧ H = [])) (w : World) (h : R (hp w)) :
    Calls P f args w fun e w' => e = .returned v ∧ Below w.heap.size w w' :=
  (s w (hp w) h (sat_nil w)).mono fun e w' ⟨a, H', b, c⟩ => by
    cases e with
    | returned u => obtain ⟨rfl, _⟩ := c; exact ⟨rfl, b.below a⟩
    | panicked _ => exact c.elim
    | outgrown => exact c.elim

/-- A slice of numbers of one kind: what it holds. -/
def IsI (k : IntKind) (v : Value) (l : List Int) (F : Hl) : Prop :=
  (v = .slice none 0 0 ∧ l = []) ∨ ∃ b off cap cs T z, v = .slice (some ⟨b, off, none⟩) l.length cap ∧ l.length ≤ cap ∧ cap ≤ 9223372036854775807 ∧
    F b = some (.cells (List.toArray cs) T z) ∧ ∀ j, j < l.length → cs[off + j]? = some (.int k (l.getD j 0))
section
variable {P : Program} {W : World} {H : Type} {enc : TypeId × Value → H} {t e : TypeId} {k : IntKind} {v : Value} {d : DataW H} {ps : List MemPlace} {B B0 : Nat} {spare : Nat → Bool} {held : Bool}
theorem ints_in (ht : P.underlying t = some (.slice e)) (he : P.underlying e = some (.int k)) (hc : P.cellsOf e = 1) (hv : Value.okWide P W .any B t v) (hd : DataW.Trod enc P W B0 spare held t v d ps) :
    ∃ l, IsI k v l (hp W) ∧ (∀ n ∈ l, (Lit.int k n).wf = true) ∧ (l = [] ∨ ∃ e sp, d = .slice e sp ∧ l.length = e.length) := by
  have hv' : Cell.ok P W .any B t v := by
    simp only [Value.okWide, ht, Cell.okWide] at hv
    exact hv
  obtain ⟨a, len, cap, rfl⟩ := WideShapes.okWide_slice ht hv
  obtain ⟨fuel, hf⟩ := hd
  rcases ChangeShapes.open_ints ht he hc hf with ⟨hcs, _⟩ | ⟨x, l, c, zs, hcs, _, hl, hm, hz, hx, hcell, hwz⟩
  · simp [Value.cells] at hcs
    obtain ⟨rfl, rfl, rfl⟩ := hcs
    exact ⟨[], .inl ⟨rfl, rfl⟩, by simp, .inl rfl⟩
  · simp [Value.cells] at hcs
    obtain ⟨rfl, rfl, rfl⟩ := hcs
    simp only [Cell.ok, ht, World.has] at hv'
    obtain ⟨h1, h2, _, h4, row, cells, h5, h6⟩ := hv'
    have hzl : len ≤ zs.length := by rw [hz]; split <;> omega
    obtain ⟨xb, xo, xs⟩ := x
    subst h4
    have hb : ∃ cs T z, W.heap[xb]? = some (.cells cs T z) := by
      simp only [World.shape?] at h5
      split at h5
      · exact ⟨_, _, _, by assumption⟩
      · cases h5
    obtain ⟨cs, T, z, hb⟩ := hb
    have hlen : (zs.take len).length = len := by rw [List.length_take]; omega
    refine ⟨zs.take len, .inr ⟨xb, xo, cap, cs.toList, T, z, by rw [hlen], by omega, ?_, hb, fun j hj => ?_⟩, fun n hn => hwz n (List.mem_of_mem_take hn), .inr ⟨_, _, congrArg Prod.fst hx, by simp [lits]⟩⟩
    · have : IntKind.i64.max = 9223372036854775807 := by decide
      omega
    · rw [hlen] at hj
      have q := hcell j (by omega)
      rw [addL] at q
      simp only [World.cell?, hb, Option.isSome_none, Bool.false_eq_true, if_false] at q
      simp only [Array.getElem?_toList, q]
      congr 2
      simp [List.getD_eq_getElem?_getD, List.getElem?_take, hj]
theorem isB_of {v : Value} {l : List Int} {F : Hl} (h : IsI .u8 v l F) (hw : ∀ n ∈ l, (Lit.int .u8 n).wf = true) : ∃ bs, IsB v bs F := by
  have hb : ∀ n ∈ l, ((UInt8.ofNat n.toNat).toNat : Int) = n := fun n hn => by
    have := hw n hn
    have h2 : 0 ≤ n ∧ n ≤ 255 := by
      have m1 : IntKind.u8.min = 0 := by decide
      have m2 : IntKind.u8.max = 255 := by decide
      simp only [Lit.wf, m1, m2, decide_eq_true_eq, Bool.and_eq_true] at this
      omega
    have h3 : n.toNat < 256 := by omega
    simp only [UInt8.toNat_ofNat']
    omega
  refine ⟨l.map fun n => UInt8.ofNat n.toNat, ?_⟩
  rcases h with ⟨rfl, rfl⟩ | ⟨b, off, cap, cs, T, z, rfl, h1, h2, h3, h4⟩
  · exact .inl ⟨rfl, rfl⟩
  · refine .inr ⟨b, off, cap, cs, T, z, by rw [List.length_map], by simpa using h1, h2, h3, fun j hj => ?_⟩
    rw [List.length_map] at hj
    rw [h4 j hj]
    congr 2
    have := hb (l.getD j 0) (by simp [List.getD_eq_getElem?_getD, hj])
    rw [← this]
    simp [List.getD_eq_getElem?_getD, hj]
theorem int_in {P : Program} {W : World} {t : TypeId} {k : IntKind} {v : Value} {B : Nat} (ht : P.underlying t = some (.int k)) (hv : Value.okWide P W .any B t v) : ∃ n, v = .int k n ∧ k.min ≤ n ∧ n ≤ k.max := by
  obtain ⟨n, rfl⟩ := okWide_int ht hv
  simp only [Value.okWide, Cell.okWide, Cell.ok, ht, IntKind.has] at hv
  exact ⟨n, rfl, hv.2⟩
end
end Leg
