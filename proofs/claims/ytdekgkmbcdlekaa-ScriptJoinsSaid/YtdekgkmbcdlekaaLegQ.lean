/-
  Arguments that are slices of slices, of structs: opened into lists.
-/
import Derived.Test.YtdekgkmbcdlekaaLegJ
import Derived.OpenShut
import Derived.Deep.Slices
import Derived.ChangeArms
namespace Leg
open Go Go.ChangeShapes Go.WideShapes Codec Api

section
variable {P : Program} {W : World} {H : Type} {enc : TypeId × Value → H} {B0 : Nat} {spare : Nat → Bool} {held : Bool}
theorem trod_boolL {t : TypeId} {fuel : Nat} {cs : List Value} {x : DataW H × List MemPlace} (ht : P.underlying t = some .bool) (h : DataW.trod enc P W B0 spare held fuel t cs = some x) : ∃ b, cs = [.bool b] := by
  cases fuel with
  | zero => simp [DataW.trod] at h
  | succ n =>
    unfold DataW.trod at h
    rw [ht] at h
    split at h <;> simp_all
theorem Fits.append {a b : List (Option IntKind)} {x y : List Lit} (h : Fits a x) (g : Fits b y) : Fits (a ++ b) (x ++ y) :=
  ⟨by rw [List.map_append, List.map_append, h.1, g.1], fun l hl => (List.mem_append.1 hl).elim (h.2 l) (g.2 l)⟩
theorem fields_in {d : Nat} (ih : ∀ t ks, flatK P d t = some ks → ∀ fuel cs x, DataW.trod enc P W B0 spare held fuel t cs = some x → ∃ ls, Fits ks ls ∧ cs = ls.map cellL) (cs : List Value) (n : Nat) :
    ∀ (fs : List Field) (o : Nat) (ks : List (Option IntKind)), flatKF P (flatK P d) fs o = some ks → cs.length = o + ks.length →
      (∀ f ∈ fs, ∃ y, DataW.trod enc P W B0 spare held n f.type ((cs.drop f.offset).take (P.cellsOf f.type)) = some y) → ∃ ls, Fits ks ls ∧ cs.drop o = ls.map cellL
  | [], o, ks, h, hl, _ => by
    simp only [flatKF, Option.some.injEq] at h
    subst h
    exact ⟨[], ⟨rfl, fun _ h => by cases h⟩, by rw [List.drop_of_length_le (by simpa using Nat.le_of_eq hl)]; rfl⟩
  | f :: fs, o, ks, h, hl, hf => by
    simp only [flatKF] at h
    split at h
    · rename_i c hc
      split at h
      · rename_i hh
        obtain ⟨m, hm, rfl⟩ := Option.map_eq_some_iff.1 h
        rw [List.length_append] at hl
        obtain ⟨y, hy⟩ := hf f (by simp)
        rw [hh.1, hh.2] at hy
        obtain ⟨l1, f1, e1⟩ := ih f.type c hc n _ _ hy
        obtain ⟨l2, f2, e2⟩ := fields_in ih cs n fs (o + c.length) m hm (by omega) (fun g hg => hf g (by simp [hg]))
        refine ⟨l1 ++ l2, f1.append f2, ?_⟩
        rw [List.map_append, ← e1, ← e2, ← List.drop_drop]
        exact (List.take_append_drop _ _).symm
      · cases h
    · cases h
/-- A value of a flat type: what it is. -/
theorem flat_in : ∀ (d : Nat) (t : TypeId) (ks : List (Option IntKind)), flatK P d t = some ks → ∀ fuel cs x, DataW.trod enc P W B0 spare held fuel t cs = some x → ∃ ls, Fits ks ls ∧ cs = ls.map cellL
  | 0, _, _, h => by simp [flatK] at h
  | d + 1, t, ks, h => fun fuel cs x hx => by
    have ih := flat_in d
    simp only [flatK] at h
    split at h
    · rename_i q hu
      simp only [Option.some.injEq] at h
      subst h
      obtain ⟨n, rfl, _, hw⟩ := DataW.trod_int hu hx
      exact ⟨[.int q n], ⟨rfl, by simpa using hw⟩, rfl⟩
    · rename_i hu
      simp only [Option.some.injEq] at h
      subst h
      obtain ⟨b, rfl⟩ := trod_boolL hu hx
      exact ⟨[.bool b], ⟨rfl, by simp [Lit.wf]⟩, rfl⟩
    · rename_i n e hu
      split at h
      · rename_i c hc
        split at h
        · rename_i hh
          simp only [Option.some.injEq] at h
          subst h
          obtain ⟨xs, m, _, _, hl, hxl, hxi⟩ := DataW.trod_array hu hx
          rw [hh.2] at hl
          have each : ∀ k, k ≤ n → ∃ ls, Fits (List.replicate k c).flatten ls ∧ cs.take (k * c.length) = ls.map cellL := by
            intro k
            induction k with
            | zero => intro _; exact ⟨[], ⟨rfl, fun _ h => by cases h⟩, by simp⟩
            | succ k ihk =>
              intro hk
              obtain ⟨l1, f1, e1⟩ := ihk (by omega)
              have hy := hxi k (by omega)
              rw [List.getElem?_eq_getElem (by omega), hh.1] at hy
              obtain ⟨l2, f2, e2⟩ := ih e c hc m _ _ hy
              refine ⟨l1 ++ l2, ?_, ?_⟩
              · rw [List.replicate_succ', List.flatten_append]
                simpa using f1.append f2
              · rw [List.map_append, ← e1, ← e2, Nat.add_mul, Nat.one_mul, List.take_add]
          obtain ⟨ls, f, e⟩ := each n (Nat.le_refl _)
          rw [List.take_of_length_le (by omega)] at e
          exact ⟨ls, f, e⟩
        · cases h
      · cases h
    · rename_i fs hu
      split at h
      · rename_i m' hc
        split at h
        · rename_i hh
          simp only [Option.some.injEq] at h
          subst h
          obtain ⟨xs, m, _, _, hl, hxl, hxi⟩ := DataW.trod_struct hu hx
          have := fields_in (fun t ks h => ih t ks h) cs m fs.toList 0 _ hc (by rw [hl, hh.1, Nat.zero_add]) (fun f hf => by
            obtain ⟨i, hi⟩ := List.getElem?_of_mem hf
            have hi' : fs[i]? = some f := by simpa using hi
            have := hxi i f hi'
            have hlt := (Array.getElem?_eq_some_iff.1 hi').1
            rw [List.getElem?_eq_getElem (by omega)] at this
            exact ⟨_, this⟩)
          simpa using this
        · cases h
      · cases h
    · cases h
theorem fits_ints {c : Nat} {ls : List Lit} (h : Fits (List.replicate c (some .i64)) ls) : ∃ l, ls = litI l ∧ l.length = c ∧ WF l := by
  obtain ⟨h1, h2⟩ := h
  have e : ∀ x ∈ ls, ∃ n, x = .int .i64 n := fun x hx => by
    have : kindL x ∈ ls.map kindL := List.mem_map_of_mem hx
    rw [h1, List.map_replicate] at this
    have := List.eq_of_mem_replicate this
    cases x <;> simp only [kindL, Option.some.injEq, reduceCtorEq] at this
    subst this
    exact ⟨_, rfl⟩
  refine ⟨ls.map fun x => match x with | .int _ n => n | _ => 0, ?_, ?_, ?_⟩
  · rw [litI, List.map_map]
    conv => lhs; rw [← List.map_id ls]
    refine List.map_congr_left fun x hx => ?_
    obtain ⟨n, rfl⟩ := e x hx
    rfl
  · have := congrArg List.length h1
    simpa using this
  · intro n hn
    obtain ⟨x, hx, rfl⟩ := List.mem_map.1 hn
    obtain ⟨n, rfl⟩ := e x hx
    exact h2 _ hx
theorem litI_cells (l : List Int) : (litI l).map cellL = ints l := by simp [litI, ints, cellL]

theorem block_of_cell {a : Addr} {v : Value} (h : W.cell? a = some v) : ∃ b o cs T z, a = ⟨b, o, none⟩ ∧ W.heap[b]? = some (.cells (List.toArray cs) T z) ∧ cs[o]? = some v := by
  obtain ⟨b, o, s⟩ := a
  simp only [World.cell?] at h
  split at h
  · rename_i cs T z hb
    cases s with
    | some s => simp at h
    | none => exact ⟨b, o, cs.toList, T, z, rfl, by simpa using hb, by simpa using h⟩
  · cases h
/-- A slice of bytes. -/
theorem bytesT_in {t e : TypeId} {fuel : Nat} {cs : List Value} {x : DataW H × List MemPlace} (ht : P.underlying t = some (.slice e)) (he : P.underlying e = some (.int .u8)) (hc : P.cellsOf e = 1)
    (h : DataW.trod enc P W B0 spare held fuel t cs = some x) : ∃ bs, EB cs bs (hp W) := by
  rcases open_ints ht he hc h with ⟨rfl, _⟩ | ⟨a, len, cap, zs, rfl, _, hl, hm, hz, _, hcell, hwz⟩
  · exact ⟨[], _, rfl, .inl (.inl ⟨rfl, rfl⟩)⟩
  · have hzl : len ≤ zs.length := by rw [hz]; split <;> omega
    cases len with
    | zero => exact ⟨[], _, rfl, .inr ⟨a, cap, rfl, rfl⟩⟩
    | succ n =>
      have h0 := hcell 0 (by omega)
      rw [show a.add 0 = a from rfl] at h0
      obtain ⟨b, o, cs, T, z, rfl, hb, _⟩ := block_of_cell h0
      have hlen : (zs.take (n + 1)).length = n + 1 := by rw [List.length_take]; omega
      have hi : IsI .u8 (.slice (some ⟨b, o, none⟩) (n + 1) cap) (zs.take (n + 1)) (hp W) := by
        refine .inr ⟨b, o, cap, cs, T, z, by rw [hlen], by omega, by simpa [maxLen] using hm, hb, fun j hj => ?_⟩
        rw [hlen] at hj
        have q := hcell j (by omega)
        rw [addL] at q
        simp only [World.cell?, hb, Option.isSome_none, Bool.false_eq_true, if_false] at q
        rw [show cs[o + j]? = _ by simpa using q]
        simp [List.getD_eq_getElem?_getD, List.getElem?_take, hj]
      obtain ⟨bs, hbs⟩ := isB_of hi fun n hn => hwz n (List.mem_of_mem_take hn)
      exact ⟨bs, _, rfl, .inl hbs⟩
/-- A slice of whatever elements. -/
theorem listT_in {t e : TypeId} {fuel size : Nat} {α : Type} {E : List Value → α → Hl → Prop} {cs : List Value} {x : DataW H × List MemPlace} (ht : P.underlying t = some (.slice e)) (hc : P.cellsOf e = size) (hs : 0 < size)
    (hE : ∀ fuel cs x, DataW.trod enc P W B0 spare held fuel e cs = some x → ∃ a, E cs a (hp W)) (h : DataW.trod enc P W B0 spare held fuel t cs = some x) : ∃ u l, cs = [u] ∧ IsL size E u l (hp W) := by
  classical
  rcases Deep.open_slice ht h with ⟨rfl, _⟩ | ⟨a, len, cap, m, n, D, Pl, rfl, _, hl, hm, hmm, _, hx⟩
  · exact ⟨_, [], rfl, .inl ⟨rfl, rfl⟩⟩
  · have hlm : len ≤ m := by rw [hmm]; split <;> omega
    by_cases h0 : len = 0
    · subst h0
      exact ⟨_, [], rfl, .inr (.inl ⟨a, cap, rfl, rfl⟩)⟩
    · have first : ∃ v, W.cell? a = some v := by
        obtain ⟨cs', h1, _⟩ := hx 0 (by omega)
        obtain ⟨_, h2, h3⟩ := World.cells?_some h1
        have := h3 0 (by omega)
        rw [Nat.zero_mul, show (a.add 0).add 0 = a from rfl, List.getElem?_eq_getElem (by omega)] at this
        exact ⟨_, this⟩
      obtain ⟨v, hv⟩ := first
      obtain ⟨b, o, bs, T, z, rfl, hb, _⟩ := block_of_cell hv
      have each : ∀ i, i < len → ∃ us, us.length = size ∧ (bs.drop (o + i * size)).take size = us ∧ ∃ x, E us x (hp W) := fun i hi => by
        obtain ⟨cs', h1, h2⟩ := hx i (by omega)
        obtain ⟨_, h3, h4⟩ := World.cells?_some h1
        rw [hc] at h3 h4
        refine ⟨cs', h3, ?_, hE _ _ _ h2⟩
        apply List.ext_getElem?
        intro k
        rw [List.getElem?_take]
        split
        · rename_i hk
          have := h4 k hk
          rw [addL, addL] at this
          simp only [World.cell?, hb, Option.isSome_none, Bool.false_eq_true, if_false] at this
          rw [List.getElem?_drop]
          simpa using this
        · rw [List.getElem?_eq_none (by omega)]
      obtain ⟨f, hf⟩ : ∃ f : Nat → α, ∀ i, i < len → E ((bs.drop (o + i * size)).take size) (f i) (hp W) := by
        have each' : ∀ i, i < len → ∃ x, E ((bs.drop (o + i * size)).take size) x (hp W) := fun i hi => by
          obtain ⟨us, _, e2, q⟩ := each i hi
          rw [e2]; exact q
        obtain ⟨x, _⟩ := each' 0 (by omega)
        haveI : Inhabited α := ⟨x⟩
        exact Deep.choose_lt each'
      refine ⟨_, (List.range len).map f, rfl, .inr (.inr ⟨b, o, cap, bs, T, z, by simp, by simpa using hl, by simpa [maxLen] using hm, hb, fun j hj => ?_⟩)⟩
      have hj' : j < len := by simpa using hj
      obtain ⟨us, e1, e2, _⟩ := each j hj'
      exact ⟨us, e1, e2, by rw [← e2]; simpa using hf j hj'⟩
theorem listV_in {t e : TypeId} {size : Nat} {α : Type} {E : List Value → α → Hl → Prop} {v : Value} {d : DataW H} {ps : List MemPlace} (ht : P.underlying t = some (.slice e)) (hc : P.cellsOf e = size) (hs : 0 < size) (hv : Value.okWide P W .any B0 t v)
    (hE : ∀ fuel cs x, DataW.trod enc P W 0 spare held fuel e cs = some x → ∃ a, E cs a (hp W)) (hd : DataW.Trod enc P W 0 spare held t v d ps) : ∃ l, IsL size E v l (hp W) := by
  obtain ⟨fuel, hf⟩ := hd
  obtain ⟨u, l, h1, h2⟩ := listT_in ht hc hs hE hf
  obtain ⟨a, len, cap, rfl⟩ := WideShapes.okWide_slice ht hv
  simp [Value.cells] at h1
  subst h1
  exact ⟨l, h2⟩
end
end Leg
