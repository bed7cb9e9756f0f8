/-
  Structs and arrays that are written out, their parts given as lists of cells.
-/
import Derived.Test.YtdekgkmbcdlekaaLegJ
namespace Leg
open Go Codec Api

/-- A fold that lays a list's values in, one behind the other, somewhere. -/
theorem fold_mid (vs : List Value) : ∀ (o j : Nat) (pre zeros post : List Value), pre.length = o + j → zeros.length = vs.length →
    ((vs.zipIdx j).foldl (fun (cs : Array Value) (c, i) => cs.setIfInBounds (o + i) c) (pre ++ (zeros ++ post)).toArray) = (pre ++ (vs ++ post)).toArray := by
  induction vs with
  | nil => intro o j pre zeros post _ h; rw [List.eq_nil_of_length_eq_zero h]; rfl
  | cons v vs ih =>
    intro o j pre zeros post hp hz
    match zeros, hz with
    | z :: zeros, hz =>
      rw [List.zipIdx_cons, List.foldl_cons]
      have e : (pre ++ (z :: zeros ++ post)).toArray.setIfInBounds (o + j) v = ((pre ++ [v]) ++ (zeros ++ post)).toArray := by
        rw [List.setIfInBounds_toArray, List.set_append_right _ _ (by omega), hp, Nat.sub_self, List.cons_append, List.set_cons_zero, List.append_assoc]
        rfl
      simp only [e]
      rw [ih o (j + 1) (pre ++ [v]) zeros post (by simp; omega) (by simpa using hz), List.append_assoc]
      rfl
/-- Where parts lie that stand one behind the other. -/
def offs : List (List Value) → Nat → List (Nat × Nat)
  | [], _ => []
  | s :: ss, o => (o, s.length) :: offs ss (o + s.length)
/-- Parts laid in. -/
def putSegs (segs : List (List Value)) : List (Nat × List Value) → Option (List (List Value))
  | [] => some segs
  | (i, v) :: ps => match segs[i]? with
    | some s => if v.length = s.length then putSegs (segs.set i v) ps else none
    | none => none
theorem offs_set : ∀ (segs : List (List Value)) (o i : Nat) (s v : List Value), segs[i]? = some s → v.length = s.length → offs (segs.set i v) o = offs segs o
  | [], _, _, _, _, h, _ => by simp at h
  | s :: ss, o, 0, t, v, h, hl => by
    simp only [List.getElem?_cons_zero, Option.some.injEq] at h
    subst h
    simp [offs, hl]
  | s :: ss, o, i + 1, t, v, h, hl => by
    simp only [List.getElem?_cons_succ] at h
    simp [offs, offs_set ss _ i t v h hl]
theorem segs_split : ∀ (segs : List (List Value)) (o i : Nat) (s : List Value), segs[i]? = some s → ∃ A B, segs.flatten = A ++ (s ++ B) ∧ (offs segs o)[i]? = some (o + A.length, s.length) ∧ ∀ v, (segs.set i v).flatten = A ++ (v ++ B)
  | [], _, _, _, h => by simp at h
  | s :: ss, o, 0, t, h => by
    simp only [List.getElem?_cons_zero, Option.some.injEq] at h
    subst h
    exact ⟨[], ss.flatten, by simp, by simp [offs], fun v => by simp⟩
  | s :: ss, o, i + 1, t, h => by
    simp only [List.getElem?_cons_succ] at h
    obtain ⟨A, B, h1, h2, h3⟩ := segs_split ss (o + s.length) i t h
    refine ⟨s ++ A, B, by simp [h1], ?_, fun v => by simp [h3 v]⟩
    simp only [offs, List.getElem?_cons_succ, h2, List.length_append, Nat.add_assoc]
theorem fill_segs : ∀ (parts : List (Nat × List Value)) (vals : List (Nat × Value)) (segs res : List (List Value)) (place : Nat → Option (Nat × Nat)), (∀ i, i < segs.length → place i = (offs segs 0)[i]?) → vals.map (fun p => (p.1, p.2.cells)) = parts.map (fun p => (p.1, p.2.toArray)) → putSegs segs parts = some res →
    Instr.fill place segs.flatten.toArray vals = some res.flatten.toArray
  | [], [], segs, res, place, _, _, h => by
    simp only [putSegs, Option.some.injEq] at h
    subst h; rfl
  | [], _ :: _, _, _, _, _, h, _ => by simp at h
  | _ :: _, [], _, _, _, _, h, _ => by simp at h
  | (i, v) :: ps, (i', u) :: us, segs, res, place, hp, hv, h => by
    simp only [List.map_cons, List.cons.injEq, Prod.mk.injEq] at hv
    obtain ⟨⟨rfl, hu⟩, hv⟩ := hv
    simp only [putSegs] at h
    split at h
    · rename_i s hs
      split at h
      · rename_i hl
        have hi : i' < segs.length := (List.getElem?_eq_some_iff.1 hs).1
        obtain ⟨A, B, h1, h2, h3⟩ := segs_split segs 0 i' s hs
        simp only [Nat.zero_add] at h2
        have e := fold_mid v A.length 0 A s B (by simp) (by omega)
        have ih := fill_segs ps us (segs.set i' v) res place (fun j hj => by rw [offs_set segs 0 i' s v hs hl]; exact hp j (by simpa using hj)) hv h
        rw [h3] at ih
        simp only [Instr.fill, hp i' hi, h2, hu, List.size_toArray, h1]
        rw [if_neg (by simp [hl])]
        rw [← ih, ← e]
        congr 1
        rw [← Array.foldl_toList, Array.toList_zipIdx]
      · cases h
    · cases h
theorem built_segs {P : Program} {t : TypeId} {fs : Array Field} {segs res : List (List Value)} {parts : List (Nat × List Value)} {vals : List (Nat × Value)} (ht : P.underlying t = some (.struct fs)) (hz : (P.info? t).map (·.zero) = some (some (.agg segs.flatten.toArray)))
    (hp : fs.toList.mapM (fun f => (P.info? f.type).map fun i => (f.offset, i.size)) = some (offs segs 0)) (hv : vals.map (fun p => (p.1, p.2.cells)) = parts.map (fun p => (p.1, p.2.toArray))) (h : putSegs segs parts = some res) : P.built t vals = some res.flatten.toArray := by
  obtain ⟨i, hi, hz'⟩ := Option.map_eq_some_iff.1 hz
  unfold Program.built
  simp only [hi, ht, hz', hp]
  exact fill_segs parts vals segs res _ (fun j _ => by simp) hv h
section
variable {P : Program} {n : Nat} {D : List Deferred} {L : List (Nat × Value)} {S : World → Prop} {o : Oper}
/-- A struct whose parts are lists of cells. -/
theorem PV.buildSegs {t : TypeId} {ps : Array (Nat × Operand)} {fs : Array Field} {segs res : List (List Value)} {parts : List (Nat × List Value)} {vals : List (Nat × Value)} {cs : List Value} (ho : o.op = .build t ps) (hx : evp L ps.toList = some vals) (ht : P.underlying t = some (.struct fs))
    (hz : (P.info? t).map (·.zero) = some (some (.agg segs.flatten.toArray))) (hp : fs.toList.mapM (fun f => (P.info? f.type).map fun i => (f.offset, i.size)) = some (offs segs 0)) (hv : vals.map (fun p => (p.1, p.2.cells)) = parts.map (fun p => (p.1, p.2.toArray))) (h : putSegs segs parts = some res) (hc : res.flatten = cs) : PV P n D L S o (.agg cs.toArray) := by
  subst hc
  exact PV.build ho hx (built_segs ht hz hp hv h)
end
end Leg
