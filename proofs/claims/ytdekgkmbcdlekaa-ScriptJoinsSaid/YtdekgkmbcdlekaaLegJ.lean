/-
  '==' and '!=' on structs and arrays of numbers and truth values: they ask whether all cells are alike.
-/
import Derived.Test.YtdekgkmbcdlekaaLegI
import Derived.Test.YtdekgkmbcdlekaaLegO
namespace Leg
open Go Codec Api

def kindL : Lit → Option (Option IntKind)
  | .int q _ => some (some q)
  | .bool _ => some none
  | _ => none
def cellL : Lit → Value
  | .int q n => .int q n
  | .bool b => .bool b
  | _ => undef
def flatKF (P : Program) (g : TypeId → Option (List (Option IntKind))) : List Field → Nat → Option (List (Option IntKind))
  | [], _ => some []
  | f :: fs, o => match g f.type with
    | some c => if f.offset = o ∧ P.cellsOf f.type = c.length then (flatKF P g fs (o + c.length)).map (c ++ ·) else none
    | none => none
/-- A type that is numbers and truth values one behind the other: which. -/
def flatK (P : Program) : Nat → TypeId → Option (List (Option IntKind))
  | 0, _ => none
  | d + 1, t => match P.underlying t with
    | some (.int q) => some [some q]
    | some .bool => some [none]
    | some (.array n e) => match flatK P d e with
      | some c => if P.cellsOf e = c.length ∧ P.cellsOf t = n * c.length then some (List.replicate n c).flatten else none
      | none => none
    | some (.struct fs) => match flatKF P (flatK P d) fs.toList 0 with
      | some m => if P.cellsOf t = m.length ∧ fs.all (·.name != "_") = true then some m else none
      | none => none
    | _ => none
/-- Literals of these kinds. -/
def Fits (ks : List (Option IntKind)) (ls : List Lit) : Prop := ls.map kindL = ks.map some ∧ ∀ l ∈ ls, l.wf = true
theorem Fits.len {ks : List (Option IntKind)} {ls : List Lit} (h : Fits ks ls) : ls.length = ks.length := by
  have := congrArg List.length h.1
  simpa using this
theorem Fits.sub {ks : List (Option IntKind)} {ls : List Lit} (h : Fits ks ls) (a b : Nat) : Fits ((ks.drop a).take b) ((ls.drop a).take b) :=
  ⟨by rw [List.map_take, List.map_drop, h.1, List.map_take, List.map_drop], fun l hl => h.2 l (List.mem_of_mem_drop (List.mem_of_mem_take hl))⟩
theorem cells_sub (l : List Lit) (a b : Nat) : ((l.map cellL).drop a).take b = ((l.drop a).take b).map cellL := by simp [List.map_drop, List.map_take]
theorem chunk_rep {α : Type} (c : List α) : ∀ (n i : Nat), i < n → ((List.replicate n c).flatten.drop (i * c.length)).take c.length = c
  | 0, _, h => by omega
  | n + 1, 0, _ => by
    rw [List.replicate_succ, List.flatten_cons, Nat.zero_mul, List.drop_zero]
    exact List.take_left
  | n + 1, i + 1, h => by
    rw [List.replicate_succ, List.flatten_cons, List.drop_append, show (i + 1) * c.length = i * c.length + c.length by rw [Nat.add_mul, Nat.one_mul], List.drop_of_length_le (by omega), List.nil_append, Nat.add_sub_cancel]
    exact chunk_rep c n i (by omega)
theorem fields_lits {P : Program} {d : Nat} (ih : ∀ t ks, flatK P d t = some ks → ∀ l : List Lit, Fits ks l → P.keyLits d t (l.map cellL) = some l) (l : List Lit) :
    ∀ (fs : List Field) (o : Nat) (ks : List (Option IntKind)), flatKF P (flatK P d) fs o = some ks → o ≤ l.length → Fits ks (l.drop o) →
      ∃ L, (fs.mapM fun f => P.keyLits d f.type (((l.map cellL).drop f.offset).take (P.cellsOf f.type))) = some L ∧ L.flatten = l.drop o
  | [], o, ks, h, _, hf => by
    simp only [flatKF, Option.some.injEq] at h
    subst h
    have := hf.len
    exact ⟨[], rfl, (List.eq_nil_of_length_eq_zero (by simpa using this)).symm⟩
  | f :: fs, o, ks, h, ho, hf => by
    simp only [flatKF] at h
    split at h
    · rename_i c hc
      split at h
      · rename_i hh
        obtain ⟨m, hm, rfl⟩ := Option.map_eq_some_iff.1 h
        have hlen := hf.len
        rw [List.length_append, List.length_drop] at hlen
        have f1 : Fits c ((l.drop o).take c.length) := by
          have := hf.sub 0 c.length
          simpa using this
        have f2 : Fits m (l.drop (o + c.length)) := by
          have e : (l.drop (o + c.length)) = (((l.drop o).drop c.length).take ((l.drop o).length)) := by
            rw [List.drop_drop, List.take_of_length_le (by simp; omega)]
          have := hf.sub c.length (l.drop o).length
          rw [e]
          have e2 : (((c ++ m).drop c.length).take (l.drop o).length) = m := by
            rw [List.drop_left, List.take_of_length_le (by rw [List.length_drop]; omega)]
          rwa [e2] at this
        obtain ⟨L, h1, h2⟩ := fields_lits ih l fs (o + c.length) m hm (by omega) f2
        have e : P.keyLits d f.type (((l.map cellL).drop f.offset).take (P.cellsOf f.type)) = some ((l.drop o).take c.length) := by
          rw [cells_sub, hh.1, hh.2]
          exact ih f.type c hc _ f1
        refine ⟨(l.drop o).take c.length :: L, by rw [List.mapM_cons, e, h1]; rfl, ?_⟩
        rw [List.flatten_cons, h2, ← List.drop_drop]
        exact List.take_append_drop _ _
      · cases h
    · cases h
theorem keyLits_lits {P : Program} : ∀ (d : Nat) (t : TypeId) (ks : List (Option IntKind)), flatK P d t = some ks → ∀ l : List Lit, Fits ks l → P.keyLits d t (l.map cellL) = some l
  | 0, _, _, h => by simp [flatK] at h
  | d + 1, t, ks, h => fun l hl => by
    have ih := keyLits_lits (P := P) d
    simp only [flatK] at h
    split at h
    · rename_i q hu
      simp only [Option.some.injEq] at h
      subst h
      obtain ⟨x, rfl⟩ := List.length_eq_one_iff.1 (by simpa using hl.len)
      have h1 := hl.1
      have h2 := hl.2 x (by simp)
      simp only [List.map_cons, List.map_nil, List.cons.injEq, and_true] at h1
      cases x <;> simp only [kindL, Option.some.injEq, reduceCtorEq] at h1
      subst h1
      simp [Program.keyLits, hu, cellL, h2]
    · rename_i hu
      simp only [Option.some.injEq] at h
      subst h
      obtain ⟨x, rfl⟩ := List.length_eq_one_iff.1 (by simpa using hl.len)
      have h1 := hl.1
      simp only [List.map_cons, List.map_nil, List.cons.injEq, and_true] at h1
      cases x <;> simp only [kindL, Option.some.injEq, reduceCtorEq] at h1
      simp [Program.keyLits, hu, cellL]
    · rename_i n e hu
      split at h
      · rename_i c hc
        split at h
        · rename_i hh
          simp only [Option.some.injEq] at h
          subst h
          have hlen : l.length = n * c.length := by
            rw [hl.len]; simp [List.length_flatten]
          have hm : ((List.range n).mapM fun i => P.keyLits d e (((l.map cellL).drop (i * P.cellsOf e)).take (P.cellsOf e))) = some ((List.range n).map fun i => (l.drop (i * c.length)).take c.length) := by
            refine mapM_some fun i hi => ?_
            have hi' : i < n := List.mem_range.1 hi
            rw [hh.1, cells_sub]
            refine ih e c hc _ ?_
            have := hl.sub (i * c.length) c.length
            rwa [chunk_rep c n i hi'] at this
          have hf : (((List.range n).map fun i => (l.drop (i * c.length)).take c.length)).flatten = l := chunks c.length n l hlen
          unfold Program.keyLits
          simp only [hu]
          rw [if_pos (by rw [List.length_map, hlen, hh.2]), hm, Option.map_some, hf]
        · cases h
      · cases h
    · rename_i fs hu
      split at h
      · rename_i m' hc
        split at h
        · rename_i hh
          simp only [Option.some.injEq] at h
          subst h
          obtain ⟨L, h1, h2⟩ := fields_lits (P := P) (d := d) (fun t m h l => ih t m h l) l fs.toList 0 _ hc (Nat.zero_le _) (by simpa using hl)
          unfold Program.keyLits
          simp only [hu]
          rw [if_pos ⟨by rw [List.length_map, hl.len, hh.1], hh.2⟩, h1, Option.map_some, h2]
          rfl
        · cases h
      · cases h
    · cases h
section
variable {P : Program} {n : Nat} {D : List Deferred} {L : List (Nat × Value)} {S : World → Prop} {o : Oper}
def aggT (P : Program) (t : TypeId) : Bool := match P.underlying t with
  | some (.struct _) => true
  | some (.array _ _) => true
  | _ => false
theorem formedL {t : TypeId} {l : List Lit} {ks : List (Option IntKind)} (hu : aggT P t = true) (hc : P.cellsOf t = ks.length) (h : Fits ks l) : Value.formed P t (.agg (l.map cellL).toArray) = true := by
  unfold aggT at hu
  unfold Value.formed
  split at hu
  · rename_i h1; simp [h1, hc, h.len]
  · rename_i h1; simp [h1, hc, h.len]
  · cases hu
theorem run_eqL {t : TypeId} {a b : List Lit} [Decidable (a = b)] {m : Nat} {ks : List (Option IntKind)} (hk : P.keyTypeAt m t = true) (hm : Nat.ble m 10000 = true) (hF : flatK P m t = some ks)
    (hu : aggT P t = true) (hc : P.cellsOf t = ks.length) (wa : Fits ks a) (wb : Fits ks b) (w : World) :
    (Op.equalIn 10000 t (.agg (a.map cellL).toArray) (.agg (b.map cellL).toArray)).run P w = .ok (decide (a = b)) w := by
  have hm' : m ≤ 10000 := Nat.le_of_ble_eq_true hm
  obtain ⟨r, hr, hi⟩ := run_equalIn_deep (10000 - m) m t hk w m m (.agg (a.map cellL).toArray) (.agg (b.map cellL).toArray) a b (formedL hu hc wa) (formedL hu hc wb) (by simpa [Value.cells] using keyLits_lits m t ks hF a wa) (by simpa [Value.cells] using keyLits_lits m t ks hF b wb)
  rw [show 10000 - m + m = 10000 by omega] at hr
  have e : r = decide (a = b) := by
    rw [Bool.eq_iff_iff, hi, decide_eq_true_iff]
  rw [hr, e]
theorem PV.eqlL {t t' : TypeId} {x y : Operand} {a b : List Lit} [Decidable (a = b)] {m : Nat} {ks : List (Option IntKind)} (hg : P.eqGuardType P.depth t = false) (hk : P.keyTypeAt m t = true) (hm : Nat.ble m 10000 = true) (hF : flatK P m t = some ks)
    (hu : aggT P t = true) (hc : P.cellsOf t = ks.length) (wa : Fits ks a) (wb : Fits ks b)
    (ho : o.op = .binOp .eql t x y t') (hx : evL L x = some (.agg (a.map cellL).toArray)) (hy : evL L y = some (.agg (b.map cellL).toArray)) : PV P n D L S o (.bool (decide (a = b))) :=
  PV.bin ho hx hy fun w => by
    rw [Sem.run_bind, run_eqGuard_agg w .eql t x y _ _ hg, Result.andThen_ok, run_eql_struct, run_eqL hk hm hF hu hc wa wb w]
    rfl
theorem PV.neqL {t t' : TypeId} {x y : Operand} {a b : List Lit} [Decidable (a = b)] {m : Nat} {ks : List (Option IntKind)} (hg : P.eqGuardType P.depth t = false) (hk : P.keyTypeAt m t = true) (hm : Nat.ble m 10000 = true) (hF : flatK P m t = some ks)
    (hu : aggT P t = true) (hc : P.cellsOf t = ks.length) (wa : Fits ks a) (wb : Fits ks b)
    (ho : o.op = .binOp .neq t x y t') (hx : evL L x = some (.agg (a.map cellL).toArray)) (hy : evL L y = some (.agg (b.map cellL).toArray)) : PV P n D L S o (.bool (decide (a ≠ b))) :=
  PV.bin ho hx hy fun w => by
    rw [Sem.run_bind, run_eqGuard_agg w .neq t x y _ _ hg, Result.andThen_ok, run_neq_struct, run_eqL hk hm hF hu hc wa wb w]
    simp
end
/-! ### Bytes -/
def litB (l : List UInt8) : List Lit := l.map fun b => Lit.int .u8 ((b.toNat : Nat) : Int)
theorem litB_cells (l : List UInt8) : (litB l).map cellL = u8s l := by simp [litB, u8s, cellL]
theorem litB_inj {a b : List UInt8} : litB a = litB b ↔ a = b := by
  refine List.map_inj_right fun u v h => ?_
  injection h with _ h
  exact UInt8.toNat_inj.1 (by exact_mod_cast h)
theorem litB_fits {l : List UInt8} {n : Nat} (h : l.length = n) : Fits (List.replicate n (some .u8)) (litB l) := by
  subst h
  refine ⟨?_, fun x hx => ?_⟩
  · rw [List.map_replicate, litB, List.map_map, List.eq_replicate_iff]
    refine ⟨by simp, fun y hy => ?_⟩
    obtain ⟨z, _, rfl⟩ := List.mem_map.1 hy
    rfl
  · obtain ⟨z, _, rfl⟩ := List.mem_map.1 hx
    have := z.toNat_lt
    have m1 : IntKind.u8.min = 0 := by decide
    have m2 : IntKind.u8.max = 255 := by decide
    simp only [Lit.wf, m1, m2, decide_eq_true_eq, Bool.and_eq_true]
    omega
section
variable {P : Program} {n : Nat} {D : List Deferred} {L : List (Nat × Value)} {S : World → Prop} {o : Oper}
theorem PV.neqB {t t' : TypeId} {x y : Operand} {a b : List UInt8} {m c : Nat} (hg : P.eqGuardType P.depth t = false) (hk : P.keyTypeAt m t = true) (hm : Nat.ble m 10000 = true) (hF : flatK P m t = some (List.replicate c (some .u8)))
    (hu : aggT P t = true) (hc : P.cellsOf t = c) (ha : a.length = c) (hb : b.length = c)
    (ho : o.op = .binOp .neq t x y t') (hx : evL L x = some (.agg (u8s a).toArray)) (hy : evL L y = some (.agg (u8s b).toArray)) : PV P n D L S o (.bool (decide (a ≠ b))) := by
  letI : Decidable (litB a = litB b) := decidable_of_iff _ litB_inj.symm
  have := PV.neqL (P := P) (n := n) (D := D) (L := L) (S := S) (o := o) (t := t) (t' := t') (x := x) (y := y) (a := litB a) (b := litB b) hg hk hm hF hu (by rw [hc, List.length_replicate]) (litB_fits ha) (litB_fits hb) ho (by rw [litB_cells]; exact hx) (by rw [litB_cells]; exact hy)
  simpa [litB_inj] using this
theorem PV.eqlBy {t t' : TypeId} {x y : Operand} {a b : List UInt8} {m c : Nat} (hg : P.eqGuardType P.depth t = false) (hk : P.keyTypeAt m t = true) (hm : Nat.ble m 10000 = true) (hF : flatK P m t = some (List.replicate c (some .u8)))
    (hu : aggT P t = true) (hc : P.cellsOf t = c) (ha : a.length = c) (hb : b.length = c)
    (ho : o.op = .binOp .eql t x y t') (hx : evL L x = some (.agg (u8s a).toArray)) (hy : evL L y = some (.agg (u8s b).toArray)) : PV P n D L S o (.bool (decide (a = b))) := by
  letI : Decidable (litB a = litB b) := decidable_of_iff _ litB_inj.symm
  have := PV.eqlL (P := P) (n := n) (D := D) (L := L) (S := S) (o := o) (t := t) (t' := t') (x := x) (y := y) (a := litB a) (b := litB b) hg hk hm hF hu (by rw [hc, List.length_replicate]) (litB_fits ha) (litB_fits hb) ho (by rw [litB_cells]; exact hx) (by rw [litB_cells]; exact hy)
  simpa [litB_inj] using this
end
end Leg
