/-
  Joined texts: what a statement's proof reaches.
-/
import Derived.Test.YtobdfjdoilnfcaaGreatPWit1
set_option maxHeartbeats 8000000
section
namespace Leg
open Go Codec Api

def kindL : Lit → Option (Option IntKind)
  | .int q _ => some (some q)
  | .bool _ => some none
  | _ => none
def cellL : Lit → Value
  | .int q n => .int q n
  | .bool b => .bool b
  | _ => undef
def flatKF (P : Program) (g : TypeId → Option (List (Option IntKind))) : List Field → Nat → Option (List (Option IntKind))
  | [], _ => some []
  | f :: fs, o => match g f.type with
    | some c => if f.offset = o ∧ P.cellsOf f.type = c.length then (flatKF P g fs (o + c.length)).map (c ++ ·) else none
    | none => none
def flatK (P : Program) : Nat → TypeId → Option (List (Option IntKind))
  | 0, _ => none
  | d + 1, t => match P.underlying t with
    | some (.int q) => some [some q]
    | some .bool => some [none]
    | some (.array n e) => match flatK P d e with
      | some c => if P.cellsOf e = c.length ∧ P.cellsOf t = n * c.length then some (List.replicate n c).flatten else none
      | none => none
    | some (.struct fs) => match flatKF P (flatK P d) fs.toList 0 with
      | some m => if P.cellsOf t = m.length ∧ fs.all (·.name != "_") = true then some m else none
      | none => none
    | _ => none
def Fits (ks : List (Option IntKind)) (ls : List Lit) : Prop := ls.map kindL = ks.map some ∧ ∀ l ∈ ls, l.wf = true
theorem Fits.len {ks : List (Option IntKind)} {ls : List Lit} (h : Fits ks ls) : ls.length = ks.length := by
  have := congrArg List.length h.1
  simpa using this
theorem Fits.sub {ks : List (Option IntKind)} {ls : List Lit} (h : Fits ks ls) (a b : Nat) : Fits ((ks.drop a).take b) ((ls.drop a).take b) :=
  ⟨by rw [List.map_take, List.map_drop, h.1, List.map_take, List.map_drop], fun l hl => h.2 l (List.mem_of_mem_drop (List.mem_of_mem_take hl))⟩
theorem cells_sub (l : List Lit) (a b : Nat) : ((l.map cellL).drop a).take b = ((l.drop a).take b).map cellL := by simp [List.map_drop, List.map_take]
theorem chunk_rep {α : Type} (c : List α) : ∀ (n i : Nat), i < n → ((List.replicate n c).flatten.drop (i * c.length)).take c.length = c
  | 0, _, h => by omega
  | n + 1, 0, _ => by
    rw [List.replicate_succ, List.flatten_cons, Nat.zero_mul, List.drop_zero]
    exact List.take_left
  | n + 1, i + 1, h => by
    rw [List.replicate_succ, List.flatten_cons, List.drop_append, show (i + 1) * c.length = i * c.length + c.length by rw [Nat.add_mul, Nat.one_mul], List.drop_of_length_le (by omega), List.nil_append, Nat.add_sub_cancel]
    exact chunk_rep c n i (by omega)
theorem fields_lits {P : Program} {d : Nat} (ih : ∀ t ks, flatK P d t = some ks → ∀ l : List Lit, Fits ks l → P.keyLits d t (l.map cellL) = some l) (l : List Lit) :
    ∀ (fs : List Field) (o : Nat) (ks : List (Option IntKind)), flatKF P (flatK P d) fs o = some ks → o ≤ l.length → Fits ks (l.drop o) →
      ∃ L, (fs.mapM fun f => P.keyLits d f.type (((l.map cellL).drop f.offset).take (P.cellsOf f.type))) = some L ∧ L.flatten = l.drop o
  | [], o, ks, h, _, hf => by
    simp only [flatKF, Option.some.injEq] at h
    subst h
    have := hf.len
    exact ⟨[], rfl, (List.eq_nil_of_length_eq_zero (by simpa using this)).symm⟩
  | f :: fs, o, ks, h, ho, hf => by
    simp only [flatKF] at h
    split at h
    · rename_i c hc
      split at h
      · rename_i hh
        obtain ⟨m, hm, rfl⟩ := Option.map_eq_some_iff.1 h
        have hlen := hf.len
        rw [List.length_append, List.length_drop] at hlen
        have f1 : Fits c ((l.drop o).take c.length) := by
          have := hf.sub 0 c.length
          simpa using this
        have f2 : Fits m (l.drop (o + c.length)) := by
          have e : (l.drop (o + c.length)) = (((l.drop o).drop c.length).take ((l.drop o).length)) := by
            rw [List.drop_drop, List.take_of_length_le (by simp; omega)]
          have := hf.sub c.length (l.drop o).length
          rw [e]
          have e2 : (((c ++ m).drop c.length).take (l.drop o).length) = m := by
            rw [List.drop_left, List.take_of_length_le (by rw [List.length_drop]; omega)]
          rwa [e2] at this
        obtain ⟨L, h1, h2⟩ := fields_lits ih l fs (o + c.length) m hm (by omega) f2
        have e : P.keyLits d f.type (((l.map cellL).drop f.offset).take (P.cellsOf f.type)) = some ((l.drop o).take c.length) := by
          rw [cells_sub, hh.1, hh.2]
          exact ih f.type c hc _ f1
        refine ⟨(l.drop o).take c.length :: L, by rw [List.mapM_cons, e, h1]; rfl, ?_⟩
        rw [List.flatten_cons, h2, ← List.drop_drop]
        exact List.take_append_drop _ _
      · cases h
    · cases h
theorem keyLits_lits {P : Program} : ∀ (d : Nat) (t : TypeId) (ks : List (Option IntKind)), flatK P d t = some ks → ∀ l : List Lit, Fits ks l → P.keyLits d t (l.map cellL) = some l
  | 0, _, _, h => by simp [flatK] at h
  | d + 1, t, ks, h => fun l hl => by
    have ih := keyLits_lits (P := P) d
    simp only [flatK] at h
    split at h
    · rename_i q hu
      simp only [Option.some.injEq] at h
      subst h
      obtain ⟨x, rfl⟩ := List.length_eq_one_iff.1 (by simpa using hl.len)
      have h1 := hl.1
      have h2 := hl.2 x (by simp)
      simp only [List.map_cons, List.map_nil, List.cons.injEq, and_true] at h1
      cases x <;> simp only [kindL, Option.some.injEq, reduceCtorEq] at h1
      subst h1
      simp [Program.keyLits, hu, cellL, h2]
    · rename_i hu
      simp only [Option.some.injEq] at h
      subst h
      obtain ⟨x, rfl⟩ := List.length_eq_one_iff.1 (by simpa using hl.len)
      have h1 := hl.1
      simp only [List.map_cons, List.map_nil, List.cons.injEq, and_true] at h1
      cases x <;> simp only [kindL, Option.some.injEq, reduceCtorEq] at h1
      simp [Program.keyLits, hu, cellL]
    · rename_i n e hu
      split at h
      · rename_i c hc
        split at h
        · rename_i hh
          simp only [Option.some.injEq] at h
          subst h
          have hlen : l.length = n * c.length := by
            rw [hl.len]; simp [List.length_flatten]
          have hm : ((List.range n).mapM fun i => P.keyLits d e (((l.map cellL).drop (i * P.cellsOf e)).take (P.cellsOf e))) = some ((List.range n).map fun i => (l.drop (i * c.length)).take c.length) := by
            refine mapM_some fun i hi => ?_
            have hi' : i < n := List.mem_range.1 hi
            rw [hh.1, cells_sub]
            refine ih e c hc _ ?_
            have := hl.sub (i * c.length) c.length
            rwa [chunk_rep c n i hi'] at this
          have hf : (((List.range n).map fun i => (l.drop (i * c.length)).take c.length)).flatten = l := chunks c.length n l hlen
          unfold Program.keyLits
          simp only [hu]
          rw [if_pos (by rw [List.length_map, hlen, hh.2]), hm, Option.map_some, hf]
        · cases h
      · cases h
    · rename_i fs hu
      split at h
      · rename_i m' hc
        split at h
        · rename_i hh
          simp only [Option.some.injEq] at h
          subst h
          obtain ⟨L, h1, h2⟩ := fields_lits (P := P) (d := d) (fun t m h l => ih t m h l) l fs.toList 0 _ hc (Nat.zero_le _) (by simpa using hl)
          unfold Program.keyLits
          simp only [hu]
          rw [if_pos ⟨by rw [List.length_map, hl.len, hh.1], hh.2⟩, h1, Option.map_some, h2]
          rfl
        · cases h
      · cases h
    · cases h
section
variable {P : Program} {n : Nat} {D : List Deferred} {L : List (Nat × Value)} {S : World → Prop} {o : Oper}
def aggT (P : Program) (t : TypeId) : Bool := match P.underlying t with
  | some (.struct _) => true
  | some (.array _ _) => true
  | _ => false
theorem formedL {t : TypeId} {l : List Lit} {ks : List (Option IntKind)} (hu : aggT P t = true) (hc : P.cellsOf t = ks.length) (h : Fits ks l) : Value.formed P t (.agg (l.map cellL).toArray) = true := by
  unfold aggT at hu
  unfold Value.formed
  split at hu
  · rename_i h1; simp [h1, hc, h.len]
  · rename_i h1; simp [h1, hc, h.len]
  · cases hu
theorem run_eqL {t : TypeId} {a b : List Lit} [Decidable (a = b)] {m : Nat} {ks : List (Option IntKind)} (hk : P.keyTypeAt m t = true) (hm : Nat.ble m 10000 = true) (hF : flatK P m t = some ks)
    (hu : aggT P t = true) (hc : P.cellsOf t = ks.length) (wa : Fits ks a) (wb : Fits ks b) (w : World) :
    (Op.equalIn 10000 t (.agg (a.map cellL).toArray) (.agg (b.map cellL).toArray)).run P w = .ok (decide (a = b)) w := by
  have hm' : m ≤ 10000 := Nat.le_of_ble_eq_true hm
  obtain ⟨r, hr, hi⟩ := run_equalIn_deep (10000 - m) m t hk w m m (.agg (a.map cellL).toArray) (.agg (b.map cellL).toArray) a b (formedL hu hc wa) (formedL hu hc wb) (by simpa [Value.cells] using keyLits_lits m t ks hF a wa) (by simpa [Value.cells] using keyLits_lits m t ks hF b wb)
  rw [show 10000 - m + m = 10000 by omega] at hr
  have e : r = decide (a = b) := by
    rw [Bool.eq_iff_iff, hi, decide_eq_true_iff]
  rw [hr, e]
theorem PV.eqlL {t t' : TypeId} {x y : Operand} {a b : List Lit} [Decidable (a = b)] {m : Nat} {ks : List (Option IntKind)} (hg : P.eqGuardType P.depth t = false) (hk : P.keyTypeAt m t = true) (hm : Nat.ble m 10000 = true) (hF : flatK P m t = some ks)
    (hu : aggT P t = true) (hc : P.cellsOf t = ks.length) (wa : Fits ks a) (wb : Fits ks b)
    (ho : o.op = .binOp .eql t x y t') (hx : evL L x = some (.agg (a.map cellL).toArray)) (hy : evL L y = some (.agg (b.map cellL).toArray)) : PV P n D L S o (.bool (decide (a = b))) :=
  PV.bin ho hx hy fun w => by
    rw [Sem.run_bind, run_eqGuard_agg w .eql t x y _ _ hg, Result.andThen_ok, run_eql_struct, run_eqL hk hm hF hu hc wa wb w]
    rfl
end
/-! ### Bytes -/
def litB (l : List UInt8) : List Lit := l.map fun b => Lit.int .u8 ((b.toNat : Nat) : Int)
theorem litB_cells (l : List UInt8) : (litB l).map cellL = u8s l := by simp [litB, u8s, cellL]
theorem litB_inj {a b : List UInt8} : litB a = litB b ↔ a = b := by
  refine List.map_inj_right fun u v h => ?_
  injection h with _ h
  exact UInt8.toNat_inj.1 (by exact_mod_cast h)
theorem litB_fits {l : List UInt8} {n : Nat} (h : l.length = n) : Fits (List.replicate n (some .u8)) (litB l) := by
  subst h
  refine ⟨?_, fun x hx => ?_⟩
  · rw [List.map_replicate, litB, List.map_map, List.eq_replicate_iff]
    refine ⟨by simp, fun y hy => ?_⟩
    obtain ⟨z, _, rfl⟩ := List.mem_map.1 hy
    rfl
  · obtain ⟨z, _, rfl⟩ := List.mem_map.1 hx
    have := z.toNat_lt
    have m1 : IntKind.u8.min = 0 := by decide
    have m2 : IntKind.u8.max = 255 := by decide
    simp only [Lit.wf, m1, m2, decide_eq_true_eq, Bool.and_eq_true]
    omega
section
variable {P : Program} {n : Nat} {D : List Deferred} {L : List (Nat × Value)} {S : World → Prop} {o : Oper}
theorem PV.eqlBy {t t' : TypeId} {x y : Operand} {a b : List UInt8} {m c : Nat} (hg : P.eqGuardType P.depth t = false) (hk : P.keyTypeAt m t = true) (hm : Nat.ble m 10000 = true) (hF : flatK P m t = some (List.replicate c (some .u8)))
    (hu : aggT P t = true) (hc : P.cellsOf t = c) (ha : a.length = c) (hb : b.length = c)
    (ho : o.op = .binOp .eql t x y t') (hx : evL L x = some (.agg (u8s a).toArray)) (hy : evL L y = some (.agg (u8s b).toArray)) : PV P n D L S o (.bool (decide (a = b))) := by
  letI : Decidable (litB a = litB b) := decidable_of_iff _ litB_inj.symm
  have := PV.eqlL (P := P) (n := n) (D := D) (L := L) (S := S) (o := o) (t := t) (t' := t') (x := x) (y := y) (a := litB a) (b := litB b) hg hk hm hF hu (by rw [hc, List.length_replicate]) (litB_fits ha) (litB_fits hb) ho (by rw [litB_cells]; exact hx) (by rw [litB_cells]; exact hy)
  simpa [litB_inj] using this
end
end Leg
end

section
namespace Leg
open Go Codec Api

theorem fold_mid (vs : List Value) : ∀ (o j : Nat) (pre zeros post : List Value), pre.length = o + j → zeros.length = vs.length →
    ((vs.zipIdx j).foldl (fun (cs : Array Value) (c, i) => cs.setIfInBounds (o + i) c) (pre ++ (zeros ++ post)).toArray) = (pre ++ (vs ++ post)).toArray := by
  induction vs with
  | nil => intro o j pre zeros post _ h; rw [List.eq_nil_of_length_eq_zero h]; rfl
  | cons v vs ih =>
    intro o j pre zeros post hp hz
    match zeros, hz with
    | z :: zeros, hz =>
      rw [List.zipIdx_cons, List.foldl_cons]
      have e : (pre ++ (z :: zeros ++ post)).toArray.setIfInBounds (o + j) v = ((pre ++ [v]) ++ (zeros ++ post)).toArray := by
        rw [List.setIfInBounds_toArray, List.set_append_right _ _ (by omega), hp, Nat.sub_self, List.cons_append, List.set_cons_zero, List.append_assoc]
        rfl
      simp only [e]
      rw [ih o (j + 1) (pre ++ [v]) zeros post (by simp; omega) (by simpa using hz), List.append_assoc]
      rfl
def offs : List (List Value) → Nat → List (Nat × Nat)
  | [], _ => []
  | s :: ss, o => (o, s.length) :: offs ss (o + s.length)
def putSegs (segs : List (List Value)) : List (Nat × List Value) → Option (List (List Value))
  | [] => some segs
  | (i, v) :: ps => match segs[i]? with
    | some s => if v.length = s.length then putSegs (segs.set i v) ps else none
    | none => none
theorem offs_set : ∀ (segs : List (List Value)) (o i : Nat) (s v : List Value), segs[i]? = some s → v.length = s.length → offs (segs.set i v) o = offs segs o
  | [], _, _, _, _, h, _ => by simp at h
  | s :: ss, o, 0, t, v, h, hl => by
    simp only [List.getElem?_cons_zero, Option.some.injEq] at h
    subst h
    simp [offs, hl]
  | s :: ss, o, i + 1, t, v, h, hl => by
    simp only [List.getElem?_cons_succ] at h
    simp [offs, offs_set ss _ i t v h hl]
theorem segs_split : ∀ (segs : List (List Value)) (o i : Nat) (s : List Value), segs[i]? = some s → ∃ A B, segs.flatten = A ++ (s ++ B) ∧ (offs segs o)[i]? = some (o + A.length, s.length) ∧ ∀ v, (segs.set i v).flatten = A ++ (v ++ B)
  | [], _, _, _, h => by simp at h
  | s :: ss, o, 0, t, h => by
    simp only [List.getElem?_cons_zero, Option.some.injEq] at h
    subst h
    exact ⟨[], ss.flatten, by simp, by simp [offs], fun v => by simp⟩
  | s :: ss, o, i + 1, t, h => by
    simp only [List.getElem?_cons_succ] at h
    obtain ⟨A, B, h1, h2, h3⟩ := segs_split ss (o + s.length) i t h
    refine ⟨s ++ A, B, by simp [h1], ?_, fun v => by simp [h3 v]⟩
    simp only [offs, List.getElem?_cons_succ, h2, List.length_append, Nat.add_assoc]
theorem fill_segs : ∀ (parts : List (Nat × List Value)) (vals : List (Nat × Value)) (segs res : List (List Value)) (place : Nat → Option (Nat × Nat)), (∀ i, i < segs.length → place i = (offs segs 0)[i]?) → vals.map (fun p => (p.1, p.2.cells)) = parts.map (fun p => (p.1, p.2.toArray)) → putSegs segs parts = some res →
    Instr.fill place segs.flatten.toArray vals = some res.flatten.toArray
  | [], [], segs, res, place, _, _, h => by
    simp only [putSegs, Option.some.injEq] at h
    subst h; rfl
  | [], _ :: _, _, _, _, _, h, _ => by simp at h
  | _ :: _, [], _, _, _, _, h, _ => by simp at h
  | (i, v) :: ps, (i', u) :: us, segs, res, place, hp, hv, h => by
    simp only [List.map_cons, List.cons.injEq, Prod.mk.injEq] at hv
    obtain ⟨⟨rfl, hu⟩, hv⟩ := hv
    simp only [putSegs] at h
    split at h
    · rename_i s hs
      split at h
      · rename_i hl
        have hi : i' < segs.length := (List.getElem?_eq_some_iff.1 hs).1
        obtain ⟨A, B, h1, h2, h3⟩ := segs_split segs 0 i' s hs
        simp only [Nat.zero_add] at h2
        have e := fold_mid v A.length 0 A s B (by simp) (by omega)
        have ih := fill_segs ps us (segs.set i' v) res place (fun j hj => by rw [offs_set segs 0 i' s v hs hl]; exact hp j (by simpa using hj)) hv h
        rw [h3] at ih
        simp only [Instr.fill, hp i' hi, h2, hu, List.size_toArray, h1]
        rw [if_neg (by simp [hl])]
        rw [← ih, ← e]
        congr 1
        rw [← Array.foldl_toList, Array.toList_zipIdx]
      · cases h
    · cases h
theorem built_segs {P : Program} {t : TypeId} {fs : Array Field} {segs res : List (List Value)} {parts : List (Nat × List Value)} {vals : List (Nat × Value)} (ht : P.underlying t = some (.struct fs)) (hz : (P.info? t).map (·.zero) = some (some (.agg segs.flatten.toArray)))
    (hp : fs.toList.mapM (fun f => (P.info? f.type).map fun i => (f.offset, i.size)) = some (offs segs 0)) (hv : vals.map (fun p => (p.1, p.2.cells)) = parts.map (fun p => (p.1, p.2.toArray))) (h : putSegs segs parts = some res) : P.built t vals = some res.flatten.toArray := by
  obtain ⟨i, hi, hz'⟩ := Option.map_eq_some_iff.1 hz
  unfold Program.built
  simp only [hi, ht, hz', hp]
  exact fill_segs parts vals segs res _ (fun j _ => by simp) hv h
section
variable {P : Program} {n : Nat} {D : List Deferred} {L : List (Nat × Value)} {S : World → Prop} {o : Oper}
theorem PV.buildSegs {t : TypeId} {ps : Array (Nat × Operand)} {fs : Array Field} {segs res : List (List Value)} {parts : List (Nat × List Value)} {vals : List (Nat × Value)} {cs : List Value} (ho : o.op = .build t ps) (hx : evp L ps.toList = some vals) (ht : P.underlying t = some (.struct fs))
    (hz : (P.info? t).map (·.zero) = some (some (.agg segs.flatten.toArray))) (hp : fs.toList.mapM (fun f => (P.info? f.type).map fun i => (f.offset, i.size)) = some (offs segs 0)) (hv : vals.map (fun p => (p.1, p.2.cells)) = parts.map (fun p => (p.1, p.2.toArray))) (h : putSegs segs parts = some res) (hc : res.flatten = cs) : PV P n D L S o (.agg cs.toArray) := by
  subst hc
  exact PV.build ho hx (built_segs ht hz hp hv h)
end
end Leg
end

section
namespace Leg
open Go Codec Api

inductive SL : List (List Value) → List Nat → Prop
  | nil : SL [] []
  | cons {s : List Value} {n : Nat} {L : List (List Value)} {ns : List Nat} (h : s.length = n) (r : SL L ns) : SL (s :: L) (n :: ns)
theorem SL.split {L : List (List Value)} {ns : List Nat} (h : SL L ns) (i : Nat) {n : Nat} (hn : ns[i]? = some n) : ∃ s A B, L[i]? = some s ∧ s.length = n ∧ L.flatten = A ++ (s ++ B) ∧ A.length = (ns.take i).sum ∧ ∀ v, (L.set i v).flatten = A ++ (v ++ B) := by
  induction h generalizing i with
  | nil => simp at hn
  | @cons s m L ns hs r ih =>
    cases i with
    | zero =>
      simp only [List.getElem?_cons_zero, Option.some.injEq] at hn
      exact ⟨s, [], L.flatten, rfl, by omega, by simp, rfl, fun v => by simp⟩
    | succ i =>
      obtain ⟨t, A, B, h1, h2, h3, h4, h5⟩ := ih i (by simpa using hn)
      exact ⟨t, s ++ A, B, by simpa using h1, h2, by simp [h3], by simp [h4, hs], fun v => by simp [h5 v]⟩
theorem SL.len {L : List (List Value)} {ns : List Nat} (h : SL L ns) : L.flatten.length = ns.sum := by
  induction h with
  | nil => rfl
  | cons hs r ih => simp [ih, hs]
theorem SL.sub {L : List (List Value)} {ns : List Nat} (h : SL L ns) (i : Nat) {s : List Value} {n off : Nat} (j m : Nat) (hn : ns[i]? = some n) (hs : L[i]? = some s) (ho : (ns.take i).sum = off) (hj : j + m ≤ n) : (L.flatten.drop (off + j)).take m = (s.drop j).take m := by
  obtain ⟨t, A, B, h1, h2, h3, h4, _⟩ := h.split i hn
  obtain rfl : t = s := by rw [h1] at hs; exact Option.some.inj hs
  rw [h3, ← ho, ← h4, ← List.drop_drop, List.drop_left, List.drop_append_of_le_length (by omega), List.take_append_of_le_length (by simp; omega)]
theorem SL.at {L : List (List Value)} {ns : List Nat} (h : SL L ns) (i : Nat) {s : List Value} {n off : Nat} (j : Nat) (hn : ns[i]? = some n) (hs : L[i]? = some s) (ho : (ns.take i).sum = off) (hj : j < n) : L.flatten[off + j]? = s[j]? := by
  obtain ⟨t, A, B, h1, h2, h3, h4, _⟩ := h.split i hn
  obtain rfl : t = s := by rw [h1] at hs; exact Option.some.inj hs
  rw [h3, ← ho, ← h4, List.getElem?_append_right (by omega), Nat.add_sub_cancel_left, List.getElem?_append_left (by omega)]
theorem SL.put {L : List (List Value)} {ns : List Nat} (h : SL L ns) (i : Nat) {n off : Nat} (vs : List Value) (hn : ns[i]? = some n) (ho : (ns.take i).sum = off) (hv : vs.length = n) : wr L.flatten off vs = (L.set i vs).flatten := by
  obtain ⟨t, A, B, h1, h2, h3, h4, h5⟩ := h.split i hn
  rw [h5, h3, ← ho, ← h4, wr_append_right (Nat.le_refl _), Nat.sub_self, wr_append_left (by omega), wr_whole (by omega)]
theorem SL.putIn {L : List (List Value)} {ns : List Nat} (h : SL L ns) (i : Nat) {s s' : List Value} {n off : Nat} (j : Nat) (vs : List Value) (hn : ns[i]? = some n) (hs : L[i]? = some s) (ho : (ns.take i).sum = off) (hj : j + vs.length ≤ n) (hw : wr s j vs = s') : wr L.flatten (off + j) vs = (L.set i s').flatten := by
  obtain ⟨t, A, B, h1, h2, h3, h4, h5⟩ := h.split i hn
  obtain rfl : t = s := by rw [h1] at hs; exact Option.some.inj hs
  rw [h5, h3, ← ho, ← h4, wr_append_right (by omega), Nat.add_sub_cancel_left, wr_append_left (by omega), hw]
theorem SL.set {L : List (List Value)} {ns : List Nat} (h : SL L ns) (i : Nat) {s : List Value} {n off : Nat} (j : Nat) (v : Value) (hn : ns[i]? = some n) (hs : L[i]? = some s) (ho : (ns.take i).sum = off) (hj : j < n) : L.flatten.set (off + j) v = (L.set i (s.set j v)).flatten := by
  obtain ⟨t, A, B, h1, h2, h3, h4, h5⟩ := h.split i hn
  obtain rfl : t = s := by rw [h1] at hs; exact Option.some.inj hs
  rw [h5, h3, ← ho, ← h4, List.set_append_right _ _ (by omega), Nat.add_sub_cancel_left, List.set_append_left _ _ (by omega)]
theorem SL.around {L : List (List Value)} {ns : List Nat} (h : SL L ns) (i : Nat) {s : List Value} {n off : Nat} (hn : ns[i]? = some n) (hs : L[i]? = some s) (ho : (ns.take i).sum = off) : ∃ A B, L.flatten = A ++ (s ++ B) ∧ A.length = off ∧ ∀ v, (L.set i v).flatten = A ++ (v ++ B) := by
  obtain ⟨t, A, B, h1, h2, h3, h4, h5⟩ := h.split i hn
  obtain rfl : t = s := by rw [h1] at hs; exact Option.some.inj hs
  exact ⟨A, B, h3, by omega, h5⟩
section
variable {P : Program} {w0 : World} {F : Hl} {n : Nat} {ops : Array Oper} {Q : QQ} {D : List Deferred} {L : List (Nat × Value)} {H : List HP} {S : World → Prop}
end
end Leg
end

section
namespace Api
open Go Leg

theorem whole {cs : List Value} {n : Nat} (h : cs.length = n) : (cs.drop 0).take n = cs := by rw [List.drop_zero, List.take_of_length_le (by omega)]
theorem wwhole {cs vs : List Value} (h : cs.length = vs.length) : wr cs 0 vs = vs := wr_whole h
theorem vi_at {n : Nat} (v : Vector Int n) {i : Nat} (h : i < n) : (ints v.toList)[i]? = some (.int .i64 v[i]) := by simp [ints, h]
theorem vs_eq {α : Type} (f : α → List Int) (l : List α) : ints (l.flatMap f) = (l.map fun x => ints (f x)).flatten := by
  induction l with
  | nil => rfl
  | cons x l ih => rw [List.flatMap_cons, ints_append, ih]; rfl
theorem vs_sl {α : Type} {m : Nat} {f : α → List Int} (hf : ∀ x, (f x).length = m) : ∀ l : List α, SL (l.map fun x => ints (f x)) (List.replicate l.length m)
  | [] => .nil
  | x :: l => .cons (by rw [ints_length, hf]) (vs_sl hf l)
theorem sum_rep (m : Nat) : ∀ (n i : Nat), i ≤ n → ((List.replicate n m).take i).sum = i * m := fun n i h => by
  rw [List.take_replicate, Nat.min_eq_left h, List.sum_replicate_nat]
theorem vs_sub {α : Type} {n m : Nat} {f : α → List Int} (hf : ∀ x, (f x).length = m) (v : Vector α n) {i k o : Nat} (j : Nat) (hi : i < n) (ho : o = i * m + j) (h : j + k ≤ m) {r : List Value} (hr : ((ints (f v[i])).drop j).take k = r) :
    ((ints (v.toList.flatMap f)).drop o).take k = r := by
  subst ho
  rw [← hr, vs_eq]
  have hl := (vs_sl hf v.toList)
  exact hl.sub i j k (by simp [hi]) (by simp [hi]) (by simp only [Vector.length_toList]; exact sum_rep m n i (by omega)) h
theorem vs_pt {α : Type} {n m : Nat} {f : α → List Int} (hf : ∀ x, (f x).length = m) (v : Vector α n) {i o : Nat} (j : Nat) (hi : i < n) (ho : o = i * m + j) (h : j < m) {r : Option Value} (hr : (ints (f v[i]))[j]? = r) :
    (ints (v.toList.flatMap f))[o]? = r := by
  subst ho
  rw [← hr, vs_eq]
  have hl := (vs_sl hf v.toList)
  exact hl.at i j (by simp [hi]) (by simp [hi]) (by simp only [Vector.length_toList]; exact sum_rep m n i (by omega)) h
theorem map_set_get {α : Type} {n : Nat} (v : Vector α n) {i : Nat} (hi : i < n) (g : α → List Value) (y : α) : (v.toList.map g).set i (g y) = (v.set i y hi).toList.map g := by rw [tl_set, List.map_set]
theorem vs_wr {α : Type} {n m : Nat} {f : α → List Int} (hf : ∀ x, (f x).length = m) (v : Vector α n) {i o : Nat} (j : Nat) {vs : List Value} {u' : α} (hi : i < n) (ho : o = i * m + j) (h : j + vs.length ≤ m) (hw : wr (ints (f v[i])) j vs = ints (f u')) :
    wr (ints (v.toList.flatMap f)) o vs = ints ((v.set i u' hi).toList.flatMap f) := by
  subst ho
  rw [vs_eq, vs_eq, ← map_set_get v hi (fun x => ints (f x)) u']
  have hl := (vs_sl hf v.toList)
  exact hl.putIn i j vs (by simp [hi]) (by simp [hi]) (by simp only [Vector.length_toList]; exact sum_rep m n i (by omega)) h hw
theorem vs_st {α : Type} {n m : Nat} {f : α → List Int} (hf : ∀ x, (f x).length = m) (v : Vector α n) {i o : Nat} (j : Nat) {x : Value} {u' : α} (hi : i < n) (ho : o = i * m + j) (h : j < m) (hw : (ints (f v[i])).set j x = ints (f u')) :
    (ints (v.toList.flatMap f)).set o x = ints ((v.set i u' hi).toList.flatMap f) := by
  subst ho
  rw [vs_eq, vs_eq, ← map_set_get v hi (fun x => ints (f x)) u', ← hw]
  have hl := (vs_sl hf v.toList)
  exact hl.set i j x (by simp [hi]) (by simp [hi]) (by simp only [Vector.length_toList]; exact sum_rep m n i (by omega)) h
theorem vi5_len (v : Vector Int 5) : (ints v.toList).length = 5 := by simp [ints]
theorem vs4_len (v : Vector CellT 4) : (ints (flats v.toList)).length = 28 := by simp [ints_length, flats_length]
theorem putSegs_nil {segs : List (List Value)} : putSegs segs [] = some segs := rfl
theorem putSegs_step {segs : List (List Value)} {i : Nat} {v s : List Value} {ps : List (Nat × List Value)} {res : List (List Value)} (hs : segs[i]? = some s) (hl : v.length = s.length) (h : putSegs (segs.set i v) ps = some res) : putSegs segs ((i, v) :: ps) = some res := by
  simp only [putSegs, hs, if_pos hl, h]
theorem vl_len (v : Vector CellT 4) : (flats v.toList).length = 28 := by simp [flats_length]
theorem CellT.sl (m : CellT) : SL [[Value.int .i64 m.inn], [Value.int .i64 m.out], ints m.given.toList] [1, 1, 5] := (.cons rfl (.cons rfl (.cons (by simp [ints]) .nil)))
theorem CellT.eq (m : CellT) : ints m.flat = [[Value.int .i64 m.inn], [Value.int .i64 m.out], ints m.given.toList].flatten := by simp [CellT.flat, ints]
theorem CellT.at_inn (m : CellT) {o : Nat} (ho : o = 0) : (ints m.flat)[o]? = some (Value.int .i64 m.inn) := by subst ho; rw [CellT.eq]; exact (CellT.sl m).at 0 0 rfl rfl rfl (by decide)
theorem CellT.set_inn (m : CellT) {o : Nat} (ho : o = 0) (x : Int) : (ints m.flat).set o (Value.int .i64 x) = ints ({ m with inn := x } : CellT).flat := by subst ho; rw [CellT.eq, CellT.eq]; exact (CellT.sl m).set 0 0 _ rfl rfl rfl (by decide)
theorem CellT.at_out (m : CellT) {o : Nat} (ho : o = 1) : (ints m.flat)[o]? = some (Value.int .i64 m.out) := by subst ho; rw [CellT.eq]; exact (CellT.sl m).at 1 0 rfl rfl rfl (by decide)
theorem CellT.sub_given (m : CellT) {o k : Nat} (j : Nat) (ho : o = 2 + j) (h : j + k ≤ 5) {r : List Value} (hr : ((ints m.given.toList).drop j).take k = r) : ((ints m.flat).drop o).take k = r := by subst ho; rw [← hr, CellT.eq]; exact (CellT.sl m).sub 2 j k rfl rfl rfl h
theorem RowT.sl (m : RowT) : SL [[Value.int .i64 m.version], ints (flats m.cells.toList), ints m.heir.toList, ints (m.left.toList.flatMap fun v => flats v.toList)] [1, 28, 5, 140] := (.cons rfl (.cons (by simp [ints_length, flats_length]) (.cons (by simp [ints]) (.cons (by rw [ints_length, flat5_length]; simp) .nil))))
theorem RowT.eq (m : RowT) : ints m.flat = [[Value.int .i64 m.version], ints (flats m.cells.toList), ints m.heir.toList, ints (m.left.toList.flatMap fun v => flats v.toList)].flatten := by simp [RowT.flat, ints]
theorem RowT.at_version (m : RowT) {o : Nat} (ho : o = 0) : (ints m.flat)[o]? = some (Value.int .i64 m.version) := by subst ho; rw [RowT.eq]; exact (RowT.sl m).at 0 0 rfl rfl rfl (by decide)
theorem RowT.set_version (m : RowT) {o : Nat} (ho : o = 0) (x : Int) : (ints m.flat).set o (Value.int .i64 x) = ints ({ m with version := x } : RowT).flat := by subst ho; rw [RowT.eq, RowT.eq]; exact (RowT.sl m).set 0 0 _ rfl rfl rfl (by decide)
theorem RowT.pt_cells (m : RowT) {o : Nat} (j : Nat) (ho : o = 1 + j) (h : j < 28) {r : Option Value} (hr : (ints (flats m.cells.toList))[j]? = r) : (ints m.flat)[o]? = r := by subst ho; rw [← hr, RowT.eq]; exact (RowT.sl m).at 1 j rfl rfl rfl h
theorem RowT.sub_cells (m : RowT) {o k : Nat} (j : Nat) (ho : o = 1 + j) (h : j + k ≤ 28) {r : List Value} (hr : ((ints (flats m.cells.toList)).drop j).take k = r) : ((ints m.flat).drop o).take k = r := by subst ho; rw [← hr, RowT.eq]; exact (RowT.sl m).sub 1 j k rfl rfl rfl h
theorem RowT.st_cells (m : RowT) {o : Nat} (j : Nat) {v : Value} {u' : Vector CellT 4} (ho : o = 1 + j) (h : j < 28) (hw : (ints (flats m.cells.toList)).set j v = ints (flats u'.toList)) : (ints m.flat).set o v = ints ({ m with cells := u' } : RowT).flat := by subst ho; rw [RowT.eq, RowT.eq]; exact ((RowT.sl m).set 1 j v rfl rfl rfl h).trans (by rw [hw]; rfl)
theorem RowT.pt_heir (m : RowT) {o : Nat} (j : Nat) (ho : o = 29 + j) (h : j < 5) {r : Option Value} (hr : (ints m.heir.toList)[j]? = r) : (ints m.flat)[o]? = r := by subst ho; rw [← hr, RowT.eq]; exact (RowT.sl m).at 2 j rfl rfl rfl h
theorem RowT.sub_heir (m : RowT) {o k : Nat} (j : Nat) (ho : o = 29 + j) (h : j + k ≤ 5) {r : List Value} (hr : ((ints m.heir.toList).drop j).take k = r) : ((ints m.flat).drop o).take k = r := by subst ho; rw [← hr, RowT.eq]; exact (RowT.sl m).sub 2 j k rfl rfl rfl h
theorem RowT.sub_left (m : RowT) {o k : Nat} (j : Nat) (ho : o = 34 + j) (h : j + k ≤ 140) {r : List Value} (hr : ((ints (m.left.toList.flatMap fun v => flats v.toList)).drop j).take k = r) : ((ints m.flat).drop o).take k = r := by subst ho; rw [← hr, RowT.eq]; exact (RowT.sl m).sub 3 j k rfl rfl rfl h
theorem ViewT.sl (m : ViewT) : SL [[Value.int .i64 m.epoch], [Value.int .i64 m.members], ints m.heirs.toList] [1, 1, 5] := (.cons rfl (.cons rfl (.cons (by simp [ints]) .nil)))
theorem ViewT.eq (m : ViewT) : ints m.flat = [[Value.int .i64 m.epoch], [Value.int .i64 m.members], ints m.heirs.toList].flatten := by simp [ViewT.flat, ints]
theorem ViewT.len (m : ViewT) : (ints m.flat).length = 7 := by rw [ViewT.eq, (ViewT.sl m).len]; rfl
theorem ViewT.at_epoch (m : ViewT) {o : Nat} (ho : o = 0) : (ints m.flat)[o]? = some (Value.int .i64 m.epoch) := by subst ho; rw [ViewT.eq]; exact (ViewT.sl m).at 0 0 rfl rfl rfl (by decide)
theorem ViewT.set_epoch (m : ViewT) {o : Nat} (ho : o = 0) (x : Int) : (ints m.flat).set o (Value.int .i64 x) = ints ({ m with epoch := x } : ViewT).flat := by subst ho; rw [ViewT.eq, ViewT.eq]; exact (ViewT.sl m).set 0 0 _ rfl rfl rfl (by decide)
theorem ViewT.at_members (m : ViewT) {o : Nat} (ho : o = 1) : (ints m.flat)[o]? = some (Value.int .i64 m.members) := by subst ho; rw [ViewT.eq]; exact (ViewT.sl m).at 1 0 rfl rfl rfl (by decide)
theorem ViewT.pt_heirs (m : ViewT) {o : Nat} (j : Nat) (ho : o = 2 + j) (h : j < 5) {r : Option Value} (hr : (ints m.heirs.toList)[j]? = r) : (ints m.flat)[o]? = r := by subst ho; rw [← hr, ViewT.eq]; exact (ViewT.sl m).at 2 j rfl rfl rfl h
theorem ViewT.sub_heirs (m : ViewT) {o k : Nat} (j : Nat) (ho : o = 2 + j) (h : j + k ≤ 5) {r : List Value} (hr : ((ints m.heirs.toList).drop j).take k = r) : ((ints m.flat).drop o).take k = r := by subst ho; rw [← hr, ViewT.eq]; exact (ViewT.sl m).sub 2 j k rfl rfl rfl h
theorem ChangeT.sl (m : ChangeT) : SL [[Value.int .i64 m.kind], [Value.int .i64 m.who], [Value.int .i64 m.heir]] [1, 1, 1] := (.cons rfl (.cons rfl (.cons rfl .nil)))
theorem ChangeT.eq (m : ChangeT) : ints m.flat = [[Value.int .i64 m.kind], [Value.int .i64 m.who], [Value.int .i64 m.heir]].flatten := by simp [ChangeT.flat, ints]
theorem ChangeT.len (m : ChangeT) : (ints m.flat).length = 3 := by rw [ChangeT.eq, (ChangeT.sl m).len]; rfl
theorem ChangeT.at_kind (m : ChangeT) {o : Nat} (ho : o = 0) : (ints m.flat)[o]? = some (Value.int .i64 m.kind) := by subst ho; rw [ChangeT.eq]; exact (ChangeT.sl m).at 0 0 rfl rfl rfl (by decide)
theorem BallotT.sl (m : BallotT) : SL [[Value.int .i64 m.round], [Value.int .i64 m.who]] [1, 1] := (.cons rfl (.cons rfl .nil))
theorem BallotT.eq (m : BallotT) : ints m.flat = [[Value.int .i64 m.round], [Value.int .i64 m.who]].flatten := by simp [BallotT.flat, ints]
theorem BallotT.len (m : BallotT) : (ints m.flat).length = 2 := by rw [BallotT.eq, (BallotT.sl m).len]; rfl
theorem BallotT.set_round (m : BallotT) {o : Nat} (ho : o = 0) (x : Int) : (ints m.flat).set o (Value.int .i64 x) = ints ({ m with round := x } : BallotT).flat := by subst ho; rw [BallotT.eq, BallotT.eq]; exact (BallotT.sl m).set 0 0 _ rfl rfl rfl (by decide)
theorem MsgT.sl (m : MsgT) : SL [[Value.int .i64 m.kind], [Value.int .i64 m.whose], ints m.row.flat, [Value.int .i64 m.version], [Value.int .i64 m.epoch], ints m.ballot.flat, ints m.had.flat, ints m.change.flat, ints m.view.flat] [1, 1, 174, 1, 1, 2, 2, 3, 7] := (.cons rfl (.cons rfl (.cons (RowT.len _) (.cons rfl (.cons rfl (.cons (BallotT.len _) (.cons (BallotT.len _) (.cons (ChangeT.len _) (.cons (ViewT.len _) .nil)))))))))
theorem MsgT.eq (m : MsgT) : ints m.flat = [[Value.int .i64 m.kind], [Value.int .i64 m.whose], ints m.row.flat, [Value.int .i64 m.version], [Value.int .i64 m.epoch], ints m.ballot.flat, ints m.had.flat, ints m.change.flat, ints m.view.flat].flatten := by simp [MsgT.flat, ints]
theorem MsgT.len (m : MsgT) : (ints m.flat).length = 192 := by rw [MsgT.eq, (MsgT.sl m).len]; rfl
theorem MsgT.at_kind (m : MsgT) {o : Nat} (ho : o = 0) : (ints m.flat)[o]? = some (Value.int .i64 m.kind) := by subst ho; rw [MsgT.eq]; exact (MsgT.sl m).at 0 0 rfl rfl rfl (by decide)
theorem MsgT.at_whose (m : MsgT) {o : Nat} (ho : o = 1) : (ints m.flat)[o]? = some (Value.int .i64 m.whose) := by subst ho; rw [MsgT.eq]; exact (MsgT.sl m).at 1 0 rfl rfl rfl (by decide)
theorem MsgT.set_whose (m : MsgT) {o : Nat} (ho : o = 1) (x : Int) : (ints m.flat).set o (Value.int .i64 x) = ints ({ m with whose := x } : MsgT).flat := by subst ho; rw [MsgT.eq, MsgT.eq]; exact (MsgT.sl m).set 1 0 _ rfl rfl rfl (by decide)
theorem MsgT.sub_row (m : MsgT) {o k : Nat} (j : Nat) (ho : o = 2 + j) (h : j + k ≤ 174) {r : List Value} (hr : ((ints m.row.flat).drop j).take k = r) : ((ints m.flat).drop o).take k = r := by subst ho; rw [← hr, MsgT.eq]; exact (MsgT.sl m).sub 2 j k rfl rfl rfl h
theorem MsgT.wr_row_ (m : MsgT) {o : Nat} (j : Nat) {vs : List Value} {u' : RowT} (ho : o = 2 + j) (h : j + vs.length ≤ 174) (hw : wr (ints m.row.flat) j vs = ints u'.flat) : wr (ints m.flat) o vs = ints ({ m with row := u' } : MsgT).flat := by subst ho; rw [MsgT.eq, MsgT.eq]; exact (MsgT.sl m).putIn 2 j vs rfl rfl rfl h hw
theorem MsgT.at_version (m : MsgT) {o : Nat} (ho : o = 176) : (ints m.flat)[o]? = some (Value.int .i64 m.version) := by subst ho; rw [MsgT.eq]; exact (MsgT.sl m).at 3 0 rfl rfl rfl (by decide)
theorem MsgT.set_version (m : MsgT) {o : Nat} (ho : o = 176) (x : Int) : (ints m.flat).set o (Value.int .i64 x) = ints ({ m with version := x } : MsgT).flat := by subst ho; rw [MsgT.eq, MsgT.eq]; exact (MsgT.sl m).set 3 0 _ rfl rfl rfl (by decide)
theorem MsgT.at_epoch (m : MsgT) {o : Nat} (ho : o = 177) : (ints m.flat)[o]? = some (Value.int .i64 m.epoch) := by subst ho; rw [MsgT.eq]; exact (MsgT.sl m).at 4 0 rfl rfl rfl (by decide)
theorem MsgT.set_epoch (m : MsgT) {o : Nat} (ho : o = 177) (x : Int) : (ints m.flat).set o (Value.int .i64 x) = ints ({ m with epoch := x } : MsgT).flat := by subst ho; rw [MsgT.eq, MsgT.eq]; exact (MsgT.sl m).set 4 0 _ rfl rfl rfl (by decide)
theorem MsgT.sub_ballot (m : MsgT) {o k : Nat} (j : Nat) (ho : o = 178 + j) (h : j + k ≤ 2) {r : List Value} (hr : ((ints m.ballot.flat).drop j).take k = r) : ((ints m.flat).drop o).take k = r := by subst ho; rw [← hr, MsgT.eq]; exact (MsgT.sl m).sub 5 j k rfl rfl rfl h
theorem MsgT.wr_ballot_ (m : MsgT) {o : Nat} (j : Nat) {vs : List Value} {u' : BallotT} (ho : o = 178 + j) (h : j + vs.length ≤ 2) (hw : wr (ints m.ballot.flat) j vs = ints u'.flat) : wr (ints m.flat) o vs = ints ({ m with ballot := u' } : MsgT).flat := by subst ho; rw [MsgT.eq, MsgT.eq]; exact (MsgT.sl m).putIn 5 j vs rfl rfl rfl h hw
theorem MsgT.sub_had (m : MsgT) {o k : Nat} (j : Nat) (ho : o = 180 + j) (h : j + k ≤ 2) {r : List Value} (hr : ((ints m.had.flat).drop j).take k = r) : ((ints m.flat).drop o).take k = r := by subst ho; rw [← hr, MsgT.eq]; exact (MsgT.sl m).sub 6 j k rfl rfl rfl h
theorem MsgT.wr_had_ (m : MsgT) {o : Nat} (j : Nat) {vs : List Value} {u' : BallotT} (ho : o = 180 + j) (h : j + vs.length ≤ 2) (hw : wr (ints m.had.flat) j vs = ints u'.flat) : wr (ints m.flat) o vs = ints ({ m with had := u' } : MsgT).flat := by subst ho; rw [MsgT.eq, MsgT.eq]; exact (MsgT.sl m).putIn 6 j vs rfl rfl rfl h hw
theorem MsgT.sub_change (m : MsgT) {o k : Nat} (j : Nat) (ho : o = 182 + j) (h : j + k ≤ 3) {r : List Value} (hr : ((ints m.change.flat).drop j).take k = r) : ((ints m.flat).drop o).take k = r := by subst ho; rw [← hr, MsgT.eq]; exact (MsgT.sl m).sub 7 j k rfl rfl rfl h
theorem MsgT.wr_change_ (m : MsgT) {o : Nat} (j : Nat) {vs : List Value} {u' : ChangeT} (ho : o = 182 + j) (h : j + vs.length ≤ 3) (hw : wr (ints m.change.flat) j vs = ints u'.flat) : wr (ints m.flat) o vs = ints ({ m with change := u' } : MsgT).flat := by subst ho; rw [MsgT.eq, MsgT.eq]; exact (MsgT.sl m).putIn 7 j vs rfl rfl rfl h hw
theorem MsgT.pt_view (m : MsgT) {o : Nat} (j : Nat) (ho : o = 185 + j) (h : j < 7) {r : Option Value} (hr : (ints m.view.flat)[j]? = r) : (ints m.flat)[o]? = r := by subst ho; rw [← hr, MsgT.eq]; exact (MsgT.sl m).at 8 j rfl rfl rfl h
theorem MsgT.sub_view (m : MsgT) {o k : Nat} (j : Nat) (ho : o = 185 + j) (h : j + k ≤ 7) {r : List Value} (hr : ((ints m.view.flat).drop j).take k = r) : ((ints m.flat).drop o).take k = r := by subst ho; rw [← hr, MsgT.eq]; exact (MsgT.sl m).sub 8 j k rfl rfl rfl h
theorem MsgT.wr_view_ (m : MsgT) {o : Nat} (j : Nat) {vs : List Value} {u' : ViewT} (ho : o = 185 + j) (h : j + vs.length ≤ 7) (hw : wr (ints m.view.flat) j vs = ints u'.flat) : wr (ints m.flat) o vs = ints ({ m with view := u' } : MsgT).flat := by subst ho; rw [MsgT.eq, MsgT.eq]; exact (MsgT.sl m).putIn 8 j vs rfl rfl rfl h hw
theorem RecT.sl (m : RecT) : SL [[Value.int .i64 m.kind], [Value.int .i64 m.whose], ints m.row.flat, [Value.int .i64 m.epoch], ints m.ballot.flat, ints m.change.flat, ints m.view.flat] [1, 1, 174, 1, 2, 3, 7] := (.cons rfl (.cons rfl (.cons (RowT.len _) (.cons rfl (.cons (BallotT.len _) (.cons (ChangeT.len _) (.cons (ViewT.len _) .nil)))))))
theorem RecT.eq (m : RecT) : ints m.flat = [[Value.int .i64 m.kind], [Value.int .i64 m.whose], ints m.row.flat, [Value.int .i64 m.epoch], ints m.ballot.flat, ints m.change.flat, ints m.view.flat].flatten := by simp [RecT.flat, ints]
theorem RecT.len (m : RecT) : (ints m.flat).length = 189 := by rw [RecT.eq, (RecT.sl m).len]; rfl
theorem RecT.at_kind (m : RecT) {o : Nat} (ho : o = 0) : (ints m.flat)[o]? = some (Value.int .i64 m.kind) := by subst ho; rw [RecT.eq]; exact (RecT.sl m).at 0 0 rfl rfl rfl (by decide)
theorem RecT.at_whose (m : RecT) {o : Nat} (ho : o = 1) : (ints m.flat)[o]? = some (Value.int .i64 m.whose) := by subst ho; rw [RecT.eq]; exact (RecT.sl m).at 1 0 rfl rfl rfl (by decide)
theorem RecT.set_whose (m : RecT) {o : Nat} (ho : o = 1) (x : Int) : (ints m.flat).set o (Value.int .i64 x) = ints ({ m with whose := x } : RecT).flat := by subst ho; rw [RecT.eq, RecT.eq]; exact (RecT.sl m).set 1 0 _ rfl rfl rfl (by decide)
theorem RecT.sub_row (m : RecT) {o k : Nat} (j : Nat) (ho : o = 2 + j) (h : j + k ≤ 174) {r : List Value} (hr : ((ints m.row.flat).drop j).take k = r) : ((ints m.flat).drop o).take k = r := by subst ho; rw [← hr, RecT.eq]; exact (RecT.sl m).sub 2 j k rfl rfl rfl h
theorem RecT.wr_row_ (m : RecT) {o : Nat} (j : Nat) {vs : List Value} {u' : RowT} (ho : o = 2 + j) (h : j + vs.length ≤ 174) (hw : wr (ints m.row.flat) j vs = ints u'.flat) : wr (ints m.flat) o vs = ints ({ m with row := u' } : RecT).flat := by subst ho; rw [RecT.eq, RecT.eq]; exact (RecT.sl m).putIn 2 j vs rfl rfl rfl h hw
theorem RecT.at_epoch (m : RecT) {o : Nat} (ho : o = 176) : (ints m.flat)[o]? = some (Value.int .i64 m.epoch) := by subst ho; rw [RecT.eq]; exact (RecT.sl m).at 3 0 rfl rfl rfl (by decide)
theorem RecT.set_epoch (m : RecT) {o : Nat} (ho : o = 176) (x : Int) : (ints m.flat).set o (Value.int .i64 x) = ints ({ m with epoch := x } : RecT).flat := by subst ho; rw [RecT.eq, RecT.eq]; exact (RecT.sl m).set 3 0 _ rfl rfl rfl (by decide)
theorem RecT.sub_ballot (m : RecT) {o k : Nat} (j : Nat) (ho : o = 177 + j) (h : j + k ≤ 2) {r : List Value} (hr : ((ints m.ballot.flat).drop j).take k = r) : ((ints m.flat).drop o).take k = r := by subst ho; rw [← hr, RecT.eq]; exact (RecT.sl m).sub 4 j k rfl rfl rfl h
theorem RecT.wr_ballot_ (m : RecT) {o : Nat} (j : Nat) {vs : List Value} {u' : BallotT} (ho : o = 177 + j) (h : j + vs.length ≤ 2) (hw : wr (ints m.ballot.flat) j vs = ints u'.flat) : wr (ints m.flat) o vs = ints ({ m with ballot := u' } : RecT).flat := by subst ho; rw [RecT.eq, RecT.eq]; exact (RecT.sl m).putIn 4 j vs rfl rfl rfl h hw
theorem RecT.sub_change (m : RecT) {o k : Nat} (j : Nat) (ho : o = 179 + j) (h : j + k ≤ 3) {r : List Value} (hr : ((ints m.change.flat).drop j).take k = r) : ((ints m.flat).drop o).take k = r := by subst ho; rw [← hr, RecT.eq]; exact (RecT.sl m).sub 5 j k rfl rfl rfl h
theorem RecT.wr_change_ (m : RecT) {o : Nat} (j : Nat) {vs : List Value} {u' : ChangeT} (ho : o = 179 + j) (h : j + vs.length ≤ 3) (hw : wr (ints m.change.flat) j vs = ints u'.flat) : wr (ints m.flat) o vs = ints ({ m with change := u' } : RecT).flat := by subst ho; rw [RecT.eq, RecT.eq]; exact (RecT.sl m).putIn 5 j vs rfl rfl rfl h hw
theorem RecT.pt_view (m : RecT) {o : Nat} (j : Nat) (ho : o = 182 + j) (h : j < 7) {r : Option Value} (hr : (ints m.view.flat)[j]? = r) : (ints m.flat)[o]? = r := by subst ho; rw [← hr, RecT.eq]; exact (RecT.sl m).at 6 j rfl rfl rfl h
theorem RecT.sub_view (m : RecT) {o k : Nat} (j : Nat) (ho : o = 182 + j) (h : j + k ≤ 7) {r : List Value} (hr : ((ints m.view.flat).drop j).take k = r) : ((ints m.flat).drop o).take k = r := by subst ho; rw [← hr, RecT.eq]; exact (RecT.sl m).sub 6 j k rfl rfl rfl h
theorem RecT.wr_view_ (m : RecT) {o : Nat} (j : Nat) {vs : List Value} {u' : ViewT} (ho : o = 182 + j) (h : j + vs.length ≤ 7) (hw : wr (ints m.view.flat) j vs = ints u'.flat) : wr (ints m.flat) o vs = ints ({ m with view := u' } : RecT).flat := by subst ho; rw [RecT.eq, RecT.eq]; exact (RecT.sl m).putIn 6 j vs rfl rfl rfl h hw
theorem OpT.sl (m : OpT) : SL [[Value.int .i64 m.kind], [Value.int .i64 m.at'], [Value.int .i64 m.to'], [Value.int .i64 m.key], [Value.int .i64 m.n], ints m.change.flat, [Value.int .i64 m.mask], [Value.int .i64 m.torn], [Value.int .i64 m.cut]] [1, 1, 1, 1, 1, 3, 1, 1, 1] := (.cons rfl (.cons rfl (.cons rfl (.cons rfl (.cons rfl (.cons (ChangeT.len _) (.cons rfl (.cons rfl (.cons rfl .nil)))))))))
theorem OpT.eq (m : OpT) : ints m.flat = [[Value.int .i64 m.kind], [Value.int .i64 m.at'], [Value.int .i64 m.to'], [Value.int .i64 m.key], [Value.int .i64 m.n], ints m.change.flat, [Value.int .i64 m.mask], [Value.int .i64 m.torn], [Value.int .i64 m.cut]].flatten := by simp [OpT.flat, ints]
theorem OpT.len (m : OpT) : (ints m.flat).length = 11 := by rw [OpT.eq, (OpT.sl m).len]; rfl
theorem OpT.at_kind (m : OpT) {o : Nat} (ho : o = 0) : (ints m.flat)[o]? = some (Value.int .i64 m.kind) := by subst ho; rw [OpT.eq]; exact (OpT.sl m).at 0 0 rfl rfl rfl (by decide)
theorem OpT.at_at' (m : OpT) {o : Nat} (ho : o = 1) : (ints m.flat)[o]? = some (Value.int .i64 m.at') := by subst ho; rw [OpT.eq]; exact (OpT.sl m).at 1 0 rfl rfl rfl (by decide)
theorem OpT.at_to' (m : OpT) {o : Nat} (ho : o = 2) : (ints m.flat)[o]? = some (Value.int .i64 m.to') := by subst ho; rw [OpT.eq]; exact (OpT.sl m).at 2 0 rfl rfl rfl (by decide)
theorem OpT.at_key (m : OpT) {o : Nat} (ho : o = 3) : (ints m.flat)[o]? = some (Value.int .i64 m.key) := by subst ho; rw [OpT.eq]; exact (OpT.sl m).at 3 0 rfl rfl rfl (by decide)
theorem OpT.at_n (m : OpT) {o : Nat} (ho : o = 4) : (ints m.flat)[o]? = some (Value.int .i64 m.n) := by subst ho; rw [OpT.eq]; exact (OpT.sl m).at 4 0 rfl rfl rfl (by decide)
theorem OpT.sub_change (m : OpT) {o k : Nat} (j : Nat) (ho : o = 5 + j) (h : j + k ≤ 3) {r : List Value} (hr : ((ints m.change.flat).drop j).take k = r) : ((ints m.flat).drop o).take k = r := by subst ho; rw [← hr, OpT.eq]; exact (OpT.sl m).sub 5 j k rfl rfl rfl h
theorem OpT.wr_change_ (m : OpT) {o : Nat} (j : Nat) {vs : List Value} {u' : ChangeT} (ho : o = 5 + j) (h : j + vs.length ≤ 3) (hw : wr (ints m.change.flat) j vs = ints u'.flat) : wr (ints m.flat) o vs = ints ({ m with change := u' } : OpT).flat := by subst ho; rw [OpT.eq, OpT.eq]; exact (OpT.sl m).putIn 5 j vs rfl rfl rfl h hw
theorem OpT.at_mask (m : OpT) {o : Nat} (ho : o = 8) : (ints m.flat)[o]? = some (Value.int .i64 m.mask) := by subst ho; rw [OpT.eq]; exact (OpT.sl m).at 6 0 rfl rfl rfl (by decide)
theorem OpT.at_torn (m : OpT) {o : Nat} (ho : o = 9) : (ints m.flat)[o]? = some (Value.int .i64 m.torn) := by subst ho; rw [OpT.eq]; exact (OpT.sl m).at 7 0 rfl rfl rfl (by decide)
theorem OpT.at_cut (m : OpT) {o : Nat} (ho : o = 10) : (ints m.flat)[o]? = some (Value.int .i64 m.cut) := by subst ho; rw [OpT.eq]; exact (OpT.sl m).at 8 0 rfl rfl rfl (by decide)
theorem ReplyT.sl (m : ReplyT) : SL [[Value.int .i64 m.op], [Value.int .i64 m.err], [Value.int .i64 m.value]] [1, 1, 1] := (.cons rfl (.cons rfl (.cons rfl .nil)))
theorem ReplyT.eq (m : ReplyT) : ints m.flat = [[Value.int .i64 m.op], [Value.int .i64 m.err], [Value.int .i64 m.value]].flatten := by simp [ReplyT.flat, ints]
theorem ReplyT.len (m : ReplyT) : (ints m.flat).length = 3 := by rw [ReplyT.eq, (ReplyT.sl m).len]; rfl
end Api
end

section
namespace Codec
open Go Leg Api

theorem u8_ofNat_toNat (c : UInt8) : UInt8.ofNat c.toNat = c := by simp
theorem parse_enc : ∀ (bs : List UInt8) (k acc m : Nat) (r : List UInt8), k ≤ 9 → parse k acc bs = some (m, r) → ∃ p, m = acc + p * 2 ^ (7 * k) ∧ bs = encU p ++ r ∧ (0 < k → 0 < p) ∧ p < 2 ^ (7 * (9 - k))
  | [], k, acc, m, r, _, h => by simp [parse] at h
  | c :: cs, k, acc, m, r, hk, h => by
    have hc : c.toNat < 256 := c.toNat_lt
    simp only [parse] at h
    split at h
    · cases h
    · rename_i h9
      split at h
      · rename_i h128
        obtain ⟨p, h1, h2, h3, h4⟩ := parse_enc cs (k + 1) _ m r (by omega) h
        have hp := h3 (by omega)
        refine ⟨c.toNat % 128 + 128 * p, ?_, ?_, fun _ => by omega, ?_⟩
        · rw [h1, show 7 * (k + 1) = 7 * k + 7 by omega, Nat.pow_add, Nat.add_mul, Nat.add_assoc]
          congr 2
          rw [Nat.mul_comm 128 p, Nat.mul_assoc, Nat.mul_comm 128]
        · rw [encU_hi (by omega), show (c.toNat % 128 + 128 * p) % 128 + 128 = c.toNat by omega, show (c.toNat % 128 + 128 * p) / 128 = p by omega, u8_ofNat_toNat, h2]; rfl
        · rw [show 7 * (9 - k) = 7 * (9 - (k + 1)) + 7 by omega, Nat.pow_add]; omega
      · rename_i h128
        split at h
        · cases h
        · rename_i h0
          simp only [Option.some.injEq, Prod.mk.injEq] at h
          obtain ⟨rfl, rfl⟩ := h
          refine ⟨c.toNat, by rw [show c.toNat % 128 = c.toNat by omega], by rw [encU_lo (by omega), u8_ofNat_toNat]; rfl, fun _ => by omega, ?_⟩
          have : 2 ^ 7 ≤ 2 ^ (7 * (9 - k)) := Nat.pow_le_pow_right (by decide) (by omega)
          omega
theorem enc_parse : ∀ (j p k acc : Nat) (r : List UInt8), k + j = 8 → p < 2 ^ (7 * (j + 1)) → (0 < k → 0 < p) → parse k acc (encU p ++ r) = some (acc + p * 2 ^ (7 * k), r)
  | j, p, k, acc, r, hj, hp, h0 => by
    by_cases h : p < 128
    · rw [encU_lo h]
      simp only [List.cons_append, List.nil_append, parse]
      have e : (UInt8.ofNat p).toNat = p := by simp; omega
      rw [e, if_neg (by omega), if_neg (by omega), if_neg (by omega), show p % 128 = p by omega]
    · rw [encU_hi h]
      simp only [List.cons_append, parse]
      have e : (UInt8.ofNat (p % 128 + 128)).toNat = p % 128 + 128 := by simp; omega
      rw [e, if_neg (by omega), if_pos (by omega)]
      match j, hj, hp with
      | 0, _, hp => simp at hp; omega
      | j + 1, hj, hp =>
        have hp' : p / 128 < 2 ^ (7 * (j + 1)) := by
          rw [show 7 * (j + 1 + 1) = 7 * (j + 1) + 7 by omega, Nat.pow_add] at hp; omega
        rw [enc_parse j (p / 128) (k + 1) _ r (by omega) hp' (fun _ => by omega)]
        congr 2
        rw [show 7 * (k + 1) = 7 * k + 7 by omega, Nat.pow_add, show (p % 128 + 128) % 128 = p % 128 by omega]
        have e2 : p = p % 128 + 128 * (p / 128) := by omega
        conv => rhs; rw [e2, Nat.add_mul]
        rw [Nat.add_assoc]
        congr 2
        rw [Nat.mul_comm 128, Nat.mul_assoc, Nat.mul_comm 128]
theorem numP_spec {bs r : List UInt8} {n : Int} (h : numP bs = some (n, r)) : 0 ≤ n ∧ n < 9223372036854775808 ∧ bs = encN n ++ r := by
  simp only [numP] at h
  split at h
  · cases h
  · rename_i m r' hm
    simp only [Option.some.injEq, Prod.mk.injEq] at h
    obtain ⟨rfl, rfl⟩ := h
    obtain ⟨p, h1, h2, _, h4⟩ := parse_enc bs 0 0 m r' (by omega) hm
    simp at h1
    subst h1
    refine ⟨by omega, by simp at h4; omega, ?_⟩
    rw [h2, encN]
    congr 2
    simp at h4
    omega
theorem numP_encN {n : Int} (h0 : 0 ≤ n) (h1 : n < 9223372036854775808) (r : List UInt8) : numP (encN n ++ r) = some (n, r) := by
  have hp := enc_parse 8 (n % 18446744073709551616).toNat 0 0 r rfl (by simp; omega) (by omega)
  simp at hp
  simp only [numP, encN]
  rw [hp]
  simp
  omega
end Codec
end

section
namespace Codec
open Go Leg Api

theorem smallP_enc {n lim : Int} (h0 : 0 ≤ n) (h1 : n < lim) (h2 : n < 9223372036854775808) (r : List UInt8) : smallP lim (encN n ++ r) = some (n, r) := by
  rw [smallP, pb_some (numP_encN h0 h2 r), if_neg (by omega)]; rfl
def Small (n : Int) : Prop := 0 ≤ n ∧ n < 1099511627777
structure TameC (c : CellT) : Prop where
  inn : Small c.inn
  out : Small c.out
  given : ∀ (j : Nat) (h : j < 5), Small c.given[j]
theorem cellP_enc {c : CellT} (h : TameC c) (r : List UInt8) : cellP (encs c.flat ++ r) = some (c, r) := by
  obtain ⟨i, o, g⟩ := c
  obtain ⟨h1, h2, h3⟩ := h
  revert h3
  refine vec5 (p := fun g => (∀ (j : Nat) (h : j < 5), Small g[j]) → cellP (encs (CellT.flat ⟨i, o, g⟩) ++ r) = some (⟨i, o, g⟩, r)) (fun a b c d e h3 => ?_) g
  have s := fun n (h : Small n) r => smallP_enc (n := n) (lim := 1099511627777) h.1 h.2 (by unfold Small at h; omega) r
  have e0 := h3 0 (by omega)
  have e1 := h3 1 (by omega)
  have e2 := h3 2 (by omega)
  have e3 := h3 3 (by omega)
  have e4 := h3 4 (by omega)
  simp only [CellT.flat, Vector.toList_mk, encs_cons, encs_nil, List.append_assoc, cellP]
  rw [pb_some (s i h1 _), pb_some (s o h2 _), pb_some (s a e0 _), pb_some (s b e1 _), pb_some (s c e2 _), pb_some (s d e3 _), pb_some (s e e4 _)]
  rfl
structure TameR (x : RowT) : Prop where
  version : 0 ≤ x.version ∧ x.version < 9223372036854775808
  cells : ∀ (k : Nat) (h : k < 4), TameC x.cells[k]
  heir : ∀ (i : Nat) (h : i < 5), 0 ≤ x.heir[i] ∧ x.heir[i] < 9223372036854775808
  left : ∀ (i k : Nat) (h : i < 5) (hk : k < 4), TameC x.left[i][k]
  none : ∀ (i : Nat) (h : i < 5), x.heir[i] = (0 : Int) → x.left[i] = RowT.zero.left[0]
theorem cells_enc {ys : Vector CellT 4} (ht : ∀ (k : Nat) (h : k < 4), TameC ys[k]) (r : List UInt8) : ∀ (m k : Nat) (x : RowT), m = 4 - k → k ≤ 4 → (∀ j (h : j < 4), j < k → x.cells[j] = ys[j]) →
    cellsP m k x (encs (flats (ys.toList.drop k)) ++ r) = some ({ x with cells := ys }, r)
  | 0, k, x, hm, hk, hx => by
    have hk4 : k = 4 := by omega
    subst hk4
    rw [List.drop_eq_nil_of_le (by simp)]
    have : x.cells = ys := by
      apply Vector.ext
      intro j hj
      exact hx j hj hj
    subst this
    rfl
  | m + 1, k, x, hm, hk, hx => by
    have hk4 : k < 4 := by omega
    rw [flats_drop (l := ys.toList) (k := k) (by simpa using hk4), List.append_assoc]
    simp only [cellsP]
    rw [Vector.getElem_toList, pb_some (cellP_enc (ht k hk4) _), dif_pos hk4]
    rw [cells_enc ht r m (k + 1) { x with cells := x.cells.set k ys[k] } (by omega) (by omega) (fun j h hj => by
      rw [Vector.getElem_set]
      split
      · rename_i e; subst e; rfl
      · exact hx j h (by omega))]
theorem left_enc {ys : Vector CellT 4} (ht : ∀ (k : Nat) (h : k < 4), TameC ys[k]) (r : List UInt8) {i : Nat} (hi : i < 5) : ∀ (m k : Nat) (x : RowT), m = 4 - k → k ≤ 4 → (∀ j (h : j < 4), j < k → x.left[i][j] = ys[j]) →
    leftP m i k x (encs (flats (ys.toList.drop k)) ++ r) = some ({ x with left := x.left.set i ys }, r)
  | 0, k, x, hm, hk, hx => by
    have hk4 : k = 4 := by omega
    subst hk4
    rw [List.drop_eq_nil_of_le (by simp)]
    have e : x.left[i] = ys := by
      apply Vector.ext
      intro j hj
      exact hx j hj hj
    have : x.left.set i ys = x.left := by
      apply Vector.ext
      intro j hj
      rw [Vector.getElem_set]
      split
      · rename_i q; subst q; exact e.symm
      · rfl
    rw [this]
    rfl
  | m + 1, k, x, hm, hk, hx => by
    have hk4 : k < 4 := by omega
    rw [flats_drop (l := ys.toList) (k := k) (by simpa using hk4), List.append_assoc]
    simp only [leftP]
    rw [Vector.getElem_toList, pb_some (cellP_enc (ht k hk4) _), dif_pos ⟨hi, hk4⟩]
    rw [left_enc ht r hi m (k + 1) _ (by omega) (by omega) (fun j h hj => by
      rw [Vector.getElem_set_self, Vector.getElem_set]
      split
      · rename_i e; subst e; rfl
      · exact hx j h (by omega))]
    simp only [Vector.set_set]
theorem heirs_enc {y : RowT} (ht : TameR y) (r : List UInt8) : ∀ (m i : Nat) (x : RowT), m = 5 - i → i ≤ 5 → (∀ j (h : j < 5), j < i → x.heir[j] = y.heir[j] ∧ x.left[j] = y.left[j]) → (∀ j (h : j < 5), i ≤ j → x.left[j] = RowT.zero.left[0]) →
    heirsP m i x (encHeirs y m i ++ r) = some ({ x with heir := y.heir, left := y.left }, r)
  | 0, i, x, hm, hi, h1, h2 => by
    have e1 : x.heir = y.heir := Vector.ext fun j hj => (h1 j hj (by omega)).1
    have e2 : x.left = y.left := Vector.ext fun j hj => (h1 j hj (by omega)).2
    rw [← e1, ← e2]
    rfl
  | m + 1, i, x, hm, hi, h1, h2 => by
    have hi5 : i < 5 := by omega
    simp only [encHeirs, heirsP]
    rw [dif_pos hi5, List.append_assoc, List.append_assoc, pb_some (numP_encN (ht.heir i hi5).1 (ht.heir i hi5).2 _), dif_pos hi5]
    by_cases hp : 0 < y.heir[i]
    · rw [if_pos hp, if_pos hp]
      have hl := left_enc (fun k hk => ht.left i k hi5 hk) (encHeirs y m (i + 1) ++ r) hi5 4 0 { x with heir := x.heir.set i y.heir[i] } (by omega) (by omega) (fun j h hj => by omega)
      rw [List.drop_zero] at hl
      rw [pb_some hl]
      rw [heirs_enc ht r m (i + 1) _ (by omega) (by omega) (fun j h hj => by
        simp only [Vector.getElem_set]
        split
        · rename_i e; subst e; exact ⟨rfl, rfl⟩
        · exact h1 j h (by omega)) (fun j h hj => by
        simp only [Vector.getElem_set]
        rw [if_neg (by omega)]
        exact h2 j h (by omega))]
    · have h0 : y.heir[i] = 0 := by have := (ht.heir i hi5).1; omega
      rw [if_neg hp, if_neg hp, List.nil_append]
      rw [heirs_enc ht r m (i + 1) { x with heir := x.heir.set i y.heir[i] } (by omega) (by omega) (fun j h hj => by
        simp only [Vector.getElem_set]
        split
        · rename_i e; subst e; exact ⟨rfl, by rw [h2 i h (Nat.le_refl _), ht.none i h h0]⟩
        · exact h1 j h (by omega)) (fun j h hj => h2 j h (by omega))]
theorem rowP_enc {x : RowT} (h : TameR x) (r : List UInt8) : rowP (encRow x ++ r) = some (x, r) := by
  rw [encRow, List.append_assoc, List.append_assoc, rowP, pb_some (numP_encN h.version.1 h.version.2 _)]
  have hc := cells_enc h.cells (encHeirs x 5 0 ++ r) 4 0 { RowT.zero with version := x.version } (by omega) (by omega) (fun j h hj => by omega)
  rw [List.drop_zero] at hc
  rw [pb_some hc, heirs_enc h r 5 0 _ (by omega) (by omega) (fun j h hj => by omega) (fun j hj _ => by
    match j, hj with
    | 0, _ => rfl
    | 1, _ => rfl
    | 2, _ => rfl
    | 3, _ => rfl
    | 4, _ => rfl)]
/-! ### More bytes behind change nothing -/
def Ext {α : Type} (p : Ps α) : Prop := ∀ bs a r s, p bs = some (a, r) → p (bs ++ s) = some (a, r ++ s)
theorem Ext.pr {α : Type} (a : α) : Ext (pr a) := fun bs b r s h => by
  simp only [Codec.pr, Option.some.injEq, Prod.mk.injEq] at h ⊢
  exact ⟨h.1, by rw [h.2]⟩
theorem Ext.pf {α : Type} : Ext (pf : Ps α) := fun bs b r s h => by cases h
theorem Ext.pb {α β : Type} {p : Ps α} {q : α → Ps β} (hp : Ext p) (hq : ∀ a, Ext (q a)) : Ext (pb p q) := fun bs b r s h => by
  simp only [Codec.pb] at h
  split at h
  · cases h
  · rename_i a r' e
    rw [pb_some (hp _ _ _ s e)]
    exact hq a _ _ _ s h
theorem parse_ext : ∀ (bs : List UInt8) (k acc m : Nat) (r s : List UInt8), parse k acc bs = some (m, r) → parse k acc (bs ++ s) = some (m, r ++ s)
  | [], _, _, _, _, _, h => by simp [parse] at h
  | c :: cs, k, acc, m, r, s, h => by
    simp only [parse, List.cons_append] at h ⊢
    by_cases h9 : k = 9
    · rw [if_pos h9] at h; cases h
    · rw [if_neg h9] at h ⊢
      by_cases h1 : 128 ≤ c.toNat
      · rw [if_pos h1] at h ⊢; exact parse_ext cs _ _ _ _ s h
      · rw [if_neg h1] at h ⊢
        by_cases h2 : c.toNat = 0 ∧ 0 < k
        · rw [if_pos h2] at h; cases h
        · rw [if_neg h2] at h ⊢
          simp only [Option.some.injEq, Prod.mk.injEq] at h ⊢
          exact ⟨h.1, by rw [h.2]⟩
theorem Ext.num : Ext numP := fun bs a r s h => by
  simp only [numP] at h ⊢
  split at h
  · cases h
  · rename_i n r' e
    rw [parse_ext _ _ _ _ _ s e]
    simp only [Option.some.injEq, Prod.mk.injEq] at h ⊢
    exact ⟨h.1, by rw [h.2]⟩
theorem Ext.small (lim : Int) : Ext (smallP lim) := Ext.num.pb fun n => by
  split
  · exact Ext.pf
  · exact Ext.pr _
theorem Ext.cell : Ext cellP := (Ext.small _).pb fun _ => (Ext.small _).pb fun _ => (Ext.small _).pb fun _ => (Ext.small _).pb fun _ => (Ext.small _).pb fun _ => (Ext.small _).pb fun _ => (Ext.small _).pb fun _ => Ext.pr _
theorem Ext.cells : ∀ (m k : Nat) (x : RowT), Ext (cellsP m k x)
  | 0, _, _ => Ext.pr _
  | m + 1, k, x => Ext.cell.pb fun _ => Ext.cells m _ _
theorem Ext.left : ∀ (m i k : Nat) (x : RowT), Ext (leftP m i k x)
  | 0, _, _, _ => Ext.pr _
  | m + 1, i, k, x => Ext.cell.pb fun _ => Ext.left m _ _ _
theorem Ext.heirs : ∀ (m i : Nat) (x : RowT), Ext (heirsP m i x)
  | 0, _, _ => Ext.pr _
  | m + 1, i, x => Ext.num.pb fun n => by
    show Ext (if 0 < n then _ else _)
    split
    · exact (Ext.left _ _ _ _).pb fun _ => Ext.heirs m _ _
    · exact Ext.heirs m _ _
theorem Ext.row : Ext rowP := Ext.num.pb fun _ => (Ext.cells _ _ _).pb fun _ => Ext.heirs _ _ _
theorem Ext.cut {α : Type} {p : Ps α} (h : Ext p) {bs : List UInt8} {a : α} (h1 : p bs = some (a, [])) {k : Nat} (hk : k < bs.length) : p (bs.take k) = none := by
  cases e : p (bs.take k) with
  | none => rfl
  | some x =>
    obtain ⟨b, r⟩ := x
    have := h _ _ _ (bs.drop k) e
    rw [List.take_append_drop, h1] at this
    simp only [Option.some.injEq, Prod.mk.injEq] at this
    have h2 := congrArg List.length this.2
    simp at h2
    omega
end Codec
end

section
namespace Codec
open Go Leg Api

def zero4 : Vector CellT 4 := #v[CellT.zero, CellT.zero, CellT.zero, CellT.zero]
def tameC (c : CellT) : CellT := ⟨m40 c.inn, m40 c.out, c.given.map m40⟩
theorem tameC_ok (c : CellT) : TameC (tameC c) := by
  have h := fun n => m40_lt n
  refine ⟨⟨(h _).1, by have := (h c.inn).2; show m40 c.inn < _; omega⟩, ⟨(h _).1, by have := (h c.out).2; show m40 c.out < _; omega⟩, fun j hj => ?_⟩
  show Small ((c.given.map m40)[j])
  rw [Vector.getElem_map]
  exact ⟨(h _).1, by have := (h c.given[j]).2; omega⟩
theorem tameC_zero : tameC CellT.zero = CellT.zero := by
  simp only [tameC, CellT.zero, CellT.mk.injEq]
  exact ⟨by decide, by decide, by simp [m40]⟩
def T1 (k : Nat) (x : RowT) : Prop := k ≤ 4 ∧ (0 ≤ x.version ∧ x.version < 9223372036854775808) ∧ ∀ (j : Nat) (h : j < 4), j < k → TameC x.cells[j]
def T2 (i : Nat) (x : RowT) : Prop := i ≤ 5 ∧ (0 ≤ x.version ∧ x.version < 9223372036854775808) ∧ (∀ (j : Nat) (h : j < 4), TameC x.cells[j]) ∧
  ∀ (j : Nat) (h : j < 5), j < i → (0 ≤ x.heir[j] ∧ x.heir[j] < 9223372036854775808) ∧ (∀ (k : Nat) (hk : k < 4), TameC x.left[j][k]) ∧ (x.heir[j] = 0 → x.left[j] = zero4)
def T3 (i k : Nat) (x : RowT) : Prop := k ≤ 4 ∧ i < 5 ∧ T2 i x ∧ ∀ h : i < 5, (0 ≤ x.heir[i] ∧ x.heir[i] < 9223372036854775808) ∧ (∀ (j : Nat) (hj : j < 4), j < k → TameC x.left[i][j]) ∧ (x.heir[i] = 0 → x.left[i] = zero4)
theorem T1.start (x : RowT) : T1 0 { x with version := m50 x.version } := ⟨by omega, by have := m50_lt x.version; exact ⟨this.1, by show m50 x.version < _; omega⟩, fun j h h' => by omega⟩
theorem T1.step {k : Nat} {x : RowT} (t : T1 k x) (h : k < 4) : T1 (k + 1) { x with cells := x.cells.set k (tameC x.cells[k]) } :=
  ⟨by omega, t.2.1, fun j hj hjk => by
    show TameC (x.cells.set k _)[j]
    rw [Vector.getElem_set]
    split
    · exact tameC_ok _
    · exact t.2.2 j hj (by omega)⟩
theorem T1.done {k : Nat} {x : RowT} (t : T1 k x) (h : ¬ k < 4) : T2 0 x := ⟨by omega, t.2.1, fun j hj => t.2.2 j hj (by omega), fun j _ h => by omega⟩
theorem T2.none {i : Nat} {x : RowT} (t : T2 i x) (h : i < 5) (h0 : m30 x.heir[i] = 0) : T3 i 0 { x with heir := x.heir.set i (m30 x.heir[i]), left := x.left.set i zero4 } := by
  refine ⟨by omega, h, ⟨t.1, t.2.1, t.2.2.1, fun j hj hji => ?_⟩, fun _ => ?_⟩
  · simp only [Vector.getElem_set_ne _ _ (show i ≠ j by omega)]
    exact t.2.2.2 j hj hji
  · simp only [Vector.getElem_set_self]
    have := m30_lt x.heir[i]
    exact ⟨⟨this.1, by omega⟩, fun j _ h => by omega, by simp⟩
theorem T2.some {i : Nat} {x : RowT} (t : T2 i x) (h : i < 5) (h0 : ¬ m30 x.heir[i] = 0) : T3 i 0 { x with heir := x.heir.set i (m30 x.heir[i]) } := by
  refine ⟨by omega, h, ⟨t.1, t.2.1, t.2.2.1, fun j hj hji => ?_⟩, fun _ => ?_⟩
  · simp only [Vector.getElem_set_ne _ _ (show i ≠ j by omega)]
    exact t.2.2.2 j hj hji
  · simp only [Vector.getElem_set_self]
    have := m30_lt x.heir[i]
    exact ⟨⟨this.1, by omega⟩, fun j _ h => by omega, fun h => absurd h h0⟩
theorem T3.step {i k : Nat} {x : RowT} (t : T3 i k x) (hi : i < 5) (h : k < 4) : T3 i (k + 1) { x with left := x.left.set i ((x.left[i]).set k (tameC x.left[i][k])) } := by
  obtain ⟨h1, h2, h3, h4⟩ := t
  have h5 := h4 hi
  refine ⟨by omega, h2, ⟨h3.1, h3.2.1, h3.2.2.1, fun j hj hji => ?_⟩, fun _ => ?_⟩
  · simp only [Vector.getElem_set_ne _ _ (show i ≠ j by omega)]
    exact h3.2.2.2 j hj hji
  · simp only [Vector.getElem_set_self]
    refine ⟨h5.1, fun j hj hjk => ?_, fun hz => ?_⟩
    · rw [Vector.getElem_set]
      split
      · exact tameC_ok _
      · exact h5.2.1 j hj (by omega)
    · have e := h5.2.2 hz
      simp only [e]
      apply Vector.ext
      intro j hj
      have hzj : ∀ (j : Nat) (hj : j < 4), zero4[j] = CellT.zero := fun j hj => by
        match j, hj with
        | 0, _ => rfl
        | 1, _ => rfl
        | 2, _ => rfl
        | 3, _ => rfl
      rw [Vector.getElem_set]
      split
      · rw [hzj k h, tameC_zero, hzj j hj]
      · rfl
theorem T3.done {i k : Nat} {x : RowT} (t : T3 i k x) (h : ¬ k < 4) : T2 (i + 1) x := by
  obtain ⟨h1, h2, h3, h4⟩ := t
  have h5 := h4 h2
  refine ⟨by omega, h3.2.1, h3.2.2.1, fun j hj hji => ?_⟩
  by_cases e : j = i
  · subst e
    exact ⟨h5.1, fun k hk => h5.2.1 k hk (by omega), h5.2.2⟩
  · exact h3.2.2.2 j hj (by omega)
theorem T2.tame {i : Nat} {x : RowT} (t : T2 i x) (h : ¬ i < 5) : TameR x :=
  ⟨t.2.1, t.2.2.1, fun j hj => (t.2.2.2 j hj (by omega)).1, fun j k hj hk => (t.2.2.2 j hj (by omega)).2.1 k hk, fun j hj h => (t.2.2.2 j hj (by omega)).2.2 h⟩
theorem wf_small {n : Int} (h : 0 ≤ n ∧ n < 9223372036854775808) : (Lit.int .i64 n).wf = true := by
  have m1 : IntKind.i64.min = -9223372036854775808 := by decide
  have m2 : IntKind.i64.max = 9223372036854775807 := by decide
  simp only [Lit.wf, m1, m2, Bool.and_eq_true, decide_eq_true_eq]
  omega
theorem TameC.wf {c : CellT} (h : TameC c) : WF c.flat := fun n hn => by
  simp only [CellT.flat, List.mem_cons] at hn
  have s : ∀ n, Small n → (Lit.int .i64 n).wf = true := fun n h => wf_small ⟨h.1, by have := h.2; omega⟩
  rcases hn with rfl | rfl | hn
  · exact s _ h.inn
  · exact s _ h.out
  · obtain ⟨j, hj, rfl⟩ := List.getElem_of_mem hn
    rw [Vector.length_toList] at hj
    have := s _ (h.given j hj)
    simpa using this
theorem wf_flats {v : Vector CellT 4} (h : ∀ (k : Nat) (hk : k < 4), TameC v[k]) : WF (flats v.toList) := fun n hn => by
  obtain ⟨c, hc, hn⟩ := List.mem_flatMap.1 hn
  obtain ⟨j, hj, rfl⟩ := List.getElem_of_mem hc
  rw [Vector.length_toList] at hj
  have := (h j hj).wf n
  simp only [Vector.getElem_toList] at hn
  exact this hn
theorem TameR.wf {x : RowT} (h : TameR x) : WF x.flat := fun n hn => by
  simp only [RowT.flat, List.mem_cons, List.mem_append] at hn
  rcases hn with rfl | hn | hn | hn
  · exact wf_small h.version
  · exact wf_flats h.cells n hn
  · obtain ⟨j, hj, rfl⟩ := List.getElem_of_mem hn
    rw [Vector.length_toList] at hj
    simpa using wf_small (h.heir j hj)
  · obtain ⟨v, hv, hn⟩ := List.mem_flatMap.1 hn
    obtain ⟨j, hj, rfl⟩ := List.getElem_of_mem hv
    rw [Vector.length_toList] at hj
    simp only [Vector.getElem_toList] at hn
    exact wf_flats (fun k hk => h.left j k hj hk) n hn
theorem formed_ag {P : Program} {t : TypeId} {l : List Int} {c : Nat} (hu : (match P.underlying t with | some (.struct _) | some (.array _ _) => true | _ => false) = true) (hc : P.cellsOf t = c) (hl : l.length = c) : (agI l).formed P t = true := by
  have e : ((ints l).toArray.size == P.cellsOf t) = true := by simp [ints, hl, hc]
  unfold agI Value.formed
  split at hu
  · rename_i h; simp only [h]; exact e
  · rename_i h; simp only [h]; exact e
  · cases hu
theorem CellT.of : ∀ l : List Int, l.length = 7 → ∃ c : CellT, c.flat = l
  | [i, o, a, b, c, d, e], _ => ⟨⟨i, o, #v[a, b, c, d, e]⟩, rfl⟩
theorem flats_of : ∀ (n : Nat) (l : List Int), l.length = 7 * n → ∃ cs : List CellT, cs.length = n ∧ flats cs = l
  | 0, l, h => ⟨[], rfl, (List.eq_nil_of_length_eq_zero (by omega)).symm⟩
  | n + 1, l, h => by
    obtain ⟨c, hc⟩ := CellT.of (l.take 7) (by rw [List.length_take]; omega)
    obtain ⟨cs, h1, h2⟩ := flats_of n (l.drop 7) (by rw [List.length_drop]; omega)
    refine ⟨c :: cs, by simp [h1], ?_⟩
    rw [flats, List.flatMap_cons, hc]
    have : List.flatMap CellT.flat cs = flats cs := rfl
    rw [this, h2, List.take_append_drop]
theorem vec_of {α : Type} {n : Nat} (l : List α) (h : l.length = n) : ∃ v : Vector α n, v.toList = l := ⟨⟨l.toArray, by simpa using h⟩, by simp⟩
theorem lefts_of : ∀ (n : Nat) (l : List Int), l.length = 28 * n → ∃ vs : List (Vector CellT 4), vs.length = n ∧ (vs.flatMap fun v => flats v.toList) = l
  | 0, l, h => ⟨[], rfl, (List.eq_nil_of_length_eq_zero (by omega)).symm⟩
  | n + 1, l, h => by
    obtain ⟨c, hc1, hc2⟩ := flats_of 4 (l.take 28) (by rw [List.length_take]; omega)
    obtain ⟨v, rfl⟩ := vec_of c hc1
    obtain ⟨vs, h1, h2⟩ := lefts_of n (l.drop 28) (by rw [List.length_drop]; omega)
    exact ⟨v :: vs, by simp [h1], by rw [List.flatMap_cons, hc2, h2, List.take_append_drop]⟩
theorem RowT.of (l : List Int) (h : l.length = 174) : ∃ x : RowT, x.flat = l := by
  match l, h with
  | n :: l, h =>
    have h' : l.length = 173 := by simpa using h
    obtain ⟨cs, hc1, hc2⟩ := flats_of 4 (l.take 28) (by rw [List.length_take]; omega)
    obtain ⟨cv, rfl⟩ := vec_of cs hc1
    obtain ⟨hv, hh⟩ := vec_of (n := 5) ((l.drop 28).take 5) (by rw [List.length_take, List.length_drop]; omega)
    obtain ⟨vs, hv1, hv2⟩ := lefts_of 5 (l.drop 33) (by rw [List.length_drop]; omega)
    obtain ⟨lv, rfl⟩ := vec_of vs hv1
    refine ⟨⟨n, cv, hv, lv⟩, ?_⟩
    simp only [RowT.flat]
    rw [hc2, hh, hv2]
    congr 1
    rw [show l.drop 33 = (l.drop 28).drop 5 by rw [List.drop_drop], List.take_append_drop, List.take_append_drop]
theorem flat7_inj {c d : CellT} (h : c.flat = d.flat) : c = d := by
  obtain ⟨i, o, g⟩ := c
  obtain ⟨i', o', g'⟩ := d
  simp only [CellT.flat, List.cons.injEq] at h
  obtain ⟨rfl, rfl, h⟩ := h
  rw [Vector.toList_inj.1 h]
end Codec
end

section
namespace Codec
open Go Leg Api

theorem pb_inv {α β : Type} {p : Ps α} {q : α → Ps β} {bs r : List UInt8} {b : β} (h : pb p q bs = some (b, r)) : ∃ a r', p bs = some (a, r') ∧ q a r' = some (b, r) := by
  cases e : p bs with
  | none => rw [pb_none e] at h; cases h
  | some x => obtain ⟨a, r'⟩ := x; rw [pb_some e] at h; exact ⟨a, r', rfl, h⟩
theorem pr_inv {α : Type} {a b : α} {bs r : List UInt8} (h : pr a bs = some (b, r)) : a = b ∧ bs = r := by
  simp only [pr, Option.some.injEq, Prod.mk.injEq] at h; exact h
theorem small_spec {lim n : Int} {bs r : List UInt8} (h : smallP lim bs = some (n, r)) : (0 ≤ n ∧ n < lim ∧ n < 9223372036854775808) ∧ bs = encN n ++ r := by
  obtain ⟨a, r', h1, h2⟩ := pb_inv h
  obtain ⟨k1, k2, k3⟩ := numP_spec h1
  split at h2
  · cases h2
  · obtain ⟨rfl, rfl⟩ := pr_inv h2
    exact ⟨⟨k1, by omega, k2⟩, k3⟩
theorem cell_spec {c : CellT} {bs r : List UInt8} (h : cellP bs = some (c, r)) : TameC c ∧ bs = encs c.flat ++ r := by
  obtain ⟨i, _, h1, h⟩ := pb_inv h
  obtain ⟨o, _, h2, h⟩ := pb_inv h
  obtain ⟨a, _, h3, h⟩ := pb_inv h
  obtain ⟨b, _, h4, h⟩ := pb_inv h
  obtain ⟨d, _, h5, h⟩ := pb_inv h
  obtain ⟨e, _, h6, h⟩ := pb_inv h
  obtain ⟨f, _, h7, h⟩ := pb_inv h
  obtain ⟨rfl, rfl⟩ := pr_inv h
  obtain ⟨k1, rfl⟩ := small_spec h1
  obtain ⟨k2, rfl⟩ := small_spec h2
  obtain ⟨k3, rfl⟩ := small_spec h3
  obtain ⟨k4, rfl⟩ := small_spec h4
  obtain ⟨k5, rfl⟩ := small_spec h5
  obtain ⟨k6, rfl⟩ := small_spec h6
  obtain ⟨k7, rfl⟩ := small_spec h7
  have s : ∀ {n : Int}, (0 ≤ n ∧ n < 1099511627777 ∧ n < 9223372036854775808) → Small n := fun h => ⟨h.1, h.2.1⟩
  refine ⟨⟨s k1, s k2, fun j hj => ?_⟩, by simp [CellT.flat, encs]⟩
  match j, hj with
  | 0, _ => exact s k3
  | 1, _ => exact s k4
  | 2, _ => exact s k5
  | 3, _ => exact s k6
  | 4, _ => exact s k7
theorem view_spec {v : ViewT} {bs r : List UInt8} (h : viewP bs = some (v, r)) : ((0 ≤ v.epoch ∧ v.epoch < 9223372036854775808) ∧ (0 ≤ v.members ∧ v.members < 32) ∧ ∀ (i : Nat) (hi : i < 5), 0 ≤ v.heirs[i] ∧ v.heirs[i] < 6) ∧ bs = encs v.flat ++ r := by
  obtain ⟨i, _, h1, h⟩ := pb_inv h
  obtain ⟨o, _, h2, h⟩ := pb_inv h
  obtain ⟨a, _, h3, h⟩ := pb_inv h
  obtain ⟨b, _, h4, h⟩ := pb_inv h
  obtain ⟨d, _, h5, h⟩ := pb_inv h
  obtain ⟨e, _, h6, h⟩ := pb_inv h
  obtain ⟨f, _, h7, h⟩ := pb_inv h
  obtain ⟨rfl, rfl⟩ := pr_inv h
  obtain ⟨k1, k1', rfl⟩ := numP_spec h1
  obtain ⟨k2, rfl⟩ := small_spec h2
  obtain ⟨k3, rfl⟩ := small_spec h3
  obtain ⟨k4, rfl⟩ := small_spec h4
  obtain ⟨k5, rfl⟩ := small_spec h5
  obtain ⟨k6, rfl⟩ := small_spec h6
  obtain ⟨k7, rfl⟩ := small_spec h7
  refine ⟨⟨⟨k1, k1'⟩, ⟨k2.1, k2.2.1⟩, fun j hj => ?_⟩, by simp [ViewT.flat, encs]⟩
  match j, hj with
  | 0, _ => exact ⟨k3.1, k3.2.1⟩
  | 1, _ => exact ⟨k4.1, k4.2.1⟩
  | 2, _ => exact ⟨k5.1, k5.2.1⟩
  | 3, _ => exact ⟨k6.1, k6.2.1⟩
  | 4, _ => exact ⟨k7.1, k7.2.1⟩
theorem cells_spec : ∀ (m k : Nat) (x y : RowT) (bs r : List UInt8), m = 4 - k → k ≤ 4 → cellsP m k x bs = some (y, r) →
    (y.version = x.version ∧ y.heir = x.heir ∧ y.left = x.left) ∧ (∀ j (h : j < 4), j < k → y.cells[j] = x.cells[j]) ∧ (∀ j (h : j < 4), k ≤ j → TameC y.cells[j]) ∧ bs = encs (flats (y.cells.toList.drop k)) ++ r
  | 0, k, x, y, bs, r, hm, hk, h => by
    obtain ⟨rfl, rfl⟩ := pr_inv h
    obtain rfl : k = 4 := by omega
    exact ⟨⟨rfl, rfl, rfl⟩, fun _ _ _ => rfl, fun j h h' => by omega, by rw [List.drop_eq_nil_of_le (by simp)]; rfl⟩
  | m + 1, k, x, y, bs, r, hm, hk, h => by
    have hk4 : k < 4 := by omega
    obtain ⟨c, r', h1, h2⟩ := pb_inv h
    obtain ⟨k1, rfl⟩ := cell_spec h1
    rw [dif_pos hk4] at h2
    obtain ⟨i1, i2, i3, rfl⟩ := cells_spec m (k + 1) _ y r' r (by omega) (by omega) h2
    have e : y.cells[k] = c := by rw [i2 k hk4 (by omega)]; simp
    refine ⟨i1, fun j h hj => by rw [i2 j h (by omega)]; simp [Vector.getElem_set, show k ≠ j by omega], fun j h hj => ?_, ?_⟩
    · by_cases q : j = k
      · subst q; rw [e]; exact k1
      · exact i3 j h (by omega)
    · rw [flats_drop (l := y.cells.toList) (k := k) (by simpa using hk4), Vector.getElem_toList, e, List.append_assoc]
theorem left_spec {i : Nat} (hi : i < 5) : ∀ (m k : Nat) (x y : RowT) (bs r : List UInt8), m = 4 - k → k ≤ 4 → leftP m i k x bs = some (y, r) →
    (y.version = x.version ∧ y.heir = x.heir ∧ y.cells = x.cells) ∧ (∀ j (h : j < 5), j ≠ i → y.left[j] = x.left[j]) ∧ (∀ j (h : j < 4), j < k → y.left[i][j] = x.left[i][j]) ∧ (∀ j (h : j < 4), k ≤ j → TameC y.left[i][j]) ∧ bs = encs (flats (y.left[i].toList.drop k)) ++ r
  | 0, k, x, y, bs, r, hm, hk, h => by
    obtain ⟨rfl, rfl⟩ := pr_inv h
    obtain rfl : k = 4 := by omega
    exact ⟨⟨rfl, rfl, rfl⟩, fun _ _ _ => rfl, fun _ _ _ => rfl, fun j h h' => by omega, by rw [List.drop_eq_nil_of_le (by simp)]; rfl⟩
  | m + 1, k, x, y, bs, r, hm, hk, h => by
    have hk4 : k < 4 := by omega
    obtain ⟨c, r', h1, h2⟩ := pb_inv h
    obtain ⟨k1, rfl⟩ := cell_spec h1
    rw [dif_pos ⟨hi, hk4⟩] at h2
    obtain ⟨i1, i2, i3, i4, rfl⟩ := left_spec hi m (k + 1) _ y r' r (by omega) (by omega) h2
    have e : y.left[i][k] = c := by rw [i3 k hk4 (by omega)]; simp
    refine ⟨i1, fun j h hj => by rw [i2 j h hj]; simp [Vector.getElem_set, Ne.symm hj], fun j h hj => by rw [i3 j h (by omega)]; simp [Vector.getElem_set, show k ≠ j by omega], fun j h hj => ?_, ?_⟩
    · by_cases q : j = k
      · subst q; rw [e]; exact k1
      · exact i4 j h (by omega)
    · rw [flats_drop (l := y.left[i].toList) (k := k) (by simpa using hk4), Vector.getElem_toList, e, List.append_assoc]
theorem tame_zero : TameC CellT.zero := by rw [← tameC_zero]; exact tameC_ok _
theorem heirs_spec : ∀ (m i : Nat) (x y : RowT) (bs r : List UInt8), m = 5 - i → i ≤ 5 → (∀ j (h : j < 5), i ≤ j → x.left[j] = RowT.zero.left[0]) → heirsP m i x bs = some (y, r) →
    (y.version = x.version ∧ y.cells = x.cells) ∧ (∀ j (h : j < 5), j < i → y.heir[j] = x.heir[j] ∧ y.left[j] = x.left[j]) ∧
    (∀ j (h : j < 5), i ≤ j → (0 ≤ y.heir[j] ∧ y.heir[j] < 9223372036854775808) ∧ (∀ k (hk : k < 4), TameC y.left[j][k]) ∧ (y.heir[j] = (0 : Int) → y.left[j] = RowT.zero.left[0])) ∧ bs = encHeirs y m i ++ r
  | 0, i, x, y, bs, r, hm, hi, hz, h => by
    obtain ⟨rfl, rfl⟩ := pr_inv h
    obtain rfl : i = 5 := by omega
    exact ⟨⟨rfl, rfl⟩, fun _ _ _ => ⟨rfl, rfl⟩, fun j h h' => by omega, rfl⟩
  | m + 1, i, x, y, bs, r, hm, hi, hz, h => by
    have hi5 : i < 5 := by omega
    have zt : ∀ k (hk : k < 4), TameC (RowT.zero.left[0])[k] := fun k hk => by
      match k, hk with
      | 0, _ | 1, _ | 2, _ | 3, _ => exact tame_zero
    obtain ⟨n, r', h1, h2⟩ := pb_inv h
    obtain ⟨k1, k2, rfl⟩ := numP_spec h1
    simp only [dif_pos hi5] at h2
    split at h2
    · rename_i hn
      obtain ⟨z, r2, h3, h4⟩ := pb_inv h2
      obtain ⟨⟨i1, i2, i3⟩, i4, _, i5, rfl⟩ := left_spec hi5 4 0 _ z r' r2 rfl (by omega) h3
      obtain ⟨⟨j1, j2⟩, j3, j4, rfl⟩ := heirs_spec m (i + 1) z y r2 r (by omega) (by omega) (fun j h hj => by rw [i4 j h (by omega)]; exact hz j h (by omega)) h4
      have e1 : y.heir[i] = n := by rw [(j3 i hi5 (by omega)).1, show z.heir[i] = (x.heir.set i n)[i] from by rw [i2]]; simp
      have e2 : y.left[i] = z.left[i] := (j3 i hi5 (by omega)).2
      refine ⟨⟨by rw [j1, i1], by rw [j2, i3]⟩, fun j h hj => ⟨?_, ?_⟩, fun j h hj => ?_, ?_⟩
      · rw [(j3 j h (by omega)).1, show z.heir[j] = (x.heir.set i n)[j] from by rw [i2]]; simp [Vector.getElem_set, show i ≠ j by omega]
      · rw [(j3 j h (by omega)).2, i4 j h (by omega)]
      · by_cases q : j = i
        · subst q
          rw [e1, e2]
          exact ⟨⟨k1, k2⟩, fun k hk => i5 k hk (by omega), fun e => by omega⟩
        · exact j4 j h (by omega)
      · simp only [encHeirs, dif_pos hi5, e1, if_pos hn, e2, List.append_assoc, List.drop_zero]
    · rename_i hn
      obtain ⟨⟨j1, j2⟩, j3, j4, rfl⟩ := heirs_spec m (i + 1) { x with heir := x.heir.set i n } y r' r (by omega) (by omega) (fun j h hj => hz j h (by omega)) h2
      have e1 : y.heir[i] = n := by rw [(j3 i hi5 (by omega)).1]; simp
      have e2 : y.left[i] = x.left[i] := (j3 i hi5 (by omega)).2
      refine ⟨⟨j1, j2⟩, fun j h hj => ⟨?_, ?_⟩, fun j h hj => ?_, ?_⟩
      · rw [(j3 j h (by omega)).1]; simp [Vector.getElem_set, show i ≠ j by omega]
      · rw [(j3 j h (by omega)).2]
      · by_cases q : j = i
        · subst q
          rw [e1, e2, hz j hi5 (Nat.le_refl _)]
          exact ⟨⟨k1, k2⟩, zt, fun _ => rfl⟩
        · exact j4 j h (by omega)
      · simp only [encHeirs, dif_pos hi5, e1, if_neg hn, List.nil_append, List.append_nil, List.append_assoc]
theorem row_spec {x : RowT} {bs r : List UInt8} (h : rowP bs = some (x, r)) : TameR x ∧ bs = encRow x ++ r := by
  obtain ⟨n, r1, h1, h'⟩ := pb_inv h
  clear h
  obtain ⟨k1, k2, rfl⟩ := numP_spec h1
  replace h' : pb (cellsP 4 0 { RowT.zero with version := n }) (heirsP 5 0) r1 = some (x, r) := h'
  obtain ⟨y, r2, h2, h3⟩ := pb_inv h'
  clear h'
  obtain ⟨⟨i1, i2, i3⟩, _, i4, rfl⟩ := cells_spec 4 0 _ y r1 r2 rfl (by omega) h2
  obtain ⟨⟨j1, j2⟩, _, j3, rfl⟩ := heirs_spec 5 0 y x r2 r rfl (by omega) (fun j h _ => by
    rw [show y.left[j] = RowT.zero.left[j] from by rw [i3]]
    match j, h with
    | 0, _ | 1, _ | 2, _ | 3, _ | 4, _ => rfl) h3
  have ev : x.version = n := by rw [j1, i1]
  refine ⟨⟨by rw [ev]; exact ⟨k1, k2⟩, fun k hk => by rw [show x.cells[k] = y.cells[k] from by rw [j2]]; exact i4 k hk (by omega), fun i hi => (j3 i hi (by omega)).1, fun i k hi hk => (j3 i hi (by omega)).2.1 k hk, fun i hi => (j3 i hi (by omega)).2.2⟩, ?_⟩
  rw [encRow, ev, j2, List.drop_zero]
  simp only [List.append_assoc]
end Codec
end

section
namespace Api
open Go Leg Codec

def okN (n : Int) : Bool := decide (0 ≤ n ∧ n ≤ 1099511627776)
def addE : List Int → Int → Int × Int
  | [], s => (s, 0)
  | n :: l, s => if okN n then (if n > 1099511627776 - s then (0, 6) else addE l (s + n)) else (0, 5)
def okC (c : CellT) : Bool := okN c.inn && okN c.out && decide ((addE c.given.toList 0).2 = 0)
def okCs (v : Vector CellT 4) : Bool := decide (∀ k (h : k < 4), okC v[k] = true)
def hokR (h : Int) (l : Vector CellT 4) : Bool := decide (0 ≤ h) && okCs l && decide (h = 0 → flats l.toList = flats RowT.zero.left[0].toList)
def rightR (x : RowT) : Bool := decide (0 ≤ x.version) && okCs x.cells && decide (∀ j (h : j < 5), hokR x.heir[j] x.left[j] = true)
def machB (w : Int) : Bool := decide (0 ≤ w ∧ w < 5)
def bitB (m w : Int) : Bool := decide ((m.fdiv (2 ^ min w.toNat IntKind.i64.bits)) % 2 = 1)
def memb (v : ViewT) (w : Int) : Bool := machB w && bitB v.members w
def okH (v : ViewT) (h : Int) (i : Nat) : Bool := decide (h = 0) || (memb v (h - 1) && !memb v (i : Int))
def rightV (v : ViewT) : Bool := decide (1 ≤ v.epoch ∧ 1 ≤ v.members ∧ v.members < 32) && @decide (∀ (j : Nat) (h : j < 5), okH v (v.heirs[j]'h) j = true) (Nat.decidableBallLT 5 fun j h => okH v (v.heirs[j]'h) j = true)
def firstV : ViewT := ⟨1, 7, #v[0, 0, 0, 0, 0]⟩
def heirV (v : ViewT) (w : Int) : Option Int := if h : 0 ≤ w ∧ w < 5 then (if v.heirs[w.toNat] < 1 then none else some (v.heirs[w.toNat] - 1)) else none
def leaveH (c : ChangeT) (i : Nat) (h : Int) : Int := if (i : Int) = c.who ∨ h = c.who + 1 then c.heir + 1 else h
def Rng (v : ViewT) : Prop := ∀ (i : Nat) (h : i < 5), 0 ≤ v.heirs[i] ∧ v.heirs[i] ≤ 5
def leaveV (v : ViewT) (c : ChangeT) : Vector Int 5 := v.heirs.mapIdx (leaveH c)
def nextV (v : ViewT) (c : ChangeT) : ViewT × Int :=
  if !machB c.who || !machB c.heir then (ViewT.zero, 5)
  else if c.kind = 0 then
    if (heirV v c.who).isSome || memb v c.who then (ViewT.zero, 5)
    else (⟨IntKind.i64.wrap (v.epoch + 1), orI .i64 v.members (2 ^ c.who.toNat), v.heirs⟩, 0)
  else if c.kind = 1 then
    if !memb v c.who || !memb v c.heir || decide (c.heir = c.who) then (ViewT.zero, 5)
    else (⟨IntKind.i64.wrap (v.epoch + 1), andNotI .i64 v.members (2 ^ c.who.toNat), leaveV v c⟩, 0)
  else (ViewT.zero, 5)
theorem add_step {l : List Int} {k : Nat} {s : Int} (h : k < l.length) : addE (l.drop k) s = if okN (l.getD k 0) then (if l.getD k 0 > 1099511627776 - s then (0, 6) else addE (l.drop (k + 1)) (s + l.getD k 0)) else (0, 5) := by
  rw [List.drop_eq_getElem_cons h, addE]; simp [List.getD_eq_getElem?_getD, h]
theorem bit_one (x : Int) : andI .i64 x 1 = x % 2 := mask (k := 1) (by decide) x
end Api
namespace Leg
section
open Go
variable {P : Program} {n : Nat} {D : List Deferred} {L : List (Nat × Value)} {S : World → Prop} {o : Oper}
theorem ints_len {l : List Int} {n : Nat} (h : (Api.ints l).length = n) : l.length = n := by rwa [Api.ints_length] at h
theorem PV.neqAgg {t t' : TypeId} {x y : Operand} {a b : List Int} {m c : Nat} (hg : P.eqGuardType P.depth t = false) (hk : P.keyTypeAt m t = true) (hm : Nat.ble m 10000 = true) (hF : flatI P m t = some c) (ha : a.length = c) (hb : b.length = c)
    (hf : (Api.agI a).formed P t = true ∧ (Api.agI b).formed P t = true) (wa : WF a) (wb : WF b)
    (ho : o.op = .binOp .neq t x y t') (hx : evL L x = some (Api.agI a)) (hy : evL L y = some (Api.agI b)) : PV P n D L S o (.bool (decide (a ≠ b))) :=
  PV.bin ho hx hy fun w => by
    have hm' : m ≤ 10000 := Nat.le_of_ble_eq_true hm
    obtain ⟨r, hr, hi⟩ := run_equalIn_deep (10000 - m) m t hk w m m (Api.agI a) (Api.agI b) (litI a) (litI b) hf.1 hf.2 (by simpa [Api.agI, Value.cells] using keyLits_ints m t c hF a ha wa) (by simpa [Api.agI, Value.cells] using keyLits_ints m t c hF b hb wb)
    rw [show 10000 - m + m = 10000 by omega] at hr
    have e : r = decide (a = b) := by
      rw [Bool.eq_iff_iff, hi, decide_eq_true_iff]
      constructor
      · intro h
        have hj : Function.Injective (Lit.int IntKind.i64) := fun u v h => by injection h
        exact (List.map_inj_right fun u v h => hj h).1 h
      · rintro rfl; rfl
    subst e
    simp only [Api.agI] at hr ⊢
    rw [Sem.run_bind, run_eqGuard_agg w .neq t x y _ _ hg, Result.andThen_ok, run_neq_struct, hr]
    simp
theorem TE.retCT {w0 : World} {F : Hl} {H H' : List HP} {fn : Func} {post : Ending → List HP → Prop} {t t' ty e m b : Nat} {cs : List Value} {z : Nat × Nat} {dt : TypeDesc} {v' : Value} (hr : fn.results = #[.cell t ty, .tmp t']) (he : lk L t = some (.pointer (some ⟨b, 0, none⟩))) (e' : lk L t' = some v')
    (hu : P.underlying ty = some dt) (hp : plainT dt = false) (hm : (P.info? ty).map (·.size) = some m) (hR : Rd (Sat H F) b (.cells cs.toArray e z)) (hl : cs.length = m) (hk : ∀ h, sep H h → sep H' h)
    (h : post (.returned (.tuple #[.agg cs.toArray, v'])) H') : TE w0 F n (bodyPost P fn (postOf post w0 F)) .ret [] L H := fun a w f s q => by
  have h1 : a.tmps.getD t undef = .pointer (some ⟨b, 0, none⟩) := f.eval (x := .tmp t) he
  have h2 : a.tmps.getD t' undef = v' := f.eval (x := .tmp t') e'
  have h3 : (results fn a.tmps).run P w = .ok (.tuple #[.agg cs.toArray, v']) w := by
    have h1' : a.tmps[t]?.getD undef = .pointer (some ⟨b, 0, none⟩) := by simpa using h1
    have h2' : a.tmps[t']?.getD undef = v' := by simpa using h2
    simp [results, hr, h1', h2', asAddr, run_loadVar_row w b e ty cs.toArray z dt (hR w q) hu (by cases dt <;> simp [plainT] at hp ⊢) (by simp [hm, hl])]
  exact bodyPost_ret h3 f.2.1 ⟨s, H', q.mono hk, h⟩
end
end Leg
end

section
namespace Go.Proofs.YtobdfjdoilnfcaaGreat

open Go Leg Codec Api

set_option maxRecDepth 100000

theorem mixed : Tryz.prog.follows .mixedOrders = true := by kernel_rfl

abbrev giveUp : List PanicEntry := [{ v := .iface 204 (.agg #[]), recovered := false }]

theorem num_cells (rb b off cap : Nat) (bs : List UInt8) (cs : List Value) (T : TypeId) (z : Nat × Nat) (hcap : bs.length ≤ cap) (hm : cap ≤ 9223372036854775807) (hb : ∀ j, j < bs.length → cs[off + j]? = some (.int .u8 ((bs.getD j 0).toNat : Nat))) :
    Leg.Does Tryz.prog 132 #[(.pointer (some ⟨rb, 0, none⟩))] (fun F => F b = some (.cells cs.toArray T z)) [blkA rb [(.slice (some ⟨b, off, none⟩) (bs.length) (cap))] 202] (RetP (fun x H => ∃ n r v', x = .int .i64 ((n : Nat) : Int) ∧ H = [blkA rb [v'] 202] ∧ parse 0 0 bs = some (n, r) ∧ Tail (.slice (some ⟨b, off, none⟩) bs.length cap) bs v' r) (fun c H => c = giveUp ∧ H = [blkA rb [(.slice (some ⟨b, off, none⟩) bs.length cap)] 202] ∧ parse 0 0 bs = none)) := by
 refine Leg.Does.body (n := 48) Tryz.func132 rfl rfl rfl (fun w0 F hF => ?_)
 refine sr fun _ J1 => ?_
 refine PS ?_
 refine nx J1 (sr fun _ J2 => ?_)
 refine PS ?_
 refine nx J2 ?_
 refine TC.seq fun _ J3 => ?_
 refine sr fun _ J4 => ?_
 refine PS ?_
 refine PS ?_
 refine FA 0 Tryz.underlying202 sz72 ?_
 refine LA 0 Tryz.underlying72 ?_
 refine tp (PV.lenSl rfl Tryz.underlying72 rfl) ?_
 refine PS ?_
 refine nx J4 ?_
 refine TC.block ?_
 refine TC.loop (α := (Nat) × (Nat)) (fun ⟨k, a⟩ => k ≤ bs.length ∧ k ≤ 9 ∧ a < 2 ^ (7 * k) ∧ parse 0 0 bs = parse k a (bs.drop k)) (fun ⟨k, a⟩ => [(0, (.pointer (some ⟨rb, 0, none⟩))), (3, (.int .i64 ((a : Nat)))), (9, (.slice (some ⟨b, off, none⟩) (bs.length) (cap))), (10, (.int .i64 (((bs.length : Nat) : Int)))), (11, (.int .i64 ((k : Nat))))]) (fun ⟨k, a⟩ => [blkA rb [(.slice (some ⟨b, off, none⟩) (bs.length) (cap))] 202]) (fun ⟨k, a⟩ => bs.length - k) (0, 0)
     ⟨by omega, by omega, by omega, rfl⟩ (Sub.r (Sub.cons rfl (by congr 1) (Sub.r (Sub.r (Sub.cons rfl (by congr 1) (Sub.nil _))))))
     (fun _ s => s) (fun ⟨k, a⟩ hinv => ?_)
 obtain ⟨hk, hk9, ha, hp⟩ := hinv
 have hc : (bs.getD k 0).toNat < 256 := (bs.getD k 0).toNat_lt
 refine sr fun _ J5 => ?_
 refine PS ?_
 refine TL.dec (fun h12 => ?_) (fun h12 => ?_)
 refine nx J5 ?_
 refine TC.seq fun _ J6 => ?_
 refine CY ?_
 refine CX J6 ?_
 refine TC.seq fun _ J7 => ?_
 refine TC.block ?_
 refine sr fun _ J8 => ?_
 refine PS ?_
 refine tp (PV.indexSl (r := off + k) rfl Tryz.underlying72 sz5 rfl rfl (by first | omega | decide) (by first | omega | decide) (by omega)) ?_
 refine tp (PV.load1 (v := (.int .u8 (((bs.getD k 0).toNat : Nat)))) rfl Tryz.underlying5 rfl rfl (Rd.ro hF) (hb k (by omega))) ?_
 refine PS ?_
 refine PS ?_
 refine nx J8 ?_
 refine TC.seq fun _ J9 => ?_
 refine sr fun _ J10 => ?_
 refine PS ?_
 refine PS ?_
 refine TL.dec (fun h17 => ?_) (fun h17 => ?_)
 refine nx J10 ?_
 refine CY ?_
 refine TC.exit ?_
 refine TE.pass ?_
 refine TE.miss (by decide) ?_
 refine TE.pass ?_
 refine TE.pass ?_
 refine TE.hit ?_
 refine TE.next J3 ?_
 refine TC.region ?_
 refine tp (PV.build (cells := #[]) rfl rfl (by as_aux_lemma => kernel_rfl)) ?_
 refine tp (PV.mkIface rfl Tryz.underlying204 rfl rfl) ?_
 refine TL.panicOp (Want.plain rfl) rfl rfl ?_
 refine TE.panicked ?_
 exact ⟨rfl, rfl, by rw [hp, drop_getD bs k (by omega)]; simp only [parse]; rw [if_pos (by omega)]⟩
 refine nx J10 ?_
 refine CN ?_
 refine CX J9 ?_
 refine sr fun _ J11 => ?_
 refine PS ?_
 refine PS ?_
 refine tp (PV.and (r := (((bs.getD k 0).toNat % 128 : Nat) : Int)) rfl rfl rfl (and127 _ hc)) ?_
 refine tp (PV.convI rfl Tryz.underlying5 Tryz.underlying3 rfl (wrap_i64 (by omega) (by omega))) ?_
 refine PS ?_
 refine tp (PV.mul rfl rfl rfl (wrap_i64 (by omega) (by omega))) ?_
 refine tp (PV.shl (r := (((bs.getD k 0).toNat % 128 * 2 ^ (7 * k) : Nat) : Int)) rfl rfl rfl (by omega) (shl7 _ k (by omega) (by omega))) ?_
 refine tp (PV.or (r := ((a + (bs.getD k 0).toNat % 128 * 2 ^ (7 * k) : Nat) : Int)) rfl rfl rfl (or_add a _ k ha (by omega) (by omega))) ?_
 refine PS ?_
 refine nx J11 ?_
 refine TC.seq fun _ J12 => ?_
 refine sr fun _ J13 => ?_
 refine PS ?_
 refine PS ?_
 refine TL.dec (fun h27 => ?_) (fun h27 => ?_)
 refine nx J13 ?_
 refine CY ?_
 refine TC.exit ?_
 refine TE.pass ?_
 refine TE.hit ?_
 refine TE.next J7 ?_
 refine TC.region ?_
 refine tp (PV.add rfl rfl rfl (wrap_i64 (by omega) (by omega))) ?_
 refine PS ?_
 refine TL.nil ?_
 exact TE.round ((k + 1, a + (bs.getD k 0).toNat % 128 * 2 ^ (7 * k)) : (Nat) × (Nat)) ⟨by omega, by omega, grow7 a _ k ha (by omega), by rw [hp, drop_getD bs k (by omega)]; simp only [parse]; rw [if_neg (by omega), if_pos (by omega)]⟩ (by show _ - _ < _ - _; omega)
   (Sub.r (Sub.r (Sub.r (Sub.r (Sub.r (Sub.nil _))))))
   (fun _ s => s)
 refine nx J13 ?_
 refine CN ?_
 refine CX J12 ?_
 refine TC.seq fun _ J14 => ?_
 refine sr fun _ J15 => ?_
 refine PS ?_
 refine PS ?_
 refine TL.dec (fun h29 => ?_) (fun h29 => ?_)
 refine PS ?_
 refine PS ?_
 refine PS ?_
 refine TL.dec (fun h32 => ?_) (fun h32 => ?_)
 refine PS ?_
 refine nx J15 ?_
 refine CY ?_
 refine TC.exit ?_
 refine TE.pass ?_
 refine TE.miss (by decide) ?_
 refine TE.pass ?_
 refine TE.pass ?_
 refine TE.hit ?_
 refine TE.next J3 ?_
 refine TC.region ?_
 refine tp (PV.build (cells := #[]) rfl rfl (by as_aux_lemma => kernel_rfl)) ?_
 refine tp (PV.mkIface rfl Tryz.underlying204 rfl rfl) ?_
 refine TL.panicOp (Want.plain rfl) rfl rfl ?_
 refine TE.panicked ?_
 exact ⟨rfl, rfl, by rw [hp, drop_getD bs k (by omega)]; simp only [parse]; rw [if_neg (by omega), if_neg (by omega), if_pos (by omega)]⟩
 refine PS ?_
 refine nx J15 ?_
 refine CN ?_
 refine CX J14 ?_
 refine sr fun _ J16 => ?_
 refine PS ?_
 refine PS ?_
 refine PS ?_
 refine FA 0 Tryz.underlying202 sz72 ?_
 refine LA 0 Tryz.underlying72 ?_
 refine PS ?_
 refine tp (PV.add rfl rfl rfl (wrap_i64 (by omega) (by omega))) ?_
 refine tp (PV.sliceLo (k := k + 1) rfl Tryz.underlying72 sz5 rfl rfl (by omega) (by omega) rfl) ?_
 refine PS ?_
 refine FA 0 Tryz.underlying202 sz72 ?_
 refine S0 0 sz72 ?_
 refine nx J16 (sr fun _ J17 => ?_)
 refine PS ?_
 refine PS ?_
 refine nx J17 ?_
 refine TC.ret ?_
 refine TE.blockRet ?_
 refine TE.passRet ?_
 refine TE.passRet ?_
 refine TE.blockRet ?_
 refine TE.passRet ?_
 refine TE.ret1 rfl rfl ?_
 exact ⟨_, _, _, rfl, rfl, by rw [hp, drop_getD bs k (by omega)]; simp only [parse]; rw [if_neg (by omega), if_neg (by omega), if_neg (by omega)], Tail.cut _ (by omega)⟩
 refine PS ?_
 refine UF ?_
 refine UF ?_
 refine PS ?_
 refine nx J15 ?_
 refine CN ?_
 refine CX J14 ?_
 refine sr fun _ J18 => ?_
 refine PS ?_
 refine PS ?_
 refine PS ?_
 refine FA 0 Tryz.underlying202 sz72 ?_
 refine LA 0 Tryz.underlying72 ?_
 refine PS ?_
 refine tp (PV.add rfl rfl rfl (wrap_i64 (by omega) (by omega))) ?_
 refine tp (PV.sliceLo (k := k + 1) rfl Tryz.underlying72 sz5 rfl rfl (by omega) (by omega) rfl) ?_
 refine PS ?_
 refine FA 0 Tryz.underlying202 sz72 ?_
 refine S0 0 sz72 ?_
 refine nx J18 (sr fun _ J19 => ?_)
 refine PS ?_
 refine PS ?_
 refine nx J19 ?_
 refine TC.ret ?_
 refine TE.blockRet ?_
 refine TE.passRet ?_
 refine TE.passRet ?_
 refine TE.blockRet ?_
 refine TE.passRet ?_
 refine TE.ret1 rfl rfl ?_
 exact ⟨_, _, _, rfl, rfl, by rw [hp, drop_getD bs k (by omega)]; simp only [parse]; rw [if_neg (by omega), if_neg (by omega), if_neg (by omega)], Tail.cut _ (by omega)⟩
 refine nx J5 ?_
 refine TC.seq fun _ J20 => ?_
 refine CN ?_
 refine TC.exit ?_
 refine TE.pass ?_
 refine TE.pass ?_
 refine TE.hit ?_
 refine TE.next J3 ?_
 refine TC.region ?_
 refine tp (PV.build (cells := #[]) rfl rfl (by as_aux_lemma => kernel_rfl)) ?_
 refine tp (PV.mkIface rfl Tryz.underlying204 rfl rfl) ?_
 refine TL.panicOp (Want.plain rfl) rfl rfl ?_
 refine TE.panicked ?_
 exact ⟨rfl, rfl, by rw [hp, List.drop_eq_nil_of_le (by omega)]; rfl⟩
theorem num_nil (rb : Nat) :
    Leg.Does Tryz.prog 132 #[(.pointer (some ⟨rb, 0, none⟩))] (fun _ => True) [blkA rb [(.slice none 0 0)] 202] (RetP (fun x H => ∃ n r v', x = .int .i64 ((n : Nat) : Int) ∧ H = [blkA rb [v'] 202] ∧ parse 0 0 [] = some (n, r) ∧ Tail (.slice none 0 0) [] v' r) (fun c H => c = giveUp ∧ H = [blkA rb [(.slice none 0 0)] 202] ∧ parse 0 0 [] = none)) := by
 refine Leg.Does.body (n := 48) Tryz.func132 rfl rfl rfl (fun w0 F hF => ?_)
 refine sr fun _ J1 => ?_
 refine PS ?_
 refine nx J1 (sr fun _ J2 => ?_)
 refine PS ?_
 refine nx J2 ?_
 refine TC.seq fun _ J3 => ?_
 refine sr fun _ J4 => ?_
 refine PS ?_
 refine PS ?_
 refine FA 0 Tryz.underlying202 sz72 ?_
 refine LA 0 Tryz.underlying72 ?_
 refine tp (PV.lenSl rfl Tryz.underlying72 rfl) ?_
 refine PS ?_
 refine nx J4 ?_
 refine TC.block ?_
 refine TC.loop (α := Unit) (fun _u => True) (fun _u => [(0, (.pointer (some ⟨rb, 0, none⟩))), (3, (.int .i64 0)), (9, (.slice none 0 0)), (10, (.int .i64 0)), (11, (.int .i64 0))]) (fun _u => [blkA rb [(.slice none 0 0)] 202]) (fun _u => 0) ()
     trivial (Sub.r (Sub.r (Sub.r (Sub.r (Sub.r (Sub.nil _))))))
     (fun _ s => s) (fun _u hinv => ?_)
 obtain _ := hinv
 refine sr fun _ J5 => ?_
 refine PS ?_
 refine nx J5 ?_
 refine TC.seq fun _ J6 => ?_
 refine CN ?_
 refine TC.exit ?_
 refine TE.pass ?_
 refine TE.pass ?_
 refine TE.hit ?_
 refine TE.next J3 ?_
 refine TC.region ?_
 refine tp (PV.build (cells := #[]) rfl rfl (by as_aux_lemma => kernel_rfl)) ?_
 refine tp (PV.mkIface rfl Tryz.underlying204 rfl rfl) ?_
 refine TL.panicOp (Want.plain rfl) rfl rfl ?_
 refine TE.panicked ?_
 exact ⟨rfl, rfl, rfl⟩
theorem num_does (rb : Nat) (v : Value) (bs : List UInt8) : Leg.Does Tryz.prog 132 #[(.pointer (some ⟨rb, 0, none⟩))] (IsB v bs) [blkA rb [v] 202] (RdPost 202 giveUp (fun n => .int .i64 n) numP v bs rb) := by
  have fin : ∀ e H, (RetP (fun x H => ∃ n r v', x = .int .i64 ((n : Nat) : Int) ∧ H = [blkA rb [v'] 202] ∧ parse 0 0 bs = some (n, r) ∧ Tail v bs v' r) (fun c H => c = giveUp ∧ H = [blkA rb [v] 202] ∧ parse 0 0 bs = none)) e H → RdPost 202 giveUp (fun n => .int .i64 n) numP v bs rb e H := by
    intro e H h
    cases e with
    | returned x => obtain ⟨n, r, v', h1, h2, h3, h4⟩ := h; exact ⟨_, r, v', h1, h2, numP_some h3, h4⟩
    | panicked c => obtain ⟨h1, h2, h3⟩ := h; exact ⟨_, h1, h2, numP_none h3⟩
    | outgrown => exact h
  refine Leg.Does.of fun F hF => ?_
  rcases id hF with ⟨rfl, rfl⟩ | ⟨b, off, cap, cs, T, z, rfl, h1, h2, h3, h4⟩
  · exact ⟨_, trivial, (num_nil rb).mono fin⟩
  · exact ⟨_, h3, (num_cells rb b off cap bs cs T z h1 h2 h4).mono fin⟩

theorem small_does (rb : Nat) (v : Value) (bs : List UInt8) (lim : Int) :
    Leg.Does Tryz.prog 129 #[(.pointer (some ⟨rb, 0, none⟩)), (.int .i64 (lim))] (IsB v bs) [blkA rb [v] 202] (RdPost 202 giveUp (fun n => .int .i64 n) (smallP lim) v bs rb) := by
 refine Leg.Does.body (n := 14) Tryz.func129 rfl rfl rfl (fun w0 F hF => ?_)
 refine sr fun _ J1 => ?_
 refine PS ?_
 refine nx J1 (sr fun _ J2 => ?_)
 refine PS ?_
 refine TL.callP (Want.plain rfl) rfl rfl rfl nm132 rfl (num_does rb v bs ) (fun _ s => s) (fun _ d _ => (hF).more d) (fun cP HP hP => ?_) (fun vR HR hR => ?_)
 obtain ⟨vP, rfl, rfl, hpP⟩ := hP
 refine TE.passPanic ?_
 refine WK [0] ?_
 refine TE.panicked ?_
 exact ⟨_, rfl, rfl, by simp [smallP, pb_none hpP]⟩
 obtain ⟨a1, r1, v1, rfl, rfl, hp1, ht1⟩ := hR
 have hf1 := ht1 _ hF
 refine PS ?_
 refine nx J2 ?_
 refine TC.seq fun _ J3 => ?_
 refine sr fun _ J4 => ?_
 refine PS ?_
 refine PS ?_
 refine PS ?_
 refine TL.dec (fun h10 => ?_) (fun h10 => ?_)
 refine nx J4 ?_
 refine CY ?_
 refine TC.region ?_
 refine tp (PV.build (cells := #[]) rfl rfl (by as_aux_lemma => kernel_rfl)) ?_
 refine tp (PV.mkIface rfl Tryz.underlying204 rfl rfl) ?_
 refine TL.panicOp (Want.plain rfl) rfl rfl ?_
 refine TE.passPanic ?_
 refine WK [0] ?_
 refine TE.panicked ?_
 exact ⟨_, rfl, rfl, by simp [smallP, pb_some hp1, h10, pf]⟩
 refine nx J4 ?_
 refine CN ?_
 refine CX J3 ?_
 refine sr fun _ J5 => ?_
 refine PS ?_
 refine PS ?_
 refine nx J5 ?_
 refine TC.ret ?_
 refine WK [0] ?_
 refine TE.ret1 rfl rfl ?_
 exact ⟨_, _, _, rfl, rfl, by rw [smallP, pb_some hp1, if_neg h10]; rfl, ht1⟩
theorem rcell_does (rb : Nat) (v : Value) (bs : List UInt8) :
    Leg.Does Tryz.prog 154 #[(.pointer (some ⟨rb, 0, none⟩))] (IsB v bs) [blkA rb [v] 202] (RdPost 202 giveUp CellT.val cellP v bs rb) := by
 refine Leg.Does.body (n := 21) Tryz.func154 rfl rfl rfl (fun w0 F hF => ?_)
 refine sr fun _ J1 => ?_
 refine TL.alloc (Want.plain rfl) rfl rfl rfl z60 (fun b2 => ?_)
 refine nx J1 (sr fun _ J2 => ?_)
 refine TL.alloc (Want.plain rfl) rfl rfl rfl z60 (fun b3 => ?_)
 refine nx J2 (sr fun _ J3 => ?_)
 refine PS ?_
 refine TL.callP (Want.plain rfl) rfl rfl rfl nm129 rfl (small_does rb v bs (1099511627777)) (fun _ s => sep_selR [2] rfl s) (fun _ d _ => (hF).more d) (fun cP HP hP => ?_) (fun vR HR hR => ?_)
 obtain ⟨vP, rfl, rfl, hpP⟩ := hP
 refine TE.passPanic ?_
 refine WK [0] ?_
 refine TE.panicked ?_
 exact ⟨_, rfl, rfl, by simp [cellP, pr, pb_none hpP]⟩
 obtain ⟨a1, r1, v1, rfl, rfl, hp1, ht1⟩ := hR
 have hf1 := ht1 _ hF
 refine FA 0 Tryz.underlying60 sz3 ?_
 refine S0 1 sz3 ?_
 refine nx J3 (sr fun _ J4 => ?_)
 refine PS ?_
 refine TL.callP (Want.plain rfl) rfl rfl rfl nm129 rfl (small_does rb v1 r1 (1099511627777)) (fun _ s => s) (fun _ d _ => (hf1).more d) (fun cP HP hP => ?_) (fun vR HR hR => ?_)
 obtain ⟨vP, rfl, rfl, hpP⟩ := hP
 refine TE.passPanic ?_
 refine WK [0] ?_
 refine TE.panicked ?_
 exact ⟨_, rfl, rfl, by simp [cellP, pr, pb_some hp1, pb_none hpP]⟩
 obtain ⟨a2, r2, v2, rfl, rfl, hp2, ht2⟩ := hR
 have hf2 := ht2 _ hf1
 refine FA 1 Tryz.underlying60 sz3 ?_
 refine S0 1 sz3 ?_
 refine nx J4 ?_
 refine TC.seq fun _ J5 => ?_
 refine sr fun _ J6 => ?_
 refine PS ?_
 refine nx J6 ?_
 refine TC.block ?_
 refine TC.unroll 5 ?_
 refine sr fun _ J7 => ?_
 refine PS ?_
 refine nx J7 ?_
 refine TC.seq fun _ J8 => ?_
 refine CY ?_
 refine CX J8 ?_
 refine TC.seq fun _ J9 => ?_
 refine TC.block ?_
 refine sr fun _ J10 => ?_
 refine PS ?_
 refine PS ?_
 refine nx J10 ?_
 refine TC.region ?_
 refine PS ?_
 refine PS ?_
 refine TL.callP (Want.plain rfl) rfl rfl rfl nm129 rfl (small_does rb v2 r2 (1099511627777)) (fun _ s => s) (fun _ d _ => (hf2).more d) (fun cP HP hP => ?_) (fun vR HR hR => ?_)
 obtain ⟨vP, rfl, rfl, hpP⟩ := hP
 refine TE.blockPanic ?_
 refine TE.passPanic ?_
 refine TE.passPanic ?_
 refine TE.blockPanic ?_
 refine TE.passPanic ?_
 refine WK [0] ?_
 refine TE.panicked ?_
 exact ⟨_, rfl, rfl, by simp [cellP, pr, pb_some hp1, pb_some hp2, pb_none hpP]⟩
 obtain ⟨a3, r3, v3, rfl, rfl, hp3, ht3⟩ := hR
 have hf3 := ht3 _ hf2
 refine FA 2 Tryz.underlying60 sz42 ?_
 refine tp (PV.indexArr (r := 2) rfl Tryz.underlying42 sz3 rfl rfl (lz rfl) (lz rfl) rfl) ?_
 refine S0 1 sz3 ?_
 refine TL.nil ?_
 refine TE.blockEnd ?_
 refine TE.next J9 ?_
 refine TC.region ?_
 refine tp (PV.add (r := 1) rfl rfl rfl (by decide)) ?_
 refine PS ?_
 refine TL.nil ?_
 refine TE.again ?_
 refine sr fun _ J11 => ?_
 refine PS ?_
 refine nx J11 ?_
 refine TC.seq fun _ J12 => ?_
 refine CY ?_
 refine CX J12 ?_
 refine TC.seq fun _ J13 => ?_
 refine TC.block ?_
 refine sr fun _ J14 => ?_
 refine PS ?_
 refine PS ?_
 refine nx J14 ?_
 refine TC.region ?_
 refine PS ?_
 refine PS ?_
 refine TL.callP (Want.plain rfl) rfl rfl rfl nm129 rfl (small_does rb v3 r3 (1099511627777)) (fun _ s => s) (fun _ d _ => (hf3).more d) (fun cP HP hP => ?_) (fun vR HR hR => ?_)
 obtain ⟨vP, rfl, rfl, hpP⟩ := hP
 refine TE.blockPanic ?_
 refine TE.passPanic ?_
 refine TE.passPanic ?_
 refine TE.blockPanic ?_
 refine TE.passPanic ?_
 refine WK [0] ?_
 refine TE.panicked ?_
 exact ⟨_, rfl, rfl, by simp [cellP, pr, pb_some hp1, pb_some hp2, pb_some hp3, pb_none hpP]⟩
 obtain ⟨a4, r4, v4, rfl, rfl, hp4, ht4⟩ := hR
 have hf4 := ht4 _ hf3
 refine FA 2 Tryz.underlying60 sz42 ?_
 refine tp (PV.indexArr (r := 3) rfl Tryz.underlying42 sz3 rfl rfl (lz rfl) (lz rfl) rfl) ?_
 refine S0 1 sz3 ?_
 refine TL.nil ?_
 refine TE.blockEnd ?_
 refine TE.next J13 ?_
 refine TC.region ?_
 refine tp (PV.add (r := 2) rfl rfl rfl (by decide)) ?_
 refine PS ?_
 refine TL.nil ?_
 refine TE.again ?_
 refine sr fun _ J15 => ?_
 refine PS ?_
 refine nx J15 ?_
 refine TC.seq fun _ J16 => ?_
 refine CY ?_
 refine CX J16 ?_
 refine TC.seq fun _ J17 => ?_
 refine TC.block ?_
 refine sr fun _ J18 => ?_
 refine PS ?_
 refine PS ?_
 refine nx J18 ?_
 refine TC.region ?_
 refine PS ?_
 refine PS ?_
 refine TL.callP (Want.plain rfl) rfl rfl rfl nm129 rfl (small_does rb v4 r4 (1099511627777)) (fun _ s => s) (fun _ d _ => (hf4).more d) (fun cP HP hP => ?_) (fun vR HR hR => ?_)
 obtain ⟨vP, rfl, rfl, hpP⟩ := hP
 refine TE.blockPanic ?_
 refine TE.passPanic ?_
 refine TE.passPanic ?_
 refine TE.blockPanic ?_
 refine TE.passPanic ?_
 refine WK [0] ?_
 refine TE.panicked ?_
 exact ⟨_, rfl, rfl, by simp [cellP, pr, pb_some hp1, pb_some hp2, pb_some hp3, pb_some hp4, pb_none hpP]⟩
 obtain ⟨a5, r5, v5, rfl, rfl, hp5, ht5⟩ := hR
 have hf5 := ht5 _ hf4
 refine FA 2 Tryz.underlying60 sz42 ?_
 refine tp (PV.indexArr (r := 4) rfl Tryz.underlying42 sz3 rfl rfl (lz rfl) (lz rfl) rfl) ?_
 refine S0 1 sz3 ?_
 refine TL.nil ?_
 refine TE.blockEnd ?_
 refine TE.next J17 ?_
 refine TC.region ?_
 refine tp (PV.add (r := 3) rfl rfl rfl (by decide)) ?_
 refine PS ?_
 refine TL.nil ?_
 refine TE.again ?_
 refine sr fun _ J19 => ?_
 refine PS ?_
 refine nx J19 ?_
 refine TC.seq fun _ J20 => ?_
 refine CY ?_
 refine CX J20 ?_
 refine TC.seq fun _ J21 => ?_
 refine TC.block ?_
 refine sr fun _ J22 => ?_
 refine PS ?_
 refine PS ?_
 refine nx J22 ?_
 refine TC.region ?_
 refine PS ?_
 refine PS ?_
 refine TL.callP (Want.plain rfl) rfl rfl rfl nm129 rfl (small_does rb v5 r5 (1099511627777)) (fun _ s => s) (fun _ d _ => (hf5).more d) (fun cP HP hP => ?_) (fun vR HR hR => ?_)
 obtain ⟨vP, rfl, rfl, hpP⟩ := hP
 refine TE.blockPanic ?_
 refine TE.passPanic ?_
 refine TE.passPanic ?_
 refine TE.blockPanic ?_
 refine TE.passPanic ?_
 refine WK [0] ?_
 refine TE.panicked ?_
 exact ⟨_, rfl, rfl, by simp [cellP, pr, pb_some hp1, pb_some hp2, pb_some hp3, pb_some hp4, pb_some hp5, pb_none hpP]⟩
 obtain ⟨a6, r6, v6, rfl, rfl, hp6, ht6⟩ := hR
 have hf6 := ht6 _ hf5
 refine FA 2 Tryz.underlying60 sz42 ?_
 refine tp (PV.indexArr (r := 5) rfl Tryz.underlying42 sz3 rfl rfl (lz rfl) (lz rfl) rfl) ?_
 refine S0 1 sz3 ?_
 refine TL.nil ?_
 refine TE.blockEnd ?_
 refine TE.next J21 ?_
 refine TC.region ?_
 refine tp (PV.add (r := 4) rfl rfl rfl (by decide)) ?_
 refine PS ?_
 refine TL.nil ?_
 refine TE.again ?_
 refine sr fun _ J23 => ?_
 refine PS ?_
 refine nx J23 ?_
 refine TC.seq fun _ J24 => ?_
 refine CY ?_
 refine CX J24 ?_
 refine TC.seq fun _ J25 => ?_
 refine TC.block ?_
 refine sr fun _ J26 => ?_
 refine PS ?_
 refine PS ?_
 refine nx J26 ?_
 refine TC.region ?_
 refine PS ?_
 refine PS ?_
 refine TL.callP (Want.plain rfl) rfl rfl rfl nm129 rfl (small_does rb v6 r6 (1099511627777)) (fun _ s => s) (fun _ d _ => (hf6).more d) (fun cP HP hP => ?_) (fun vR HR hR => ?_)
 obtain ⟨vP, rfl, rfl, hpP⟩ := hP
 refine TE.blockPanic ?_
 refine TE.passPanic ?_
 refine TE.passPanic ?_
 refine TE.blockPanic ?_
 refine TE.passPanic ?_
 refine WK [0] ?_
 refine TE.panicked ?_
 exact ⟨_, rfl, rfl, by simp [cellP, pr, pb_some hp1, pb_some hp2, pb_some hp3, pb_some hp4, pb_some hp5, pb_some hp6, pb_none hpP]⟩
 obtain ⟨a7, r7, v7, rfl, rfl, hp7, ht7⟩ := hR
 have hf7 := ht7 _ hf6
 refine FA 2 Tryz.underlying60 sz42 ?_
 refine tp (PV.indexArr (r := 6) rfl Tryz.underlying42 sz3 rfl rfl (lz rfl) (lz rfl) rfl) ?_
 refine S0 1 sz3 ?_
 refine TL.nil ?_
 refine TE.blockEnd ?_
 refine TE.next J25 ?_
 refine TC.region ?_
 refine tp (PV.add (r := 5) rfl rfl rfl (by decide)) ?_
 refine PS ?_
 refine TL.nil ?_
 refine TE.again ?_
 refine sr fun _ J27 => ?_
 refine PS ?_
 refine nx J27 ?_
 refine TC.seq fun _ J28 => ?_
 refine CN ?_
 refine TC.exit ?_
 refine TE.pass ?_
 refine TE.pass ?_
 refine TE.hit ?_
 refine TE.next J5 ?_
 refine sr fun _ J29 => ?_
 refine tp (PV.loadN (vs := [(.int .i64 (a1)), (.int .i64 (a2)), (.int .i64 (a3)), (.int .i64 (a4)), (.int .i64 (a5)), (.int .i64 (a6)), (.int .i64 (a7))]) rfl Tryz.underlying60 rfl sz60 rfl (RO 1) rfl rfl) ?_
 refine TL.store (vs := [(.int .i64 (a1)), (.int .i64 (a2)), (.int .i64 (a3)), (.int .i64 (a4)), (.int .i64 (a5)), (.int .i64 (a6)), (.int .i64 (a7))]) (i := 2) (Want.plain rfl) rfl rfl rfl rfl rfl sz60 (by simp [Value.oneCell']) rfl rfl (lbe rfl) rfl rfl ?_
 refine nx J29 ?_
 refine TC.ret ?_
 refine TE.retC (H' := [blkA rb [v7] 202]) rfl rfl Tryz.underlying60 rfl sz60 (RO 2) rfl (fun _ s => sep_keep [0] rfl s) ?_
 exact ⟨⟨a1, a2, #v[a3, a4, a5, a6, a7]⟩, _, _, rfl, rfl, by simp [cellP, pr, pb_some hp1, pb_some hp2, pb_some hp3, pb_some hp4, pb_some hp5, pb_some hp6, pb_some hp7], (ht1.trans (ht2.trans (ht3.trans (ht4.trans (ht5.trans (ht6.trans ht7))))))⟩
theorem rview_does (rb : Nat) (v : Value) (bs : List UInt8) :
    Leg.Does Tryz.prog 135 #[(.pointer (some ⟨rb, 0, none⟩))] (IsB v bs) [blkA rb [v] 202] (RdPost 202 giveUp ViewT.val viewP v bs rb) := by
 refine Leg.Does.body (n := 21) Tryz.func135 rfl rfl rfl (fun w0 F hF => ?_)
 refine sr fun _ J1 => ?_
 refine TL.alloc (Want.plain rfl) rfl rfl rfl z44 (fun b2 => ?_)
 refine nx J1 (sr fun _ J2 => ?_)
 refine TL.alloc (Want.plain rfl) rfl rfl rfl z44 (fun b3 => ?_)
 refine nx J2 (sr fun _ J3 => ?_)
 refine PS ?_
 refine TL.callP (Want.plain rfl) rfl rfl rfl nm132 rfl (num_does rb v bs ) (fun _ s => sep_selR [2] rfl s) (fun _ d _ => (hF).more d) (fun cP HP hP => ?_) (fun vR HR hR => ?_)
 obtain ⟨vP, rfl, rfl, hpP⟩ := hP
 refine TE.passPanic ?_
 refine WK [0] ?_
 refine TE.panicked ?_
 exact ⟨_, rfl, rfl, by simp [viewP, pr, pb_none hpP]⟩
 obtain ⟨a1, r1, v1, rfl, rfl, hp1, ht1⟩ := hR
 have hf1 := ht1 _ hF
 refine FA 0 Tryz.underlying44 sz3 ?_
 refine S0 1 sz3 ?_
 refine nx J3 (sr fun _ J4 => ?_)
 refine PS ?_
 refine TL.callP (Want.plain rfl) rfl rfl rfl nm129 rfl (small_does rb v1 r1 (32)) (fun _ s => s) (fun _ d _ => (hf1).more d) (fun cP HP hP => ?_) (fun vR HR hR => ?_)
 obtain ⟨vP, rfl, rfl, hpP⟩ := hP
 refine TE.passPanic ?_
 refine WK [0] ?_
 refine TE.panicked ?_
 exact ⟨_, rfl, rfl, by simp [viewP, pr, pb_some hp1, pb_none hpP]⟩
 obtain ⟨a2, r2, v2, rfl, rfl, hp2, ht2⟩ := hR
 have hf2 := ht2 _ hf1
 refine FA 1 Tryz.underlying44 sz3 ?_
 refine S0 1 sz3 ?_
 refine nx J4 ?_
 refine TC.seq fun _ J5 => ?_
 refine sr fun _ J6 => ?_
 refine PS ?_
 refine nx J6 ?_
 refine TC.block ?_
 refine TC.unroll 5 ?_
 refine sr fun _ J7 => ?_
 refine PS ?_
 refine nx J7 ?_
 refine TC.seq fun _ J8 => ?_
 refine CY ?_
 refine CX J8 ?_
 refine TC.seq fun _ J9 => ?_
 refine TC.block ?_
 refine sr fun _ J10 => ?_
 refine PS ?_
 refine PS ?_
 refine nx J10 ?_
 refine TC.region ?_
 refine PS ?_
 refine PS ?_
 refine TL.callP (Want.plain rfl) rfl rfl rfl nm129 rfl (small_does rb v2 r2 (6)) (fun _ s => s) (fun _ d _ => (hf2).more d) (fun cP HP hP => ?_) (fun vR HR hR => ?_)
 obtain ⟨vP, rfl, rfl, hpP⟩ := hP
 refine TE.blockPanic ?_
 refine TE.passPanic ?_
 refine TE.passPanic ?_
 refine TE.blockPanic ?_
 refine TE.passPanic ?_
 refine WK [0] ?_
 refine TE.panicked ?_
 exact ⟨_, rfl, rfl, by simp [viewP, pr, pb_some hp1, pb_some hp2, pb_none hpP]⟩
 obtain ⟨a3, r3, v3, rfl, rfl, hp3, ht3⟩ := hR
 have hf3 := ht3 _ hf2
 refine FA 2 Tryz.underlying44 sz42 ?_
 refine tp (PV.indexArr (r := 2) rfl Tryz.underlying42 sz3 rfl rfl (lz rfl) (lz rfl) rfl) ?_
 refine S0 1 sz3 ?_
 refine TL.nil ?_
 refine TE.blockEnd ?_
 refine TE.next J9 ?_
 refine TC.region ?_
 refine tp (PV.add (r := 1) rfl rfl rfl (by decide)) ?_
 refine PS ?_
 refine TL.nil ?_
 refine TE.again ?_
 refine sr fun _ J11 => ?_
 refine PS ?_
 refine nx J11 ?_
 refine TC.seq fun _ J12 => ?_
 refine CY ?_
 refine CX J12 ?_
 refine TC.seq fun _ J13 => ?_
 refine TC.block ?_
 refine sr fun _ J14 => ?_
 refine PS ?_
 refine PS ?_
 refine nx J14 ?_
 refine TC.region ?_
 refine PS ?_
 refine PS ?_
 refine TL.callP (Want.plain rfl) rfl rfl rfl nm129 rfl (small_does rb v3 r3 (6)) (fun _ s => s) (fun _ d _ => (hf3).more d) (fun cP HP hP => ?_) (fun vR HR hR => ?_)
 obtain ⟨vP, rfl, rfl, hpP⟩ := hP
 refine TE.blockPanic ?_
 refine TE.passPanic ?_
 refine TE.passPanic ?_
 refine TE.blockPanic ?_
 refine TE.passPanic ?_
 refine WK [0] ?_
 refine TE.panicked ?_
 exact ⟨_, rfl, rfl, by simp [viewP, pr, pb_some hp1, pb_some hp2, pb_some hp3, pb_none hpP]⟩
 obtain ⟨a4, r4, v4, rfl, rfl, hp4, ht4⟩ := hR
 have hf4 := ht4 _ hf3
 refine FA 2 Tryz.underlying44 sz42 ?_
 refine tp (PV.indexArr (r := 3) rfl Tryz.underlying42 sz3 rfl rfl (lz rfl) (lz rfl) rfl) ?_
 refine S0 1 sz3 ?_
 refine TL.nil ?_
 refine TE.blockEnd ?_
 refine TE.next J13 ?_
 refine TC.region ?_
 refine tp (PV.add (r := 2) rfl rfl rfl (by decide)) ?_
 refine PS ?_
 refine TL.nil ?_
 refine TE.again ?_
 refine sr fun _ J15 => ?_
 refine PS ?_
 refine nx J15 ?_
 refine TC.seq fun _ J16 => ?_
 refine CY ?_
 refine CX J16 ?_
 refine TC.seq fun _ J17 => ?_
 refine TC.block ?_
 refine sr fun _ J18 => ?_
 refine PS ?_
 refine PS ?_
 refine nx J18 ?_
 refine TC.region ?_
 refine PS ?_
 refine PS ?_
 refine TL.callP (Want.plain rfl) rfl rfl rfl nm129 rfl (small_does rb v4 r4 (6)) (fun _ s => s) (fun _ d _ => (hf4).more d) (fun cP HP hP => ?_) (fun vR HR hR => ?_)
 obtain ⟨vP, rfl, rfl, hpP⟩ := hP
 refine TE.blockPanic ?_
 refine TE.passPanic ?_
 refine TE.passPanic ?_
 refine TE.blockPanic ?_
 refine TE.passPanic ?_
 refine WK [0] ?_
 refine TE.panicked ?_
 exact ⟨_, rfl, rfl, by simp [viewP, pr, pb_some hp1, pb_some hp2, pb_some hp3, pb_some hp4, pb_none hpP]⟩
 obtain ⟨a5, r5, v5, rfl, rfl, hp5, ht5⟩ := hR
 have hf5 := ht5 _ hf4
 refine FA 2 Tryz.underlying44 sz42 ?_
 refine tp (PV.indexArr (r := 4) rfl Tryz.underlying42 sz3 rfl rfl (lz rfl) (lz rfl) rfl) ?_
 refine S0 1 sz3 ?_
 refine TL.nil ?_
 refine TE.blockEnd ?_
 refine TE.next J17 ?_
 refine TC.region ?_
 refine tp (PV.add (r := 3) rfl rfl rfl (by decide)) ?_
 refine PS ?_
 refine TL.nil ?_
 refine TE.again ?_
 refine sr fun _ J19 => ?_
 refine PS ?_
 refine nx J19 ?_
 refine TC.seq fun _ J20 => ?_
 refine CY ?_
 refine CX J20 ?_
 refine TC.seq fun _ J21 => ?_
 refine TC.block ?_
 refine sr fun _ J22 => ?_
 refine PS ?_
 refine PS ?_
 refine nx J22 ?_
 refine TC.region ?_
 refine PS ?_
 refine PS ?_
 refine TL.callP (Want.plain rfl) rfl rfl rfl nm129 rfl (small_does rb v5 r5 (6)) (fun _ s => s) (fun _ d _ => (hf5).more d) (fun cP HP hP => ?_) (fun vR HR hR => ?_)
 obtain ⟨vP, rfl, rfl, hpP⟩ := hP
 refine TE.blockPanic ?_
 refine TE.passPanic ?_
 refine TE.passPanic ?_
 refine TE.blockPanic ?_
 refine TE.passPanic ?_
 refine WK [0] ?_
 refine TE.panicked ?_
 exact ⟨_, rfl, rfl, by simp [viewP, pr, pb_some hp1, pb_some hp2, pb_some hp3, pb_some hp4, pb_some hp5, pb_none hpP]⟩
 obtain ⟨a6, r6, v6, rfl, rfl, hp6, ht6⟩ := hR
 have hf6 := ht6 _ hf5
 refine FA 2 Tryz.underlying44 sz42 ?_
 refine tp (PV.indexArr (r := 5) rfl Tryz.underlying42 sz3 rfl rfl (lz rfl) (lz rfl) rfl) ?_
 refine S0 1 sz3 ?_
 refine TL.nil ?_
 refine TE.blockEnd ?_
 refine TE.next J21 ?_
 refine TC.region ?_
 refine tp (PV.add (r := 4) rfl rfl rfl (by decide)) ?_
 refine PS ?_
 refine TL.nil ?_
 refine TE.again ?_
 refine sr fun _ J23 => ?_
 refine PS ?_
 refine nx J23 ?_
 refine TC.seq fun _ J24 => ?_
 refine CY ?_
 refine CX J24 ?_
 refine TC.seq fun _ J25 => ?_
 refine TC.block ?_
 refine sr fun _ J26 => ?_
 refine PS ?_
 refine PS ?_
 refine nx J26 ?_
 refine TC.region ?_
 refine PS ?_
 refine PS ?_
 refine TL.callP (Want.plain rfl) rfl rfl rfl nm129 rfl (small_does rb v6 r6 (6)) (fun _ s => s) (fun _ d _ => (hf6).more d) (fun cP HP hP => ?_) (fun vR HR hR => ?_)
 obtain ⟨vP, rfl, rfl, hpP⟩ := hP
 refine TE.blockPanic ?_
 refine TE.passPanic ?_
 refine TE.passPanic ?_
 refine TE.blockPanic ?_
 refine TE.passPanic ?_
 refine WK [0] ?_
 refine TE.panicked ?_
 exact ⟨_, rfl, rfl, by simp [viewP, pr, pb_some hp1, pb_some hp2, pb_some hp3, pb_some hp4, pb_some hp5, pb_some hp6, pb_none hpP]⟩
 obtain ⟨a7, r7, v7, rfl, rfl, hp7, ht7⟩ := hR
 have hf7 := ht7 _ hf6
 refine FA 2 Tryz.underlying44 sz42 ?_
 refine tp (PV.indexArr (r := 6) rfl Tryz.underlying42 sz3 rfl rfl (lz rfl) (lz rfl) rfl) ?_
 refine S0 1 sz3 ?_
 refine TL.nil ?_
 refine TE.blockEnd ?_
 refine TE.next J25 ?_
 refine TC.region ?_
 refine tp (PV.add (r := 5) rfl rfl rfl (by decide)) ?_
 refine PS ?_
 refine TL.nil ?_
 refine TE.again ?_
 refine sr fun _ J27 => ?_
 refine PS ?_
 refine nx J27 ?_
 refine TC.seq fun _ J28 => ?_
 refine CN ?_
 refine TC.exit ?_
 refine TE.pass ?_
 refine TE.pass ?_
 refine TE.hit ?_
 refine TE.next J5 ?_
 refine sr fun _ J29 => ?_
 refine tp (PV.loadN (vs := [(.int .i64 (a1)), (.int .i64 (a2)), (.int .i64 (a3)), (.int .i64 (a4)), (.int .i64 (a5)), (.int .i64 (a6)), (.int .i64 (a7))]) rfl Tryz.underlying44 rfl sz44 rfl (RO 1) rfl rfl) ?_
 refine TL.store (vs := [(.int .i64 (a1)), (.int .i64 (a2)), (.int .i64 (a3)), (.int .i64 (a4)), (.int .i64 (a5)), (.int .i64 (a6)), (.int .i64 (a7))]) (i := 2) (Want.plain rfl) rfl rfl rfl rfl rfl sz44 (by simp [Value.oneCell']) rfl rfl (lbe rfl) rfl rfl ?_
 refine nx J29 ?_
 refine TC.ret ?_
 refine TE.retC (H' := [blkA rb [v7] 202]) rfl rfl Tryz.underlying44 rfl sz44 (RO 2) rfl (fun _ s => sep_keep [0] rfl s) ?_
 exact ⟨⟨a1, a2, #v[a3, a4, a5, a6, a7]⟩, _, _, rfl, rfl, by simp [viewP, pr, pb_some hp1, pb_some hp2, pb_some hp3, pb_some hp4, pb_some hp5, pb_some hp6, pb_some hp7], (ht1.trans (ht2.trans (ht3.trans (ht4.trans (ht5.trans (ht6.trans ht7))))))⟩
theorem rchange_does (rb : Nat) (v : Value) (bs : List UInt8) :
    Leg.Does Tryz.prog 134 #[(.pointer (some ⟨rb, 0, none⟩))] (IsB v bs) [blkA rb [v] 202] (RdPost 202 giveUp ChangeT.val changeP v bs rb) := by
 refine Leg.Does.body (n := 14) Tryz.func134 rfl rfl rfl (fun w0 F hF => ?_)
 refine sr fun _ J1 => ?_
 refine TL.alloc (Want.plain rfl) rfl rfl rfl z28 (fun b2 => ?_)
 refine nx J1 (sr fun _ J2 => ?_)
 refine TL.alloc (Want.plain rfl) rfl rfl rfl z28 (fun b3 => ?_)
 refine nx J2 (sr fun _ J3 => ?_)
 refine PS ?_
 refine TL.callP (Want.plain rfl) rfl rfl rfl nm129 rfl (small_does rb v bs (2)) (fun _ s => sep_selR [2] rfl s) (fun _ d _ => (hF).more d) (fun cP HP hP => ?_) (fun vR HR hR => ?_)
 obtain ⟨vP, rfl, rfl, hpP⟩ := hP
 refine TE.passPanic ?_
 refine WK [0] ?_
 refine TE.panicked ?_
 exact ⟨_, rfl, rfl, by simp [changeP, pr, pb_none hpP]⟩
 obtain ⟨a1, r1, v1, rfl, rfl, hp1, ht1⟩ := hR
 have hf1 := ht1 _ hF
 refine FA 0 Tryz.underlying28 sz3 ?_
 refine S0 1 sz3 ?_
 refine nx J3 (sr fun _ J4 => ?_)
 refine PS ?_
 refine TL.callP (Want.plain rfl) rfl rfl rfl nm129 rfl (small_does rb v1 r1 (5)) (fun _ s => s) (fun _ d _ => (hf1).more d) (fun cP HP hP => ?_) (fun vR HR hR => ?_)
 obtain ⟨vP, rfl, rfl, hpP⟩ := hP
 refine TE.passPanic ?_
 refine WK [0] ?_
 refine TE.panicked ?_
 exact ⟨_, rfl, rfl, by simp [changeP, pr, pb_some hp1, pb_none hpP]⟩
 obtain ⟨a2, r2, v2, rfl, rfl, hp2, ht2⟩ := hR
 have hf2 := ht2 _ hf1
 refine FA 1 Tryz.underlying28 sz3 ?_
 refine S0 1 sz3 ?_
 refine nx J4 (sr fun _ J5 => ?_)
 refine PS ?_
 refine TL.callP (Want.plain rfl) rfl rfl rfl nm129 rfl (small_does rb v2 r2 (5)) (fun _ s => s) (fun _ d _ => (hf2).more d) (fun cP HP hP => ?_) (fun vR HR hR => ?_)
 obtain ⟨vP, rfl, rfl, hpP⟩ := hP
 refine TE.passPanic ?_
 refine WK [0] ?_
 refine TE.panicked ?_
 exact ⟨_, rfl, rfl, by simp [changeP, pr, pb_some hp1, pb_some hp2, pb_none hpP]⟩
 obtain ⟨a3, r3, v3, rfl, rfl, hp3, ht3⟩ := hR
 have hf3 := ht3 _ hf2
 refine FA 2 Tryz.underlying28 sz3 ?_
 refine S0 1 sz3 ?_
 refine nx J5 (sr fun _ J6 => ?_)
 refine tp (PV.loadN (vs := [(.int .i64 (a1)), (.int .i64 (a2)), (.int .i64 (a3))]) rfl Tryz.underlying28 rfl sz28 rfl (RO 1) rfl rfl) ?_
 refine TL.store (vs := [(.int .i64 (a1)), (.int .i64 (a2)), (.int .i64 (a3))]) (i := 2) (Want.plain rfl) rfl rfl rfl rfl rfl sz28 (by simp [Value.oneCell']) rfl rfl (lbe rfl) rfl rfl ?_
 refine nx J6 ?_
 refine TC.ret ?_
 refine TE.retC (H' := [blkA rb [v3] 202]) rfl rfl Tryz.underlying28 rfl sz28 (RO 2) rfl (fun _ s => sep_keep [0] rfl s) ?_
 exact ⟨⟨a1, a2, a3⟩, _, _, rfl, rfl, by simp [changeP, pr, pb_some hp1, pb_some hp2, pb_some hp3], (ht1.trans (ht2.trans ht3))⟩
theorem rballot_does (rb : Nat) (v : Value) (bs : List UInt8) :
    Leg.Does Tryz.prog 133 #[(.pointer (some ⟨rb, 0, none⟩))] (IsB v bs) [blkA rb [v] 202] (RdPost 202 giveUp BallotT.val ballotP v bs rb) := by
 refine Leg.Does.body (n := 11) Tryz.func133 rfl rfl rfl (fun w0 F hF => ?_)
 refine sr fun _ J1 => ?_
 refine TL.alloc (Want.plain rfl) rfl rfl rfl z95 (fun b2 => ?_)
 refine nx J1 (sr fun _ J2 => ?_)
 refine TL.alloc (Want.plain rfl) rfl rfl rfl z95 (fun b3 => ?_)
 refine nx J2 (sr fun _ J3 => ?_)
 refine PS ?_
 refine TL.callP (Want.plain rfl) rfl rfl rfl nm132 rfl (num_does rb v bs ) (fun _ s => sep_selR [2] rfl s) (fun _ d _ => (hF).more d) (fun cP HP hP => ?_) (fun vR HR hR => ?_)
 obtain ⟨vP, rfl, rfl, hpP⟩ := hP
 refine TE.passPanic ?_
 refine WK [0] ?_
 refine TE.panicked ?_
 exact ⟨_, rfl, rfl, by simp [ballotP, pr, pb_none hpP]⟩
 obtain ⟨a1, r1, v1, rfl, rfl, hp1, ht1⟩ := hR
 have hf1 := ht1 _ hF
 refine FA 0 Tryz.underlying95 sz3 ?_
 refine S0 1 sz3 ?_
 refine nx J3 (sr fun _ J4 => ?_)
 refine PS ?_
 refine TL.callP (Want.plain rfl) rfl rfl rfl nm129 rfl (small_does rb v1 r1 (5)) (fun _ s => s) (fun _ d _ => (hf1).more d) (fun cP HP hP => ?_) (fun vR HR hR => ?_)
 obtain ⟨vP, rfl, rfl, hpP⟩ := hP
 refine TE.passPanic ?_
 refine WK [0] ?_
 refine TE.panicked ?_
 exact ⟨_, rfl, rfl, by simp [ballotP, pr, pb_some hp1, pb_none hpP]⟩
 obtain ⟨a2, r2, v2, rfl, rfl, hp2, ht2⟩ := hR
 have hf2 := ht2 _ hf1
 refine FA 1 Tryz.underlying95 sz3 ?_
 refine S0 1 sz3 ?_
 refine nx J4 (sr fun _ J5 => ?_)
 refine tp (PV.loadN (vs := [(.int .i64 (a1)), (.int .i64 (a2))]) rfl Tryz.underlying95 rfl sz95 rfl (RO 1) rfl rfl) ?_
 refine TL.store (vs := [(.int .i64 (a1)), (.int .i64 (a2))]) (i := 2) (Want.plain rfl) rfl rfl rfl rfl rfl sz95 (by simp [Value.oneCell']) rfl rfl (lbe rfl) rfl rfl ?_
 refine nx J5 ?_
 refine TC.ret ?_
 refine TE.retC (H' := [blkA rb [v2] 202]) rfl rfl Tryz.underlying95 rfl sz95 (RO 2) rfl (fun _ s => sep_keep [0] rfl s) ?_
 exact ⟨⟨a1, a2⟩, _, _, rfl, rfl, by simp [ballotP, pr, pb_some hp1, pb_some hp2], (ht1.trans ht2)⟩
theorem rrow_does (rb : Nat) (v : Value) (bs : List UInt8) :
    Leg.Does Tryz.prog 130 #[(.pointer (some ⟨rb, 0, none⟩))] (IsB v bs) [blkA rb [v] 202] (RdPost 202 giveUp RowT.val rowP v bs rb) := by
 refine Leg.Does.body (n := 45) Tryz.func130 rfl rfl rfl (fun w0 F hF => ?_)
 refine sr fun _ J1 => ?_
 refine TL.alloc (Want.plain rfl) rfl rfl rfl z64 (fun b2 => ?_)
 change TL _ _ _ _ _ _ _ _ _ [blkA b2 (Api.ints Api.RowT.zero.flat) 64, blkA rb [v] 202]
 refine nx J1 (sr fun _ J2 => ?_)
 refine TL.alloc (Want.plain rfl) rfl rfl rfl z64 (fun b3 => ?_)
 change TL _ _ _ _ _ _ _ _ _ [blkA b3 (Api.ints Api.RowT.zero.flat) 64, blkA b2 (Api.ints Api.RowT.zero.flat) 64, blkA rb [v] 202]
 refine nx J2 (sr fun _ J3 => ?_)
 refine PS ?_
 refine TL.callP (Want.plain rfl) rfl rfl rfl nm132 rfl (num_does rb v bs ) (fun _ s => sep_selR [2] rfl s) (fun _ d _ => (hF).more d) (fun cP HP hP => ?_) (fun vR HR hR => ?_)
 obtain ⟨vP, rfl, rfl, hpP⟩ := hP
 refine TE.passPanic ?_
 refine WK [0] ?_
 refine TE.panicked ?_
 exact ⟨_, rfl, rfl, by rw [rowP, pb_none hpP]⟩
 obtain ⟨a1, r1, v1, rfl, rfl, hp1, ht1⟩ := hR
 have hf1 := ht1 _ hF
 refine FA 0 Tryz.underlying64 sz3 ?_
 refine TL.store (vs := [.int .i64 a1]) (i := 1) (Want.plain rfl) rfl rfl rfl rfl rfl sz3 (ints_one [a1]) rfl rfl (by rw [RowT.len]; show _ + 1 ≤ 174; omega) (RowT.wr_version _ _) rfl ?_
 refine nx J3 ?_
 refine TC.seq fun _ J4 => ?_
 refine sr fun _ J5 => ?_
 refine PS ?_
 refine nx J5 ?_
 refine TC.block ?_
 refine TC.loop (α := (Nat) × (RowT) × (Value) × (List UInt8)) (fun ⟨k, x, u, r⟩ => k ≤ 4 ∧ IsB u r F ∧ Tail v bs u r ∧ rowP bs = pb (cellsP (4 - k) k x) (heirsP 5 0) r) (fun ⟨k, x, u, r⟩ => [(0, (.pointer (some ⟨rb, 0, none⟩))), (2, (.pointer (some ⟨b2, 0, none⟩))), (3, (.pointer (some ⟨b3, 0, none⟩))), (10, (.int .i64 ((k : Nat))))]) (fun ⟨k, x, u, r⟩ => [blkA b3 (ints (x).flat) 64, blkA b2 (Api.ints Api.RowT.zero.flat) 64, blkA rb [u] 202]) (fun ⟨k, x, u, r⟩ => 4 - k) (0, ({ Api.RowT.zero with version := a1 } : RowT), v1, r1)
     ⟨by omega, hf1, ht1, by rw [rowP, pb_some hp1]⟩ (Sub.r (Sub.r (Sub.r (Sub.cons rfl (by congr 1) (Sub.nil _)))))
     (fun _ s => sep_keep [1, 1, 0] rfl s) (fun ⟨k, x, u, r⟩ hinv => ?_)
 obtain ⟨hk, hf, htl, hp⟩ := hinv
 refine sr fun _ J6 => ?_
 refine PS ?_
 refine TL.dec (fun h11 => ?_) (fun h11 => ?_)
 refine nx J6 ?_
 refine TC.seq fun _ J7 => ?_
 refine CY ?_
 refine CX J7 ?_
 refine TC.seq fun _ J8 => ?_
 refine TC.block ?_
 refine sr fun _ J9 => ?_
 refine PS ?_
 refine PS ?_
 refine nx J9 ?_
 refine TC.region ?_
 refine PS ?_
 refine PS ?_
 refine TL.callP (Want.plain rfl) rfl rfl rfl nm154 rfl (rcell_does rb u r ) (fun _ s => sep_selR [2] rfl s) (fun _ d _ => (hf).more d) (fun cP HP hP => ?_) (fun vR HR hR => ?_)
 obtain ⟨vP, rfl, rfl, hpP⟩ := hP
 refine TE.blockPanic ?_
 refine TE.passPanic ?_
 refine TE.passPanic ?_
 refine TE.blockPanic ?_
 refine TE.passPanic ?_
 refine WK [0] ?_
 refine TE.panicked ?_
 exact ⟨_, rfl, rfl, by rw [hp, cellsP_stop (by omega) hpP]⟩
 obtain ⟨a2, r2, v2, rfl, rfl, hp2, ht2⟩ := hR
 have hf2 := ht2 _ hf
 refine FA 1 Tryz.underlying64 sz61 ?_
 refine tp (PV.indexArr (r := 1 + k * 7) rfl Tryz.underlying61 sz60 rfl rfl (by omega) (by omega) (by omega)) ?_
 refine TL.store (vs := ints a2.flat) (i := 1) (Want.plain rfl) rfl rfl rfl rfl rfl (by rw [CellT.len]; exact sz60) (ints_one _) rfl rfl (by rw [RowT.len, CellT.len]; omega) (RowT.wr_cell _ k (by omega) _) rfl ?_
 refine TL.nil ?_
 refine TE.blockEnd ?_
 refine TE.next J8 ?_
 refine TC.region ?_
 refine tp (PV.add rfl rfl rfl (wrap_i64 (by omega) (by omega))) ?_
 refine PS ?_
 refine TL.nil ?_
 exact TE.round ((k + 1, ({ x with cells := (x).cells.set k a2 (by omega) } : RowT), v2, r2) : (Nat) × (RowT) × (Value) × (List UInt8)) ⟨by omega, hf2, (htl.trans ht2), by rw [hp, cellsP_step (by omega) hp2]⟩ (by show _ - _ < _ - _; omega)
   (Sub.r (Sub.r (Sub.r (Sub.r (Sub.nil _)))))
   (fun _ s => sep_keep [1, 1, 0] rfl s)
 refine nx J6 ?_
 refine TC.seq fun _ J10 => ?_
 refine CN ?_
 refine TC.exit ?_
 refine TE.pass ?_
 refine TE.pass ?_
 refine TE.hit ?_
 refine TE.next J4 ?_
 refine TC.seq fun _ J11 => ?_
 refine sr fun _ J12 => ?_
 refine PS ?_
 refine nx J12 ?_
 refine TC.block ?_
 refine TC.loop (α := (Nat) × (RowT) × (Value) × (List UInt8)) (fun ⟨i, x, u, r⟩ => i ≤ 5 ∧ IsB u r F ∧ Tail v bs u r ∧ rowP bs = heirsP (5 - i) i x r) (fun ⟨i, x, u, r⟩ => [(0, (.pointer (some ⟨rb, 0, none⟩))), (2, (.pointer (some ⟨b2, 0, none⟩))), (3, (.pointer (some ⟨b3, 0, none⟩))), (19, (.int .i64 ((i : Nat))))]) (fun ⟨i, x, u, r⟩ => [blkA b3 (ints (x).flat) 64, blkA b2 (Api.ints Api.RowT.zero.flat) 64, blkA rb [u] 202]) (fun ⟨i, x, u, r⟩ => 5 - i) (0, x, u, r)
     ⟨by omega, hf, htl, by rw [hp, cellsP_end (by omega)]⟩ (Sub.r (Sub.r (Sub.r (Sub.cons rfl (by congr 1) (Sub.nil _)))))
     (fun _ s => sep_keep [0, 0, 0] rfl s) (fun ⟨i, x, u, r⟩ hinv => ?_)
 obtain ⟨hi, hf, htl, hp⟩ := hinv
 refine sr fun _ J13 => ?_
 refine PS ?_
 refine TL.dec (fun h20 => ?_) (fun h20 => ?_)
 refine nx J13 ?_
 refine TC.seq fun _ J14 => ?_
 refine CY ?_
 refine CX J14 ?_
 refine TC.seq fun _ J15 => ?_
 refine TC.block ?_
 refine sr fun _ J16 => ?_
 refine PS ?_
 refine PS ?_
 refine nx J16 (sr fun _ J17 => ?_)
 refine PS ?_
 refine PS ?_
 refine TL.callP (Want.plain rfl) rfl rfl rfl nm132 rfl (num_does rb u r ) (fun _ s => sep_selR [2] rfl s) (fun _ d _ => (hf).more d) (fun cP HP hP => ?_) (fun vR HR hR => ?_)
 obtain ⟨vP, rfl, rfl, hpP⟩ := hP
 refine TE.passPanic ?_
 refine TE.blockPanic ?_
 refine TE.passPanic ?_
 refine TE.passPanic ?_
 refine TE.blockPanic ?_
 refine TE.passPanic ?_
 refine WK [0] ?_
 refine TE.panicked ?_
 exact ⟨_, rfl, rfl, by rw [hp, heirsP_stop (by omega) hpP]⟩
 obtain ⟨a2, r2, v2, rfl, rfl, hp2, ht2⟩ := hR
 have hf2 := ht2 _ hf
 refine FA 29 Tryz.underlying64 sz42 ?_
 refine tp (PV.indexArr (r := 29 + i) rfl Tryz.underlying42 sz3 rfl rfl (by omega) (by omega) (by omega)) ?_
 refine TL.store (vs := [.int .i64 a2]) (i := 1) (Want.plain rfl) rfl rfl rfl rfl rfl sz3 (ints_one [a2]) rfl rfl (by rw [RowT.len]; show _ + 1 ≤ 174; omega) (RowT.wr_heir _ i (by omega) _) rfl ?_
 refine nx J17 (sr fun _ J18 => ?_)
 refine PS ?_
 refine FA 29 Tryz.underlying64 sz42 ?_
 refine tp (PV.indexArr (r := 29 + i) rfl Tryz.underlying42 sz3 rfl rfl (by omega) (by omega) (by omega)) ?_
 refine tp (PV.load1 (v := (.int .i64 (a2))) rfl Tryz.underlying3 rfl rfl (RO 1) (by rw [RowT.get_heir _ i (by omega)]; simp)) ?_
 refine PS ?_
 refine TL.dec (fun h31 => ?_) (fun h31 => ?_)
 refine nx J18 ?_
 refine CY ?_
 refine sr fun _ J19 => ?_
 refine PS ?_
 refine nx J19 ?_
 refine TC.block ?_
 refine TC.loop (α := (Nat) × (RowT) × (Value) × (List UInt8)) (fun ⟨k, y, uL, rL⟩ => k ≤ 4 ∧ IsB uL rL F ∧ Tail v bs uL rL ∧ rowP bs = pb (leftP (4 - k) i k y) (heirsP (5 - (i + 1)) (i + 1)) rL) (fun ⟨k, y, uL, rL⟩ => [(0, (.pointer (some ⟨rb, 0, none⟩))), (2, (.pointer (some ⟨b2, 0, none⟩))), (3, (.pointer (some ⟨b3, 0, none⟩))), (5, (.int .i64 ((i : Nat)))), (19, (.int .i64 ((i : Nat)))), (32, (.int .i64 ((k : Nat))))]) (fun ⟨k, y, uL, rL⟩ => [blkA b3 (ints (y).flat) 64, blkA b2 (Api.ints Api.RowT.zero.flat) 64, blkA rb [uL] 202]) (fun ⟨k, y, uL, rL⟩ => 4 - k) (0, ({ x with heir := (x).heir.set i a2 } : RowT), v2, r2)
     ⟨by omega, hf2, (htl.trans ht2), by rw [hp, heirsP_yes (by omega) hp2 h31]⟩ (Sub.r (Sub.r (Sub.r (Sub.r (Sub.r (Sub.cons rfl (by congr 1) (Sub.nil _)))))))
     (fun _ s => sep_keep [1, 1, 0] rfl s) (fun ⟨k, y, uL, rL⟩ hinv => ?_)
 obtain ⟨hk, hfL, htlL, hpL⟩ := hinv
 refine sr fun _ J20 => ?_
 refine PS ?_
 refine TL.dec (fun h33 => ?_) (fun h33 => ?_)
 refine nx J20 ?_
 refine TC.seq fun _ J21 => ?_
 refine CY ?_
 refine CX J21 ?_
 refine TC.seq fun _ J22 => ?_
 refine TC.block ?_
 refine sr fun _ J23 => ?_
 refine PS ?_
 refine PS ?_
 refine nx J23 ?_
 refine D0 mixed ?_
 refine PD 0 ?_
 refine PD 1 ?_
 refine PD 2 ?_
 refine FD 4 34 Tryz.underlying64 sz62 ?_
 refine ta 5 rfl (PV.indexArr (r := 34 + i * 28) rfl Tryz.underlying62 sz61 rfl rfl (by omega) (by omega) (by omega)) ?_
 refine TD.all [3] (by kernel_rfl) rfl ?_
 refine AllT.cons rfl ?_ ?_
 refine TL.callP (Want.plain rfl) rfl rfl rfl nm154 rfl (rcell_does rb uL rL ) (fun _ s => sep_selR [2] rfl s) (fun _ d _ => (hfL).more d) (fun cP HP hP => ?_) (fun vR HR hR => ?_)
 obtain ⟨vP, rfl, rfl, hpP⟩ := hP
 refine TE.passPanic ?_
 refine TE.blockPanic ?_
 refine TE.passPanic ?_
 refine TE.passPanic ?_
 refine TE.blockPanic ?_
 refine TE.blockPanic ?_
 refine TE.passPanic ?_
 refine TE.passPanic ?_
 refine TE.blockPanic ?_
 refine TE.passPanic ?_
 refine WK [0] ?_
 refine TE.panicked ?_
 exact ⟨_, rfl, rfl, by rw [hpL, leftP_stop (by omega) hpP]⟩
 obtain ⟨a3, r3, v3, rfl, rfl, hp3, ht3⟩ := hR
 have hf3 := ht3 _ hfL
 refine TL.nil ?_
 refine E0 ?_
 refine ta 6 rfl (PV.indexArr (r := 34 + i * 28 + k * 7) rfl Tryz.underlying61 sz60 rfl rfl (by omega) (by omega) (by omega)) ?_
 refine TD.all [7] (by kernel_rfl) rfl ?_
 refine AllT.cons rfl ?_ ?_
 refine TL.store (vs := ints a3.flat) (i := 1) (Want.plain rfl) rfl rfl rfl rfl rfl (by rw [CellT.len]; exact sz60) (ints_one _) rfl rfl (by rw [RowT.len, CellT.len]; omega) (RowT.wr_left _ i k (by omega) (by omega) _) rfl ?_
 refine TL.nil ?_
 refine E0 ?_
 refine TD.done (by kernel_rfl) ?_
 refine TE.blockEnd ?_
 refine TE.next J22 ?_
 refine TC.region ?_
 refine tp (PV.add rfl rfl rfl (wrap_i64 (by omega) (by omega))) ?_
 refine PS ?_
 refine TL.nil ?_
 exact TE.round ((k + 1, ({ y with left := (y).left.set i (((y).left[i]'(by omega)).set k a3 (by omega)) (by omega) } : RowT), v3, r3) : (Nat) × (RowT) × (Value) × (List UInt8)) ⟨by omega, hf3, (htlL.trans ht3), by rw [hpL, leftP_step (by omega) (by omega) hp3]⟩ (by show _ - _ < _ - _; omega)
   (Sub.r (Sub.r (Sub.r (Sub.r (Sub.r (Sub.r (Sub.nil _)))))))
   (fun _ s => sep_keep [1, 1, 0] rfl s)
 exact AllT.nil
 exact AllT.nil
 refine nx J20 ?_
 refine TC.seq fun _ J24 => ?_
 refine CN ?_
 refine TC.exit ?_
 refine TE.pass ?_
 refine TE.pass ?_
 refine TE.hit ?_
 refine TE.blockEnd ?_
 refine TE.next J15 ?_
 refine TC.region ?_
 refine tp (PV.add rfl rfl rfl (wrap_i64 (by omega) (by omega))) ?_
 refine PS ?_
 refine TL.nil ?_
 exact TE.round ((i + 1, y, uL, rL) : (Nat) × (RowT) × (Value) × (List UInt8)) ⟨by omega, hfL, htlL, by rw [hpL, leftP_end (by omega)]⟩ (by show _ - _ < _ - _; omega)
   (Sub.r (Sub.r (Sub.r (Sub.r (Sub.nil _)))))
   (fun _ s => sep_keep [0, 0, 0] rfl s)
 refine nx J18 ?_
 refine CN ?_
 refine TC.skip ?_
 refine TE.blockEnd ?_
 refine TE.next J15 ?_
 refine TC.region ?_
 refine tp (PV.add rfl rfl rfl (wrap_i64 (by omega) (by omega))) ?_
 refine PS ?_
 refine TL.nil ?_
 exact TE.round ((i + 1, ({ x with heir := (x).heir.set i a2 } : RowT), v2, r2) : (Nat) × (RowT) × (Value) × (List UInt8)) ⟨by omega, hf2, (htl.trans ht2), by rw [hp, heirsP_no (by omega) hp2 h31]⟩ (by show _ - _ < _ - _; omega)
   (Sub.r (Sub.r (Sub.r (Sub.r (Sub.nil _)))))
   (fun _ s => sep_keep [1, 1, 0] rfl s)
 refine nx J13 ?_
 refine TC.seq fun _ J25 => ?_
 refine CN ?_
 refine TC.exit ?_
 refine TE.pass ?_
 refine TE.pass ?_
 refine TE.hit ?_
 refine TE.next J11 ?_
 refine sr fun _ J26 => ?_
 refine tp (PV.loadN (vs := ints (x).flat) rfl Tryz.underlying64 rfl sz64 rfl (RO 0) (RowT.len _) (by rw [List.drop_zero, List.take_of_length_le (by rw [RowT.len]; decide)])) ?_
 refine TL.store (vs := ints (x).flat) (i := 1) (Want.plain rfl) rfl rfl rfl rfl rfl (by rw [RowT.len]; exact sz64) (ints_one _) rfl rfl (by rw [RowT.len, Nat.zero_add, RowT.len]; decide) (wr_whole (by rw [RowT.len, RowT.len])) rfl ?_
 refine nx J26 ?_
 refine TC.ret ?_
 refine TE.retC (H' := [blkA rb [u] 202]) rfl rfl Tryz.underlying64 rfl sz64 (RO 1) (RowT.len _) (fun _ s => sep_keep [2] rfl s) ?_
 exact ⟨x, _, _, rfl, rfl, by rw [hp, heirsP_end (by omega)], htl⟩
end Go.Proofs.YtobdfjdoilnfcaaGreat
end

section
namespace Go.Proofs.YtobdfjdoilnfcaaGreat

open Go Leg Codec Api

set_option linter.unusedSimpArgs false
set_option linter.unusedVariables false

set_option maxRecDepth 100000

set_option maxHeartbeats 8000000

theorem numRight_does (n : Int) :
    Leg.Does Tryz.prog 156 #[(.int .i64 (n))] (fun _ => True) [] (Ret (fun r' H => r' = .bool (okN n) ∧ H = [])) := by
 refine Leg.Does.body (n := 9) Tryz.func156 rfl rfl rfl (fun w0 F hF => ?_)
 refine sr fun _ J1 => ?_
 refine PS ?_
 refine nx J1 (sr fun _ J2 => ?_)
 refine PS ?_
 refine PS ?_
 refine TL.dec (fun h4 => ?_) (fun h4 => ?_)
 refine PS ?_
 refine PS ?_
 refine PS ?_
 refine PS ?_
 refine PS ?_
 refine nx J2 ?_
 refine TC.ret ?_
 refine TE.ret1 rfl rfl ?_
 exact ⟨congrArg Value.bool (by unfold okN; first | (rw [decide_eq_decide]; omega) | (symm; rw [decide_eq_false_iff_not]; omega) | (symm; rw [decide_eq_true_iff]; omega)), rfl⟩
 refine PS ?_
 refine UF ?_
 refine UF ?_
 refine PS ?_
 refine PS ?_
 refine nx J2 ?_
 refine TC.ret ?_
 refine TE.ret1 rfl rfl ?_
 exact ⟨congrArg Value.bool (by unfold okN; first | (rw [decide_eq_decide]; omega) | (symm; rw [decide_eq_false_iff_not]; omega) | (symm; rw [decide_eq_true_iff]; omega)), rfl⟩
theorem vmachine_does (w : Int) :
    Leg.Does Tryz.prog 48 #[(.int .i64 (w))] (fun _ => True) [] (Ret (fun r' H => r' = .bool (machB w) ∧ H = [])) := by
 refine Leg.Does.body (n := 9) Tryz.func48 rfl rfl rfl (fun w0 F hF => ?_)
 refine sr fun _ J1 => ?_
 refine PS ?_
 refine nx J1 (sr fun _ J2 => ?_)
 refine PS ?_
 refine PS ?_
 refine TL.dec (fun h4 => ?_) (fun h4 => ?_)
 refine PS ?_
 refine PS ?_
 refine PS ?_
 refine PS ?_
 refine PS ?_
 refine nx J2 ?_
 refine TC.ret ?_
 refine TE.ret1 rfl rfl ?_
 exact ⟨congrArg Value.bool (by unfold machB; first | (rw [decide_eq_decide]; omega) | (symm; rw [decide_eq_false_iff_not]; omega) | (symm; rw [decide_eq_true_iff]; omega)), rfl⟩
 refine PS ?_
 refine UF ?_
 refine UF ?_
 refine PS ?_
 refine PS ?_
 refine nx J2 ?_
 refine TC.ret ?_
 refine TE.ret1 rfl rfl ?_
 exact ⟨congrArg Value.bool (by unfold machB; first | (rw [decide_eq_decide]; omega) | (symm; rw [decide_eq_false_iff_not]; omega) | (symm; rw [decide_eq_true_iff]; omega)), rfl⟩
theorem member_does (v : ViewT) (w : Int) :
    Leg.Does Tryz.prog 32 #[(.agg (ints v.flat).toArray), (.int .i64 (w))] (fun _ => True) [] (Ret (fun r' H => r' = .bool (memb v w) ∧ H = [])) := by
 refine Leg.Does.body (n := 15) Tryz.func32 rfl rfl rfl (fun w0 F hF => ?_)
 refine sr fun _ J1 => ?_
 refine TL.box (Want.plain rfl) rfl rfl rfl rfl (fun b2 => ?_)
 change TL _ _ _ _ _ _ _ _ _ [blkA b2 (ints v.flat) 44]
 refine PS ?_
 refine nx J1 (sr fun _ J2 => ?_)
 refine PS ?_
 refine CR nm48 (vmachine_does w) (fun _ s => s) fun vR HR hR => ?_
 obtain ⟨rfl, rfl⟩ := hR
 refine TL.decB (fun h6 => ?_) (fun h6 => ?_)
 have hm : 0 ≤ w ∧ w < 5 := of_decide_eq_true h6
 refine PS ?_
 refine FA 1 Tryz.underlying44 sz3 ?_
 refine tq (PV.load1 (v := (.int .i64 (v.members))) rfl Tryz.underlying3 rfl rfl (RO 0) (ViewT.at_members v rfl)) ?_
 refine PS ?_
 refine tq (PV.shr (r := (v.members.fdiv (2 ^ min w.toNat IntKind.i64.bits))) rfl rfl rfl (by omega) rfl) ?_
 refine tq (PV.and (r := ((v.members.fdiv (2 ^ min w.toNat IntKind.i64.bits)) % 2)) rfl rfl rfl (bit_one _)) ?_
 refine PS ?_
 refine PS ?_
 refine PS ?_
 refine nx J2 ?_
 refine TC.ret ?_
 refine WK [] ?_
 refine TE.ret1 rfl rfl ?_
 exact ⟨congrArg Value.bool (by rw [memb, h6]; rfl), rfl⟩
 refine PS ?_
 refine UF ?_
 refine UF ?_
 refine UF ?_
 refine UF ?_
 refine UF ?_
 refine UF ?_
 refine PS ?_
 refine PS ?_
 refine nx J2 ?_
 refine TC.ret ?_
 refine WK [] ?_
 refine TE.ret1 rfl rfl ?_
 exact ⟨congrArg Value.bool (by rw [memb, h6]; rfl), rfl⟩
theorem numAdd_cells (b off cap : Nat) (l : List Int) (hl : l.length ≤ 1000) (cs : List Value) (T : TypeId) (z : Nat × Nat) (hb : ∀ j, j < l.length → cs[off + j]? = some (.int .i64 (l.getD j 0))) :
    Leg.Does Tryz.prog 170 #[(.slice (some ⟨b, off, none⟩) (l.length) (cap))] (fun F => F b = some (.cells cs.toArray T z)) [] (Ret (fun r' H => r' = .tuple #[.int .i64 (addE l 0).1, .int .i64 (addE l 0).2] ∧ H = [])) := by
 refine Leg.Does.body (n := 25) Tryz.func170 rfl rfl rfl (fun w0 F hF => ?_)
 refine sr fun _ J1 => ?_
 refine PS ?_
 refine PS ?_
 refine nx J1 (sr fun _ J2 => ?_)
 refine PS ?_
 refine nx J2 ?_
 refine TC.seq fun _ J3 => ?_
 refine sr fun _ J4 => ?_
 refine PS ?_
 refine tp (PV.lenSl rfl Tryz.underlying50 rfl) ?_
 refine PS ?_
 refine nx J4 ?_
 refine TC.block ?_
 refine TC.loop (α := (Nat) × (Int)) (fun ⟨k, s⟩ => k ≤ l.length ∧ 0 ≤ s ∧ s ≤ 1099511627776 ∧ addE l 0 = addE (l.drop k) s) (fun ⟨k, s⟩ => [(4, (.int .i64 (s))), (7, (.slice (some ⟨b, off, none⟩) (l.length) (cap))), (8, (.int .i64 (((l.length : Nat) : Int)))), (9, (.int .i64 (((k : Nat) : Int))))]) (fun ⟨k, s⟩ => []) (fun ⟨k, s⟩ => l.length - k) (0, 0)
     ⟨Nat.zero_le _, by omega, by omega, rfl⟩ (Sub.cons rfl (by congr 1) (Sub.r (Sub.r (Sub.cons rfl (by congr 1) (Sub.nil _)))))
     (fun _ s => s) (fun ⟨k, s⟩ hinv => ?_)
 obtain ⟨hk, hs0, hs1, he⟩ := hinv
 refine sr fun _ J5 => ?_
 refine PS ?_
 refine TL.dec (fun h10 => ?_) (fun h10 => ?_)
 refine nx J5 ?_
 refine TC.seq fun _ J6 => ?_
 refine CY ?_
 refine CX J6 ?_
 refine TC.seq fun _ J7 => ?_
 refine TC.block ?_
 refine sr fun _ J8 => ?_
 refine tp (PV.indexSl (r := off + k) rfl Tryz.underlying50 sz3 rfl rfl (by first | omega | decide) (by first | omega | decide) (by omega)) ?_
 refine tp (PV.load1 (v := (.int .i64 ((l.getD k 0)))) rfl Tryz.underlying3 rfl rfl (Rd.ro hF) (hb k (by omega))) ?_
 refine PS ?_
 refine nx J8 ?_
 refine TC.seq fun _ J9 => ?_
 refine sr fun _ J10 => ?_
 refine PS ?_
 refine CR nm156 (numRight_does (l.getD k 0)) (fun _ s => s) fun vR HR hR => ?_
 obtain ⟨rfl, rfl⟩ := hR
 refine TL.decB (fun h14 => ?_) (fun h14 => ?_)
 have hn : 0 ≤ l.getD k 0 ∧ l.getD k 0 ≤ 1099511627776 := of_decide_eq_true h14
 refine tp (PV.not (r := false) rfl rfl rfl) ?_
 refine nx J10 ?_
 refine CN ?_
 refine CX J9 ?_
 refine TC.seq fun _ J11 => ?_
 refine sr fun _ J12 => ?_
 refine PS ?_
 refine PS ?_
 refine tp (PV.sub rfl rfl rfl (wrap_i64 (by omega) (by omega))) ?_
 refine PS ?_
 refine TL.dec (fun h19 => ?_) (fun h19 => ?_)
 refine nx J12 ?_
 refine CY ?_
 refine sr fun _ J13 => ?_
 refine PS ?_
 refine PS ?_
 refine nx J13 ?_
 refine TC.ret ?_
 refine TE.passRet ?_
 refine TE.blockRet ?_
 refine TE.passRet ?_
 refine TE.passRet ?_
 refine TE.blockRet ?_
 refine TE.passRet ?_
 refine WK [] ?_
 refine TE.ret2 rfl rfl rfl ?_
 exact ⟨by rw [he, add_step (show k < l.length by omega), if_pos h14, if_pos (by omega)], rfl⟩
 refine nx J12 ?_
 refine CN ?_
 refine CX J11 ?_
 refine TC.region ?_
 refine PS ?_
 refine PS ?_
 refine tp (PV.add rfl rfl rfl (wrap_i64 (by omega) (by omega))) ?_
 refine PS ?_
 refine TL.nil ?_
 refine TE.blockEnd ?_
 refine TE.next J7 ?_
 refine TC.region ?_
 refine tp (PV.add rfl rfl rfl (wrap_i64 (by omega) (by omega))) ?_
 refine PS ?_
 refine TL.nil ?_
 exact TE.round ((k + 1, s + l.getD k 0) : (Nat) × (Int)) ⟨by omega, by omega, by omega, by rw [he, add_step (show k < l.length by omega), if_pos h14, if_neg (by omega)]⟩ (by show l.length - (k + 1) < l.length - k; omega)
   (Sub.r (Sub.r (Sub.r (Sub.cons rfl (by simp) (Sub.nil _)))))
   (fun _ s => s)
 refine tp (PV.not (r := true) rfl rfl rfl) ?_
 refine nx J10 ?_
 refine CY ?_
 refine sr fun _ J14 => ?_
 refine PS ?_
 refine PS ?_
 refine nx J14 ?_
 refine TC.ret ?_
 refine TE.passRet ?_
 refine TE.blockRet ?_
 refine TE.passRet ?_
 refine TE.passRet ?_
 refine TE.blockRet ?_
 refine TE.passRet ?_
 refine WK [] ?_
 refine TE.ret2 rfl rfl rfl ?_
 exact ⟨by rw [he, add_step (show k < l.length by omega), if_neg (by rw [h14]; decide)], rfl⟩
 refine nx J5 ?_
 refine TC.seq fun _ J15 => ?_
 refine CN ?_
 refine TC.exit ?_
 refine TE.pass ?_
 refine TE.pass ?_
 refine TE.hit ?_
 refine TE.next J3 ?_
 refine sr fun _ J16 => ?_
 refine PS ?_
 refine PS ?_
 refine PS ?_
 refine nx J16 ?_
 refine TC.ret ?_
 refine WK [] ?_
 refine TE.ret2 rfl rfl rfl ?_
 exact ⟨by rw [he, List.drop_eq_nil_of_le (by omega)]; rfl, rfl⟩
theorem numAdd_nil  :
    Leg.Does Tryz.prog 170 #[(.slice none 0 0)] (fun _ => True) [] (Ret (fun r' H => r' = .tuple #[.int .i64 (addE [] 0).1, .int .i64 (addE [] 0).2] ∧ H = [])) := by
 refine Leg.Does.body (n := 25) Tryz.func170 rfl rfl rfl (fun w0 F hF => ?_)
 refine sr fun _ J1 => ?_
 refine PS ?_
 refine PS ?_
 refine nx J1 (sr fun _ J2 => ?_)
 refine PS ?_
 refine nx J2 ?_
 refine TC.seq fun _ J3 => ?_
 refine sr fun _ J4 => ?_
 refine PS ?_
 refine tp (PV.lenSl rfl Tryz.underlying50 rfl) ?_
 refine PS ?_
 refine nx J4 ?_
 refine TC.block ?_
 refine TC.loop (α := Unit) (fun _u => True) (fun _u => [(4, (.int .i64 0)), (7, (.slice none 0 0)), (8, (.int .i64 0)), (9, (.int .i64 0))]) (fun _u => []) (fun _u => 0) ()
     trivial (Sub.r (Sub.r (Sub.r (Sub.r (Sub.nil _)))))
     (fun _ s => s) (fun _u hinv => ?_)
 obtain _ := hinv
 refine sr fun _ J5 => ?_
 refine PS ?_
 refine nx J5 ?_
 refine TC.seq fun _ J6 => ?_
 refine CN ?_
 refine TC.exit ?_
 refine TE.pass ?_
 refine TE.pass ?_
 refine TE.hit ?_
 refine TE.next J3 ?_
 refine sr fun _ J7 => ?_
 refine PS ?_
 refine PS ?_
 refine PS ?_
 refine nx J7 ?_
 refine TC.ret ?_
 refine WK [] ?_
 refine TE.ret2 rfl rfl rfl ?_
 exact ⟨rfl, rfl⟩
theorem numAdd_does (x : Value) (l : List Int) (hl : l.length ≤ 1000) : Leg.Does Tryz.prog 170 #[x] (IsN x l) [] (Ret (fun r' H => r' = .tuple #[.int .i64 (addE l 0).1, .int .i64 (addE l 0).2] ∧ H = [])) := by
  refine Leg.Does.of fun F hF => ?_
  rcases id hF with ⟨rfl, rfl⟩ | ⟨b, off, cap, cs, T, z, rfl, h3, h4⟩
  · exact ⟨_, trivial, numAdd_nil⟩
  · exact ⟨_, h3, numAdd_cells b off cap l hl cs T z h4⟩

theorem rightCells_does (x : Vector CellT 4) :
    Leg.Does Tryz.prog 155 #[(.agg (ints (flats x.toList)).toArray)] (fun _ => True) [] (Ret (fun r' H => r' = .bool (okCs x) ∧ H = [])) := by
 refine Leg.Does.body (n := 30) Tryz.func155 rfl rfl rfl (fun w0 F hF => ?_)
 refine sr fun _ J1 => ?_
 refine TL.box (Want.plain rfl) rfl rfl rfl rfl (fun b1 => ?_)
 change TL _ _ _ _ _ _ _ _ _ [blkA b1 (ints (flats x.toList)) 61]
 refine PS ?_
 refine nx J1 ?_
 clear J1
 refine TC.seq fun _ J2 => ?_
 refine sr fun _ J3 => ?_
 refine tp (PV.loadN (vs := ints (flats x.toList)) rfl Tryz.underlying61 rfl sz61 rfl (RO 0) (vs4_len x) (whole (vs4_len x))) ?_
 refine PS ?_
 refine nx J3 ?_
 clear J3
 refine TC.block ?_
 refine TC.loop (α := (Nat)) (fun k => k ≤ 4 ∧ ∀ (j : Nat) (h : j < 4), j < k → okC x[j] = true) (fun k => [(7, (.agg (ints (flats x.toList)).toArray)), (8, (.int .i64 (((k : Nat) : Int))))]) (fun k => [blkA b1 (ints (flats x.toList)) 61]) (fun k => 4 - k) 0
     ⟨Nat.zero_le _, fun j h hj => absurd hj (by omega)⟩ (Sub.r (Sub.cons rfl (by congr 1) (Sub.nil _)))
     (fun _ s => s) (fun k hinv => ?_)
 obtain ⟨hk, ho⟩ := hinv
 refine sr fun _ J4 => ?_
 refine PS ?_
 refine TL.dec (fun h9 => ?_) (fun h9 => ?_)
 refine nx J4 ?_
 clear J4
 refine TC.seq fun _ J5 => ?_
 refine CY ?_
 refine CX J5 ?_
 clear J5
 refine TC.seq fun _ J6 => ?_
 refine TC.block ?_
 refine sr fun _ J7 => ?_
 refine tp (PV.indexN (cs := ints (flats x.toList)) (vs := ints (x[k]'(by omega)).flat) (r := k * 7) rfl Tryz.underlying61 Tryz.underlying60 rfl sz60 rfl rfl (by omega) (by omega) (by omega) (vs_sub CellT.flat_length x (i := k) 0 (by omega) (by omega) (by decide) (whole (CellT.len (x[k]'(by omega)))))) ?_
 refine TL.alloc (Want.plain rfl) rfl rfl rfl z60 (fun b4 => ?_)
 change TL _ _ _ _ _ _ _ _ _ [blkA b4 (ints CellT.zero.flat) 60, blkA b1 (ints (flats x.toList)) 61]
 refine TL.store (vs := ints (x[k]'(by omega)).flat) (i := 0) (Want.plain rfl) rfl rfl rfl rfl rfl (by rw [(CellT.len (x[k]'(by omega)))]; exact sz60) (ints_one _) rfl rfl (by have h0 := (CellT.len CellT.zero); have h1 := (CellT.len (x[k]'(by omega))); omega) (wwhole ((CellT.len CellT.zero).trans (CellT.len (x[k]'(by omega))).symm)) rfl ?_
 refine nx J7 ?_
 clear J7
 refine TC.seq fun _ J8 => ?_
 refine sr fun _ J9 => ?_
 refine FA 0 Tryz.underlying60 sz3 ?_
 refine tp (PV.load1 (v := (.int .i64 ((x[k]'(by omega)).inn))) rfl Tryz.underlying3 rfl rfl (RO 0) (CellT.at_inn _ rfl)) ?_
 refine CR nm156 (numRight_does ((x[k]'(by omega)).inn)) (fun _ s => s) fun vR HR hR => ?_
 obtain ⟨rfl, rfl⟩ := hR
 refine TL.decB (fun h13 => ?_) (fun h13 => ?_)
 refine tp (PV.not (r := false) rfl rfl rfl) ?_
 refine PS ?_
 refine FA 1 Tryz.underlying60 sz3 ?_
 refine tq (PV.load1 (v := (.int .i64 ((x[k]'(by omega)).out))) rfl Tryz.underlying3 rfl rfl (RO 0) (CellT.at_out _ rfl)) ?_
 refine CR nm156 (numRight_does ((x[k]'(by omega)).out)) (fun _ s => s) fun vR HR hR => ?_
 obtain ⟨rfl, rfl⟩ := hR
 refine TL.decB (fun h18 => ?_) (fun h18 => ?_)
 refine tq (PV.not (r := false) rfl rfl rfl) ?_
 refine PS ?_
 refine nx J9 ?_
 clear J9
 refine CN ?_
 refine CX J8 ?_
 clear J8
 refine sr fun _ J10 => ?_
 refine FA 2 Tryz.underlying60 sz42 ?_
 refine tp (PV.sliceArr rfl Tryz.underlying42 sz3 rfl) ?_
 refine CQ nm170 (numAdd_does (.slice (some ⟨b4, 2, none⟩) (5) (5)) ((x[k]'(by omega)).given).toList (by simp)) (fun _ s => s) (isN_piece 0 rfl rfl (by simp) (by rw [Vector.length_toList]; exact (CellT.sub_given (x[k]'(by omega)) 0 rfl (by decide) (whole (vi5_len ((x[k]'(by omega)).given)))))) fun vR HR hR => ?_
 obtain ⟨rfl, rfl⟩ := hR
 refine PS ?_
 refine tp (PV.extract (vs := [(.int .i64 ((addE ((x[k]'(by omega)).given).toList 0).1)), (.int .i64 ((addE ((x[k]'(by omega)).given).toList 0).2))]) rfl rfl rfl) ?_
 refine tp (PV.extract (vs := [(.int .i64 ((addE ((x[k]'(by omega)).given).toList 0).1)), (.int .i64 ((addE ((x[k]'(by omega)).given).toList 0).2))]) rfl rfl rfl) ?_
 refine PS ?_
 refine PS ?_
 refine nx J10 ?_
 clear J10
 refine sr fun _ J11 => ?_
 refine PS ?_
 refine PS ?_
 refine TL.dec (fun h28 => ?_) (fun h28 => ?_)
 refine nx J11 ?_
 clear J11
 refine CY ?_
 refine sr fun _ J12 => ?_
 refine PS ?_
 refine nx J12 ?_
 clear J12
 refine TC.ret ?_
 refine TE.blockRet ?_
 refine TE.passRet ?_
 clear J6
 refine TE.passRet ?_
 refine TE.blockRet ?_
 refine TE.passRet ?_
 clear J2
 refine WK [] ?_
 refine TE.ret1 rfl rfl ?_
 refine ⟨congrArg Value.bool ?_, rfl⟩
 symm
 rw [okCs, decide_eq_false_iff_not]
 intro h
 have h := h k (by omega)
 unfold okC at h
 simp at h; exact absurd h.2 h28
 refine nx J11 ?_
 clear J11
 refine CN ?_
 refine TC.skip ?_
 refine TE.blockEnd ?_
 refine TE.next J6 ?_
 clear J6
 refine TC.region ?_
 refine tp (PV.add rfl rfl rfl (wrap_i64 (by omega) (by omega))) ?_
 refine PS ?_
 refine TL.nil ?_
 exact TE.round ((k + 1) : (Nat)) ⟨by omega, fun j h hj => by
        by_cases q : j = k
        · subst q; unfold okC; simp_all
        · exact ho j h (by omega)⟩ (by show 4 - (k + 1) < 4 - k; omega)
   (Sub.r (Sub.cons rfl (by simp) (Sub.nil _)))
   (fun _ s => sep_keep [1] rfl s)
 refine tq (PV.not (r := true) rfl rfl rfl) ?_
 refine PS ?_
 refine nx J9 ?_
 clear J9
 refine CY ?_
 refine sr fun _ J13 => ?_
 refine PS ?_
 refine nx J13 ?_
 clear J13
 refine TC.ret ?_
 refine TE.passRet ?_
 clear J8
 refine TE.blockRet ?_
 refine TE.passRet ?_
 clear J6
 refine TE.passRet ?_
 refine TE.blockRet ?_
 refine TE.passRet ?_
 clear J2
 refine WK [] ?_
 refine TE.ret1 rfl rfl ?_
 refine ⟨congrArg Value.bool ?_, rfl⟩
 symm
 rw [okCs, decide_eq_false_iff_not]
 intro h
 have h := h k (by omega)
 unfold okC at h
 simp [h18] at h
 refine tp (PV.not (r := true) rfl rfl rfl) ?_
 refine PS ?_
 refine UT ?_
 refine UT ?_
 refine UT ?_
 refine UT ?_
 refine PS ?_
 refine nx J9 ?_
 clear J9
 refine CY ?_
 refine sr fun _ J14 => ?_
 refine PS ?_
 refine nx J14 ?_
 clear J14
 refine TC.ret ?_
 refine TE.passRet ?_
 clear J8
 refine TE.blockRet ?_
 refine TE.passRet ?_
 clear J6
 refine TE.passRet ?_
 refine TE.blockRet ?_
 refine TE.passRet ?_
 clear J2
 refine WK [] ?_
 refine TE.ret1 rfl rfl ?_
 refine ⟨congrArg Value.bool ?_, rfl⟩
 symm
 rw [okCs, decide_eq_false_iff_not]
 intro h
 have h := h k (by omega)
 unfold okC at h
 simp [h13] at h
 refine nx J4 ?_
 clear J4
 refine TC.seq fun _ J15 => ?_
 refine CN ?_
 refine TC.exit ?_
 refine TE.pass ?_
 clear J15
 refine TE.pass ?_
 refine TE.hit ?_
 refine TE.next J2 ?_
 clear J2
 refine sr fun _ J16 => ?_
 refine PS ?_
 refine nx J16 ?_
 clear J16
 refine TC.ret ?_
 refine WK [] ?_
 refine TE.ret1 rfl rfl ?_
 exact ⟨congrArg Value.bool (by symm; rw [okCs, decide_eq_true_iff]; exact fun j h => ho j h (by omega)), rfl⟩
theorem sg61 : Tryz.prog.eqGuardType Tryz.prog.depth 61 = false := by kernel_rfl
theorem sk61 : Tryz.prog.keyTypeAt 6 61 = true := by kernel_rfl
theorem fI61 : flatI Tryz.prog 6 61 = some 28 := by kernel_rfl
theorem fC61 : (match Tryz.prog.underlying 61 with | some (.struct _) | some (.array _ _) => true | _ => false) = true := by kernel_rfl
theorem cC61 : Tryz.prog.cellsOf 61 = 28 := by kernel_rfl

theorem wf_left {x : RowT} (h : WF x.flat) (i : Nat) (hi : i < 5) : WF (flats x.left[i].toList) := fun n hn => h n (by
  simp only [RowT.flat, List.mem_cons, List.mem_append, List.mem_flatMap]
  exact .inr (.inr (.inr ⟨x.left[i], by simp [Vector.getElem_mem], hn⟩)))
theorem wf_zl : WF (flats RowT.zero.left[0].toList) := fun n hn => by
  have : n ∈ List.replicate 28 (0 : Int) := hn
  obtain rfl := List.eq_of_mem_replicate this
  decide

theorem rowRight_does (x : RowT) (hw : WF x.flat) :
    Leg.Does Tryz.prog 131 #[(.agg (ints x.flat).toArray)] (fun _ => True) [] (Ret (fun r' H => r' = .bool (rightR x) ∧ H = [])) := by
 refine Leg.Does.body (n := 41) Tryz.func131 rfl rfl rfl (fun w0 F hF => ?_)
 refine sr fun _ J1 => ?_
 refine TL.box (Want.plain rfl) rfl rfl rfl rfl (fun b1 => ?_)
 change TL _ _ _ _ _ _ _ _ _ [blkA b1 (ints x.flat) 64]
 refine PS ?_
 refine nx J1 ?_
 refine TC.seq fun _ J2 => ?_
 refine sr fun _ J3 => ?_
 refine FA 0 Tryz.underlying64 sz3 ?_
 refine tp (PV.load1 (v := (.int .i64 (x.version))) rfl Tryz.underlying3 rfl rfl (RO 0) (RowT.at_version x rfl)) ?_
 refine PS ?_
 refine TL.dec (fun h7 => ?_) (fun h7 => ?_)
 refine PS ?_
 refine UT ?_
 refine UT ?_
 refine UT ?_
 refine UT ?_
 refine PS ?_
 refine nx J3 ?_
 refine CY ?_
 refine sr fun _ J4 => ?_
 refine PS ?_
 refine nx J4 ?_
 refine TC.ret ?_
 refine TE.passRet ?_
 refine WK [] ?_
 refine TE.ret1 rfl rfl ?_
 refine ⟨congrArg Value.bool ?_, rfl⟩
 symm
 rw [rightR, Bool.eq_false_iff]
 intro h
 rw [Bool.and_eq_true, Bool.and_eq_true, decide_eq_true_iff, decide_eq_true_iff] at h
 omega
 refine PS ?_
 refine FA 1 Tryz.underlying64 sz61 ?_
 refine tq (PV.loadN (vs := ints (flats x.cells.toList)) rfl Tryz.underlying61 rfl sz61 rfl (RO 0) (vs4_len x.cells) (RowT.sub_cells x 0 rfl (by decide) (whole (vs4_len x.cells)))) ?_
 refine CR nm155 (rightCells_does x.cells) (fun _ s => s) fun vR HR hR => ?_
 obtain ⟨rfl, rfl⟩ := hR
 refine TL.decB (fun h11 => ?_) (fun h11 => ?_)
 refine tq (PV.not (r := false) rfl rfl rfl) ?_
 refine PS ?_
 refine nx J3 ?_
 refine CN ?_
 refine CX J2 ?_
 refine TC.seq fun _ J5 => ?_
 refine sr fun _ J6 => ?_
 refine FA 29 Tryz.underlying64 sz42 ?_
 refine tp (PV.loadN (vs := ints x.heir.toList) rfl Tryz.underlying42 rfl sz42 rfl (RO 0) (vi5_len x.heir) (RowT.sub_heir x 0 rfl (by decide) (whole (vi5_len x.heir)))) ?_
 refine PS ?_
 refine nx J6 ?_
 refine TC.block ?_
 refine TC.loop (α := (Nat)) (fun i => i ≤ 5 ∧ ∀ (j : Nat) (h : j < 5), j < i → hokR x.heir[j] x.left[j] = true) (fun i => [(1, (.pointer (some ⟨b1, 0, none⟩))), (15, (.agg (ints x.heir.toList).toArray)), (16, (.int .i64 (((i : Nat) : Int))))]) (fun i => [blkA b1 (ints x.flat) 64]) (fun i => 5 - i) 0
     ⟨Nat.zero_le _, fun j h hj => absurd hj (by omega)⟩ (Sub.r (Sub.r (Sub.cons rfl (by congr 1) (Sub.nil _))))
     (fun _ s => s) (fun i hinv => ?_)
 obtain ⟨hi, ho⟩ := hinv
 refine sr fun _ J7 => ?_
 refine PS ?_
 refine TL.dec (fun h17 => ?_) (fun h17 => ?_)
 refine nx J7 ?_
 refine TC.seq fun _ J8 => ?_
 refine CY ?_
 refine CX J8 ?_
 refine TC.seq fun _ J9 => ?_
 refine TC.block ?_
 refine sr fun _ J10 => ?_
 refine PS ?_
 refine tp (PV.index1 (cs := ints x.heir.toList) (v := Value.int .i64 (x.heir[i]'(by omega))) (r := i) rfl Tryz.underlying42 Tryz.underlying3 rfl sz3 rfl rfl (by omega) (by omega) (by omega) (vi_at x.heir (by omega))) ?_
 refine PS ?_
 refine PS ?_
 refine nx J10 ?_
 refine TC.seq fun _ J11 => ?_
 refine sr fun _ J12 => ?_
 refine PS ?_
 refine PS ?_
 refine TL.dec (fun h21 => ?_) (fun h21 => ?_)
 refine PS ?_
 refine UT ?_
 refine UT ?_
 refine UT ?_
 refine UT ?_
 refine UT ?_
 refine UT ?_
 refine PS ?_
 refine nx J12 ?_
 refine CY ?_
 refine sr fun _ J13 => ?_
 refine PS ?_
 refine nx J13 ?_
 refine TC.ret ?_
 refine TE.passRet ?_
 refine TE.blockRet ?_
 refine TE.passRet ?_
 refine TE.passRet ?_
 refine TE.blockRet ?_
 refine TE.passRet ?_
 refine WK [] ?_
 refine TE.ret1 rfl rfl ?_
 refine ⟨congrArg Value.bool ?_, rfl⟩
 symm
 rw [rightR, Bool.eq_false_iff]
 intro h
 rw [Bool.and_eq_true, Bool.and_eq_true, decide_eq_true_iff, decide_eq_true_iff] at h
 have h := h.2 i (by omega)
 unfold hokR at h
 rw [Bool.and_eq_true, Bool.and_eq_true, decide_eq_true_iff, decide_eq_true_iff] at h
 omega
 refine PS ?_
 refine PS ?_
 refine FA 34 Tryz.underlying64 sz62 ?_
 refine tq (PV.indexArr (r := 34 + i * 28) rfl Tryz.underlying62 sz61 rfl rfl (by omega) (by omega) (by omega)) ?_
 refine tq (PV.loadN (vs := ints (flats (x.left[i]'(by omega)).toList)) rfl Tryz.underlying61 rfl sz61 rfl (RO 0) (vs4_len (x.left[i]'(by omega))) (RowT.sub_left x (i * 28) (by omega) (by omega) (vs_sub vl_len x.left (i := i) 0 (by omega) (by omega) (by decide) (whole (vs4_len (x.left[i]'(by omega))))))) ?_
 refine CR nm155 (rightCells_does (x.left[i]'(by omega))) (fun _ s => s) fun vR HR hR => ?_
 obtain ⟨rfl, rfl⟩ := hR
 refine TL.decB (fun h27 => ?_) (fun h27 => ?_)
 refine tq (PV.not (r := false) rfl rfl rfl) ?_
 refine PS ?_
 refine nx J12 ?_
 refine CN ?_
 refine CX J11 ?_
 refine sr fun _ J14 => ?_
 refine PS ?_
 refine PS ?_
 refine TL.dec (fun h31 => ?_) (fun h31 => ?_)
 refine PS ?_
 refine PS ?_
 refine FA 34 Tryz.underlying64 sz62 ?_
 refine tq (PV.indexArr (r := 34 + i * 28) rfl Tryz.underlying62 sz61 rfl rfl (by omega) (by omega) (by omega)) ?_
 refine tq (PV.loadN (vs := ints (flats (x.left[i]'(by omega)).toList)) rfl Tryz.underlying61 rfl sz61 rfl (RO 0) (vs4_len (x.left[i]'(by omega))) (RowT.sub_left x (i * 28) (by omega) (by omega) (vs_sub vl_len x.left (i := i) 0 (by omega) (by omega) (by decide) (whole (vs4_len (x.left[i]'(by omega))))))) ?_
 refine tq (PV.build (cells := (ints (flats RowT.zero.cells.toList)).toArray) rfl rfl (by as_aux_lemma => kernel_rfl)) ?_
 refine tq (PV.neqAgg (a := flats (x.left[i]'(by omega)).toList) (b := flats RowT.zero.cells.toList) (m := 6) (c := 28) sg61 sk61 rfl fI61 (ints_len (vs4_len (x.left[i]'(by omega)))) (ints_len (vs4_len RowT.zero.cells)) ⟨formed_ag fC61 cC61 (ints_len (vs4_len (x.left[i]'(by omega)))), formed_ag fC61 cC61 (ints_len (vs4_len RowT.zero.cells))⟩ (wf_left hw i (by omega)) wf_zl rfl rfl rfl) ?_
 refine TL.dec (fun h38 => ?_) (fun h38 => ?_)
 refine PS ?_
 refine nx J14 ?_
 refine CY ?_
 refine sr fun _ J15 => ?_
 refine PS ?_
 refine nx J15 ?_
 refine TC.ret ?_
 refine TE.blockRet ?_
 refine TE.passRet ?_
 refine TE.passRet ?_
 refine TE.blockRet ?_
 refine TE.passRet ?_
 refine WK [] ?_
 refine TE.ret1 rfl rfl ?_
 refine ⟨congrArg Value.bool ?_, rfl⟩
 symm
 rw [rightR, Bool.eq_false_iff]
 intro h
 rw [Bool.and_eq_true, Bool.and_eq_true, decide_eq_true_iff, decide_eq_true_iff] at h
 have h := h.2 i (by omega)
 unfold hokR at h
 rw [Bool.and_eq_true, Bool.and_eq_true, decide_eq_true_iff, decide_eq_true_iff] at h
 exact h38 (h.2 h31)
 refine PS ?_
 refine nx J14 ?_
 refine CN ?_
 refine TC.skip ?_
 refine TE.blockEnd ?_
 refine TE.next J9 ?_
 refine TC.region ?_
 refine tp (PV.add rfl rfl rfl (wrap_i64 (by omega) (by omega))) ?_
 refine PS ?_
 refine TL.nil ?_
 exact TE.round ((i + 1) : (Nat)) ⟨by omega, fun j h hj => by
        by_cases q : j = i
        · subst q; unfold hokR; rw [Bool.and_eq_true, Bool.and_eq_true, decide_eq_true_iff, decide_eq_true_iff]; exact ⟨⟨by omega, h27⟩, fun e => by first | exact absurd e h31 | exact Classical.not_not.1 h38⟩
        · exact ho j h (by omega)⟩ (by show 5 - (i + 1) < 5 - i; omega)
   (Sub.r (Sub.r (Sub.cons rfl (by simp) (Sub.nil _))))
   (fun _ s => s)
 refine PS ?_
 refine UF ?_
 refine UF ?_
 refine UF ?_
 refine UF ?_
 refine UF ?_
 refine UF ?_
 refine PS ?_
 refine nx J14 ?_
 refine CN ?_
 refine TC.skip ?_
 refine TE.blockEnd ?_
 refine TE.next J9 ?_
 refine TC.region ?_
 refine tp (PV.add rfl rfl rfl (wrap_i64 (by omega) (by omega))) ?_
 refine PS ?_
 refine TL.nil ?_
 exact TE.round ((i + 1) : (Nat)) ⟨by omega, fun j h hj => by
        by_cases q : j = i
        · subst q; unfold hokR; rw [Bool.and_eq_true, Bool.and_eq_true, decide_eq_true_iff, decide_eq_true_iff]; exact ⟨⟨by omega, h27⟩, fun e => by first | exact absurd e h31 | exact Classical.not_not.1 h38⟩
        · exact ho j h (by omega)⟩ (by show 5 - (i + 1) < 5 - i; omega)
   (Sub.r (Sub.r (Sub.cons rfl (by simp) (Sub.nil _))))
   (fun _ s => s)
 refine tq (PV.not (r := true) rfl rfl rfl) ?_
 refine PS ?_
 refine nx J12 ?_
 refine CY ?_
 refine sr fun _ J16 => ?_
 refine PS ?_
 refine nx J16 ?_
 refine TC.ret ?_
 refine TE.passRet ?_
 refine TE.blockRet ?_
 refine TE.passRet ?_
 refine TE.passRet ?_
 refine TE.blockRet ?_
 refine TE.passRet ?_
 refine WK [] ?_
 refine TE.ret1 rfl rfl ?_
 refine ⟨congrArg Value.bool ?_, rfl⟩
 symm
 rw [rightR, Bool.eq_false_iff]
 intro h
 rw [Bool.and_eq_true, Bool.and_eq_true, decide_eq_true_iff, decide_eq_true_iff] at h
 have h := h.2 i (by omega)
 unfold hokR at h
 rw [Bool.and_eq_true, Bool.and_eq_true, decide_eq_true_iff, decide_eq_true_iff] at h
 rw [h27] at h; exact absurd h.1.2 (by decide)
 refine nx J7 ?_
 refine TC.seq fun _ J17 => ?_
 refine CN ?_
 refine TC.exit ?_
 refine TE.pass ?_
 refine TE.pass ?_
 refine TE.hit ?_
 refine TE.next J5 ?_
 refine sr fun _ J18 => ?_
 refine PS ?_
 refine nx J18 ?_
 refine TC.ret ?_
 refine WK [] ?_
 refine TE.ret1 rfl rfl ?_
 exact ⟨congrArg Value.bool (by symm; rw [rightR, Bool.and_eq_true, Bool.and_eq_true, decide_eq_true_iff, decide_eq_true_iff]; exact ⟨⟨by omega, h11⟩, fun j h => ho j h (by omega)⟩), rfl⟩
 refine tq (PV.not (r := true) rfl rfl rfl) ?_
 refine PS ?_
 refine nx J3 ?_
 refine CY ?_
 refine sr fun _ J19 => ?_
 refine PS ?_
 refine nx J19 ?_
 refine TC.ret ?_
 refine TE.passRet ?_
 refine WK [] ?_
 refine TE.ret1 rfl rfl ?_
 refine ⟨congrArg Value.bool ?_, rfl⟩
 symm
 rw [rightR, Bool.eq_false_iff]
 intro h
 rw [Bool.and_eq_true, Bool.and_eq_true, decide_eq_true_iff, decide_eq_true_iff] at h
 rw [h11] at h; exact absurd h.1.2 (by decide)
theorem first_does  :
    Leg.Does Tryz.prog 17 #[] (fun _ => True) [] (Ret (fun r' H => r' = .agg (ints firstV.flat).toArray ∧ H = [])) := by
 refine Leg.Does.body (n := 2) Tryz.func17 rfl rfl rfl (fun w0 F hF => ?_)
 refine sr fun _ J1 => ?_
 refine TL.alloc (Want.plain rfl) rfl rfl rfl z44 (fun b0 => ?_)
 change TL _ _ _ _ _ _ _ _ _ [blkA b0 (ints ViewT.zero.flat) 44]
 refine nx J1 (sr fun _ J2 => ?_)
 refine tp (PV.buildSegs (cs := ints (ViewT.mk 1 7 (#v[0, 0, 0, 0, 0])).flat) (segs := [[Value.int .i64 0], [Value.int .i64 0], ints (#v[0, 0, 0, 0, 0]).toList]) (res := [[Value.int .i64 1], [Value.int .i64 7], ints (#v[0, 0, 0, 0, 0]).toList]) (parts := [(0, [Value.int .i64 1]), (1, [Value.int .i64 7])]) rfl rfl Tryz.underlying44 (by kernel_rfl) (by kernel_rfl) rfl (putSegs_step rfl ((rfl : [Value.int .i64 1].length = 1).trans (rfl : [Value.int .i64 0].length = 1).symm) (putSegs_step rfl ((rfl : [Value.int .i64 7].length = 1).trans (rfl : [Value.int .i64 0].length = 1).symm) putSegs_nil)) (ViewT.eq (ViewT.mk 1 7 (#v[0, 0, 0, 0, 0]))).symm) ?_
 refine TL.store (vs := ints (ViewT.mk 1 7 (#v[0, 0, 0, 0, 0])).flat) (i := 0) (Want.plain rfl) rfl rfl rfl rfl rfl (by rw [(ViewT.len (ViewT.mk 1 7 (#v[0, 0, 0, 0, 0])))]; exact sz44) (ints_one _) rfl rfl (by have h0 := (ViewT.len ViewT.zero); have h1 := (ViewT.len (ViewT.mk 1 7 (#v[0, 0, 0, 0, 0]))); omega) (wwhole ((ViewT.len ViewT.zero).trans (ViewT.len (ViewT.mk 1 7 (#v[0, 0, 0, 0, 0]))).symm)) rfl ?_
 refine nx J2 ?_
 refine TC.ret ?_
 refine TE.retC (H' := []) rfl rfl Tryz.underlying44 rfl sz44 (RO 0) (ViewT.len (ViewT.mk 1 7 (#v[0, 0, 0, 0, 0]))) (fun _ s => sep_keep [] rfl s) ?_
 exact ⟨rfl, rfl⟩
theorem viewRight_does (v : ViewT) (hh : Rng v) :
    Leg.Does Tryz.prog 19 #[(.agg (ints v.flat).toArray)] (fun _ => True) [] (Ret (fun r' H => r' = .bool (rightV v) ∧ H = [])) := by
 refine Leg.Does.body (n := 39) Tryz.func19 rfl rfl rfl (fun w0 F hF => ?_)
 refine sr fun _ J1 => ?_
 refine TL.box (Want.plain rfl) rfl rfl rfl rfl (fun b1 => ?_)
 change TL _ _ _ _ _ _ _ _ _ [blkA b1 (ints v.flat) 44]
 refine PS ?_
 refine nx J1 ?_
 clear J1
 refine TC.seq fun _ J2 => ?_
 refine sr fun _ J3 => ?_
 refine FA 0 Tryz.underlying44 sz3 ?_
 refine tp (PV.load1 (v := (.int .i64 (v.epoch))) rfl Tryz.underlying3 rfl rfl (RO 0) (ViewT.at_epoch v rfl)) ?_
 refine PS ?_
 refine TL.dec (fun h7 => ?_) (fun h7 => ?_)
 refine PS ?_
 refine UT ?_
 refine UT ?_
 refine UT ?_
 refine PS ?_
 refine PS ?_
 refine UT ?_
 refine UT ?_
 refine UT ?_
 refine PS ?_
 refine nx J3 ?_
 clear J3
 refine CY ?_
 refine sr fun _ J4 => ?_
 refine PS ?_
 refine nx J4 ?_
 clear J4
 refine TC.ret ?_
 refine TE.passRet ?_
 clear J2
 refine WK [] ?_
 refine TE.ret1 rfl rfl ?_
 refine ⟨congrArg Value.bool ?_, rfl⟩
 symm
 rw [rightV, Bool.eq_false_iff]
 intro h
 rw [Bool.and_eq_true, decide_eq_true_iff, decide_eq_true_iff] at h
 omega
 refine PS ?_
 refine FA 1 Tryz.underlying44 sz3 ?_
 refine tq (PV.load1 (v := (.int .i64 (v.members))) rfl Tryz.underlying3 rfl rfl (RO 0) (ViewT.at_members v rfl)) ?_
 refine PS ?_
 refine TL.dec (fun h11 => ?_) (fun h11 => ?_)
 refine PS ?_
 refine PS ?_
 refine UT ?_
 refine UT ?_
 refine UT ?_
 refine PS ?_
 refine nx J3 ?_
 clear J3
 refine CY ?_
 refine sr fun _ J5 => ?_
 refine PS ?_
 refine nx J5 ?_
 clear J5
 refine TC.ret ?_
 refine TE.passRet ?_
 clear J2
 refine WK [] ?_
 refine TE.ret1 rfl rfl ?_
 refine ⟨congrArg Value.bool ?_, rfl⟩
 symm
 rw [rightV, Bool.eq_false_iff]
 intro h
 rw [Bool.and_eq_true, decide_eq_true_iff, decide_eq_true_iff] at h
 omega
 refine PS ?_
 refine PS ?_
 refine FA 1 Tryz.underlying44 sz3 ?_
 refine tq (PV.load1 (v := (.int .i64 (v.members))) rfl Tryz.underlying3 rfl rfl (RO 0) (ViewT.at_members v rfl)) ?_
 refine PS ?_
 refine TL.dec (fun h16 => ?_) (fun h16 => ?_)
 refine PS ?_
 refine nx J3 ?_
 clear J3
 refine CY ?_
 refine sr fun _ J6 => ?_
 refine PS ?_
 refine nx J6 ?_
 clear J6
 refine TC.ret ?_
 refine TE.passRet ?_
 clear J2
 refine WK [] ?_
 refine TE.ret1 rfl rfl ?_
 refine ⟨congrArg Value.bool ?_, rfl⟩
 symm
 rw [rightV, Bool.eq_false_iff]
 intro h
 rw [Bool.and_eq_true, decide_eq_true_iff, decide_eq_true_iff] at h
 omega
 refine PS ?_
 refine nx J3 ?_
 clear J3
 refine CN ?_
 refine CX J2 ?_
 clear J2
 refine TC.seq fun _ J7 => ?_
 refine sr fun _ J8 => ?_
 refine FA 2 Tryz.underlying44 sz42 ?_
 refine tp (PV.loadN (vs := ints v.heirs.toList) rfl Tryz.underlying42 rfl sz42 rfl (RO 0) (vi5_len v.heirs) (ViewT.sub_heirs v 0 rfl (by decide) (whole (vi5_len v.heirs)))) ?_
 refine PS ?_
 refine nx J8 ?_
 clear J8
 refine TC.block ?_
 refine TC.loop (α := (Nat)) (fun i => i ≤ 5 ∧ ∀ (j : Nat) (h : j < 5), j < i → okH v v.heirs[j] j = true) (fun i => [(1, (.pointer (some ⟨b1, 0, none⟩))), (19, (.agg (ints v.heirs.toList).toArray)), (20, (.int .i64 (((i : Nat) : Int))))]) (fun i => [blkA b1 (ints v.flat) 44]) (fun i => 5 - i) 0
     ⟨Nat.zero_le _, fun j h hj => absurd hj (by omega)⟩ (Sub.r (Sub.r (Sub.cons rfl (by congr 1) (Sub.nil _))))
     (fun _ s => s) (fun i hinv => ?_)
 obtain ⟨hi, ho⟩ := hinv
 have hhi := fun h : i < 5 => hh i h
 refine sr fun _ J9 => ?_
 refine PS ?_
 refine TL.dec (fun h21 => ?_) (fun h21 => ?_)
 replace hhi := hhi (by omega)
 refine nx J9 ?_
 clear J9
 refine TC.seq fun _ J10 => ?_
 refine CY ?_
 refine CX J10 ?_
 clear J10
 refine TC.seq fun _ J11 => ?_
 refine TC.block ?_
 refine sr fun _ J12 => ?_
 refine PS ?_
 refine tp (PV.index1 (cs := ints v.heirs.toList) (v := Value.int .i64 (v.heirs[i]'(by omega))) (r := i) rfl Tryz.underlying42 Tryz.underlying3 rfl sz3 rfl rfl (by omega) (by omega) (by omega) (vi_at v.heirs (by omega))) ?_
 refine PS ?_
 refine PS ?_
 refine nx J12 ?_
 clear J12
 refine sr fun _ J13 => ?_
 refine PS ?_
 refine PS ?_
 refine TL.dec (fun h25 => ?_) (fun h25 => ?_)
 refine PS ?_
 refine tq (PV.loadN (vs := ints v.flat) rfl Tryz.underlying44 rfl sz44 rfl (RO 0) (ViewT.len v) (whole (ViewT.len v))) ?_
 refine PS ?_
 refine tq (PV.sub rfl rfl rfl (wrap_i64 (by omega) (by omega))) ?_
 refine CR nm32 (member_does v ((v.heirs[i]'(by omega)) - 1)) (fun _ s => s) fun vR HR hR => ?_
 obtain ⟨rfl, rfl⟩ := hR
 refine TL.decB (fun h30 => ?_) (fun h30 => ?_)
 refine tq (PV.not (r := false) rfl rfl rfl) ?_
 refine PS ?_
 refine tq (PV.loadN (vs := ints v.flat) rfl Tryz.underlying44 rfl sz44 rfl (RO 0) (ViewT.len v) (whole (ViewT.len v))) ?_
 refine PS ?_
 refine CR nm32 (member_does v ((i : Nat) : Int)) (fun _ s => s) fun vR HR hR => ?_
 obtain ⟨rfl, rfl⟩ := hR
 refine TL.decB (fun h35 => ?_) (fun h35 => ?_)
 refine PS ?_
 refine PS ?_
 refine nx J13 ?_
 clear J13
 refine CY ?_
 refine sr fun _ J14 => ?_
 refine PS ?_
 refine nx J14 ?_
 clear J14
 refine TC.ret ?_
 refine TE.blockRet ?_
 refine TE.passRet ?_
 clear J11
 refine TE.passRet ?_
 refine TE.blockRet ?_
 refine TE.passRet ?_
 clear J7
 refine WK [] ?_
 refine TE.ret1 rfl rfl ?_
 refine ⟨congrArg Value.bool ?_, rfl⟩
 symm
 rw [rightV, Bool.eq_false_iff]
 intro h
 rw [Bool.and_eq_true, decide_eq_true_iff, decide_eq_true_iff] at h
 have h := h.2 i (by omega)
 unfold okH at h
 rw [Bool.or_eq_true, decide_eq_true_iff, Bool.and_eq_true] at h
 rw [h35] at h; exact h.elim h25 fun q => absurd q.2 (by decide)
 refine PS ?_
 refine PS ?_
 refine nx J13 ?_
 clear J13
 refine CN ?_
 refine TC.skip ?_
 refine TE.blockEnd ?_
 refine TE.next J11 ?_
 clear J11
 refine TC.region ?_
 refine tp (PV.add rfl rfl rfl (wrap_i64 (by omega) (by omega))) ?_
 refine PS ?_
 refine TL.nil ?_
 exact TE.round ((i + 1) : (Nat)) ⟨by omega, fun j h hj => by
        by_cases q : j = i
        · subst q; unfold okH; simp_all
        · exact ho j h (by omega)⟩ (by show 5 - (i + 1) < 5 - i; omega)
   (Sub.r (Sub.r (Sub.cons rfl (by simp) (Sub.nil _))))
   (fun _ s => s)
 refine tq (PV.not (r := true) rfl rfl rfl) ?_
 refine PS ?_
 refine UT ?_
 refine UT ?_
 refine UT ?_
 refine PS ?_
 refine PS ?_
 refine nx J13 ?_
 clear J13
 refine CY ?_
 refine sr fun _ J15 => ?_
 refine PS ?_
 refine nx J15 ?_
 clear J15
 refine TC.ret ?_
 refine TE.blockRet ?_
 refine TE.passRet ?_
 clear J11
 refine TE.passRet ?_
 refine TE.blockRet ?_
 refine TE.passRet ?_
 clear J7
 refine WK [] ?_
 refine TE.ret1 rfl rfl ?_
 refine ⟨congrArg Value.bool ?_, rfl⟩
 symm
 rw [rightV, Bool.eq_false_iff]
 intro h
 rw [Bool.and_eq_true, decide_eq_true_iff, decide_eq_true_iff] at h
 have h := h.2 i (by omega)
 unfold okH at h
 rw [Bool.or_eq_true, decide_eq_true_iff, Bool.and_eq_true] at h
 rw [h30] at h; exact h.elim h25 fun q => absurd q.1 (by decide)
 refine PS ?_
 refine UF ?_
 refine UF ?_
 refine UF ?_
 refine UF ?_
 refine UF ?_
 refine UF ?_
 refine TL.unmetU rfl rfl rfl rfl (lb rfl) ?_
 refine TL.unmetU rfl rfl rfl rfl (lb rfl) ?_
 refine TL.unmetU rfl rfl rfl rfl (lb rfl) ?_
 refine UF ?_
 refine PS ?_
 refine nx J13 ?_
 clear J13
 refine CN ?_
 refine TC.skip ?_
 refine TE.blockEnd ?_
 refine TE.next J11 ?_
 clear J11
 refine TC.region ?_
 refine tp (PV.add rfl rfl rfl (wrap_i64 (by omega) (by omega))) ?_
 refine PS ?_
 refine TL.nil ?_
 exact TE.round ((i + 1) : (Nat)) ⟨by omega, fun j h hj => by
        by_cases q : j = i
        · subst q; unfold okH; simp_all
        · exact ho j h (by omega)⟩ (by show 5 - (i + 1) < 5 - i; omega)
   (Sub.r (Sub.r (Sub.cons rfl (by simp) (Sub.nil _))))
   (fun _ s => s)
 refine nx J9 ?_
 clear J9
 refine TC.seq fun _ J16 => ?_
 refine CN ?_
 refine TC.exit ?_
 refine TE.pass ?_
 clear J16
 refine TE.pass ?_
 refine TE.hit ?_
 refine TE.next J7 ?_
 clear J7
 refine sr fun _ J17 => ?_
 refine PS ?_
 refine nx J17 ?_
 clear J17
 refine TC.ret ?_
 refine WK [] ?_
 refine TE.ret1 rfl rfl ?_
 exact ⟨congrArg Value.bool (by symm; rw [rightV, Bool.and_eq_true, decide_eq_true_iff, decide_eq_true_iff]; exact ⟨by omega, fun j h => ho j h (by omega)⟩), rfl⟩
theorem heir_does (v : ViewT) (w : Int) (hh : Rng v) :
    Leg.Does Tryz.prog 53 #[(.agg (ints v.flat).toArray), (.int .i64 (w))] (fun _ => True) [] (Ret (fun r' H => r' = .tuple #[.int .i64 ((heirV v w).getD 0), .bool (heirV v w).isSome] ∧ H = [])) := by
 refine Leg.Does.body (n := 21) Tryz.func53 rfl rfl rfl (fun w0 F hF => ?_)
 refine sr fun _ J1 => ?_
 refine TL.box (Want.plain rfl) rfl rfl rfl rfl (fun b2 => ?_)
 change TL _ _ _ _ _ _ _ _ _ [blkA b2 (ints v.flat) 44]
 refine PS ?_
 refine PS ?_
 refine nx J1 ?_
 refine TC.seq fun _ J2 => ?_
 refine sr fun _ J3 => ?_
 refine PS ?_
 refine CR nm48 (vmachine_does w) (fun _ s => s) fun vR HR hR => ?_
 obtain ⟨rfl, rfl⟩ := hR
 refine TL.decB (fun h7 => ?_) (fun h7 => ?_)
 have hm : 0 ≤ w ∧ w < 5 := of_decide_eq_true h7
 have hb := hh w.toNat (by omega)
 refine tp (PV.not (r := false) rfl rfl rfl) ?_
 refine PS ?_
 refine PS ?_
 refine FA 2 Tryz.underlying44 sz42 ?_
 refine tq (PV.indexArr (r := 2 + w.toNat) rfl Tryz.underlying42 sz3 rfl rfl (by omega) (by omega) (by omega)) ?_
 refine tq (PV.load1 (v := (.int .i64 ((v.heirs[w.toNat]'(by omega))))) rfl Tryz.underlying3 rfl rfl (RO 0) (ViewT.pt_heirs v (w.toNat) (by omega) (by omega) (vi_at v.heirs (by omega)))) ?_
 refine PS ?_
 refine TL.dec (fun h14 => ?_) (fun h14 => ?_)
 refine PS ?_
 refine nx J3 ?_
 refine CY ?_
 refine sr fun _ J4 => ?_
 refine PS ?_
 refine PS ?_
 refine nx J4 ?_
 refine TC.ret ?_
 refine TE.passRet ?_
 refine WK [] ?_
 refine TE.ret2 rfl rfl rfl ?_
 exact ⟨by rw [heirV, dif_pos hm, if_pos h14]; rfl, rfl⟩
 refine PS ?_
 refine nx J3 ?_
 refine CN ?_
 refine CX J2 ?_
 refine sr fun _ J5 => ?_
 refine PS ?_
 refine FA 2 Tryz.underlying44 sz42 ?_
 refine tp (PV.indexArr (r := 2 + w.toNat) rfl Tryz.underlying42 sz3 rfl rfl (by omega) (by omega) (by omega)) ?_
 refine tp (PV.load1 (v := (.int .i64 ((v.heirs[w.toNat]'(by omega))))) rfl Tryz.underlying3 rfl rfl (RO 0) (ViewT.pt_heirs v (w.toNat) (by omega) (by omega) (vi_at v.heirs (by omega)))) ?_
 refine tp (PV.sub rfl rfl rfl (wrap_i64 (by omega) (by omega))) ?_
 refine PS ?_
 refine PS ?_
 refine nx J5 ?_
 refine TC.ret ?_
 refine WK [] ?_
 refine TE.ret2 rfl rfl rfl ?_
 exact ⟨by rw [heirV, dif_pos hm, if_neg h14]; rfl, rfl⟩
 refine tp (PV.not (r := true) rfl rfl rfl) ?_
 refine PS ?_
 refine UT ?_
 refine UT ?_
 refine UT ?_
 refine UT ?_
 refine UT ?_
 refine PS ?_
 refine nx J3 ?_
 refine CY ?_
 refine sr fun _ J6 => ?_
 refine PS ?_
 refine PS ?_
 refine nx J6 ?_
 refine TC.ret ?_
 refine TE.passRet ?_
 refine WK [] ?_
 refine TE.ret2 rfl rfl rfl ?_
 exact ⟨by rw [heirV, dif_neg (of_decide_eq_false h7)]; rfl, rfl⟩
end Go.Proofs.YtobdfjdoilnfcaaGreat
end

section
namespace Leg
open Go Codec Api

section
variable {P : Program} {w0 : World} {F : Hl} {n : Nat} {ops : Array Oper} {Q : QQ} {D : List Deferred} {L : List (Nat × Value)} {H : List HP} {o : Oper} {l : List Oper} {d : Nat}
def chanP (c cap : Nat) (vs : List Value) (s r : Nat) : HP := obj c (.chan cap vs.toArray false s r false)
theorem TL.makeChan {t e : TypeId} {dir : ChanDir} {x : Operand} {k bytes : Nat} (hw : Want n D ops o L) (ho : o.op = .makeChan t x) (hd : o.dst = some d) (hn : Nat.blt d n = true) (ht : P.underlying t = some (.chan dir e)) (hi : (P.info? e).map (·.bytes) = some bytes)
    (hx : evL L x = some (.int .i64 ((k : Nat) : Int))) (hb : bytes * k ≤ 281474976710544) (hk : k ≤ 9223372036854775807)
    (h : ∀ c, TL P w0 F n ops Q l D ((d, .chan (some c)) :: L) (chanP c k [] 0 0 :: H)) : TL P w0 F n ops Q (o :: l) D L H :=
  TL.step hw fun a w f s m => by
    unfold Oper.wp
    cases hi' : P.info? e with
    | none => rw [hi'] at hi; cases hi
    | some i =>
      rw [hi'] at hi
      have hbb : i.bytes = bytes := by simpa using hi
      have a1 : ¬ (((k : Nat) : Int) < 0) := by omega
      have a2 : ¬ (9223372036854775807 < ((k : Nat) : Int)) := by omega
      have a3 : ¬ (281474976710544 < (i.bytes : Int) * ((k : Nat) : Int)) := by
        have : (i.bytes : Int) * ((k : Nat) : Int) ≤ 281474976710544 := by rw [hbb, ← Int.natCast_mul]; exact Int.ofNat_le.2 hb
        omega
      have hc : (Instr.makeChan t (.int .i64 ((k : Nat) : Int))).run P w = .ok (.chan (some w.heap.size)) (w.alloc (.chan k #[] false 0 0 false)) := by
        simp [Instr.makeChan, run_underlying ht, typeInfo, hi', asInt, asIntOf, IntKind.max, IntKind.signed, IntKind.bits, a1, a2, a3]
      have r : (execOp a.eval o).run P w = .ok (.value (.chan (some w.heap.size))) (w.alloc (.chan k #[] false 0 0 false)) := by
        simp [execOp, ho, f.eval hx, Sem.run_bind, hc]
      rw [r, Oper.upon_value, hd]
      exact h _ _ _ (f.put (lb hn) _) (s.trans ⟨rfl, rfl, rfl, by simp⟩) ((m.alloc _).mono fun h s => star_mono s (fun _ x => x) fun _ x => x)
end
end Leg
end

section
namespace Leg
open Go Codec Api

def EF {α : Type} (f : α → List Int) (us : List Value) (x : α) (_ : Hl) : Prop := us = ints (f x)
theorem EF.more {α : Type} {f : α → List Int} (us : List Value) (x : α) (F g : Hl) (h : EF f us x F) (_ : Dj g F) : EF f us x (jn g F) := h
section
variable {α : Type} {f : α → List Int} {m : Nat}
theorem flat_sub (hf : ∀ x, (f x).length = m) (l : List α) {i : Nat} (hi : i < l.length) : ((ints (l.flatMap f)).drop (i * m)).take m = ints (f l[i]) := by
  rw [vs_eq]
  have hl := vs_sl hf l
  have := hl.sub (s := ints (f l[i])) i 0 m (by simp [hi]) (by simp [hi]) (sum_rep m l.length i (by omega)) (Nat.le_of_eq (Nat.zero_add m))
  rw [Nat.add_zero] at this
  rw [this, List.drop_zero, List.take_of_length_le (by rw [ints_length, hf]; exact Nat.le_refl _)]
theorem flat_len (hf : ∀ x, (f x).length = m) (l : List α) : (ints (l.flatMap f)).length = l.length * m := by
  rw [ints_length]
  induction l with
  | nil => simp
  | cons x l ih => rw [List.flatMap_cons, List.length_append, ih, hf, List.length_cons, Nat.add_mul]; omega
theorem IsL.src (hm : 0 < m) (hf : ∀ x, (f x).length = m) {S : World → Prop} {v : Value} {l : List α} {F : Hl} (h : IsL m (EF f) v l F) (hS : ∀ w, S w → Frm F w) : Src S v l.length (ints (l.flatMap f)) m := by
  refine ⟨flat_len hf l, ?_⟩
  rcases h with ⟨rfl, rfl⟩ | ⟨a, c, rfl, rfl⟩ | ⟨b, off, cap, cs, T, z, rfl, h1, h2, h3, h4⟩
  · exact .inl ⟨rfl, rfl⟩
  · exact .inr ⟨a, c, rfl, fun w _ j u h => by simp [ints] at h⟩
  · refine .inr ⟨⟨b, off, none⟩, cap, rfl, fun w s j u h => ?_⟩
    have hj := (List.getElem?_eq_some_iff.1 h).1
    rw [flat_len hf] at hj
    have hq : j / m < l.length := (Nat.div_lt_iff_lt_mul hm).2 hj
    obtain ⟨us, e1, e2, e3⟩ := h4 (j / m) hq
    have e4 : us = ints (f l[j / m]) := e3
    have hr := Nat.mod_lt j hm
    have hd := Nat.div_add_mod j m
    rw [Nat.mul_comm] at hd
    have e5 : (((ints (l.flatMap f)).drop (j / m * m)).take m)[j % m]? = some u := by
      rw [List.getElem?_take, if_pos hr, List.getElem?_drop, hd]; exact h
    rw [flat_sub hf l hq, ← e4, ← e2, List.getElem?_take, if_pos hr, List.getElem?_drop] at e5
    rw [addL, cell_ofL (hS w s b _ h3)]
    rw [← e5]; congr 1; show off + j = _; omega
theorem IsL.first {E : List Value → α → Hl → Prop} {a : Option Addr} {c k n : Nat} {l : List α} {F : Hl} (h : IsL m E (.slice a n c) l F) (hk : k ≤ l.length) : IsL m E (.slice a k c) (l.take k) F := by
  have hl : (l.take k).length = k := by rw [List.length_take]; omega
  rcases h with ⟨h, rfl⟩ | ⟨a', c', h, rfl⟩ | ⟨b, off, cap, cs, T, z, h, h1, h2, h3, h4⟩
  · have : k = 0 := by simpa using hk
    subst this
    injection h with e1 e2 e3
    subst e1; subst e3
    exact .inl ⟨rfl, rfl⟩
  · have : k = 0 := by simpa using hk
    subst this
    injection h with e1 e2 e3
    subst e1; subst e3
    exact .inr (.inl ⟨a', c, rfl, rfl⟩)
  · injection h with e1 e2 e3
    subst e1; subst e3
    by_cases e : k = 0
    · subst e; exact .inr (.inl ⟨_, c, rfl, rfl⟩)
    · exact .inr (.inr ⟨b, off, c, cs, T, z, by rw [hl], by omega, h2, h3, fun j hj => let ⟨us, e1, e2, e3⟩ := h4 j (by omega); ⟨us, e1, e2, by rw [List.getElem_take]; exact e3⟩⟩)
end
section
variable {P : Program} {w0 : World} {F : Hl} {n : Nat} {ops : Array Oper} {Q : QQ} {D : List Deferred} {L : List (Nat × Value)} {H : List HP} {o : Oper} {l : List Oper} {S : World → Prop}
end
end Leg
end

section
namespace Leg
open Go Api
def Arnd {α : Type} (cs c : α → List Value) (off : Nat) : Prop := ∃ A B, A.length = off ∧ ∀ x, cs x = A ++ (c x ++ B)
section
variable {α : Type} {cs c : α → List Value} {off o j k : Nat} {x x' : α}
theorem Arnd.le (h : Arnd cs c off) (x : α) : off + (c x).length ≤ (cs x).length := by
  obtain ⟨A, B, h1, h2⟩ := h
  rw [h2, List.length_append, List.length_append]; omega
theorem Arnd.at (h : Arnd cs c off) (ho : o = off + j) (hj : j < (c x).length) {r : Option Value} (hr : (c x)[j]? = r) : (cs x)[o]? = r := by
  obtain ⟨A, B, h1, h2⟩ := h
  subst ho; subst h1
  rw [h2, List.getElem?_append_right (by omega), Nat.add_sub_cancel_left, List.getElem?_append_left hj, hr]
theorem Arnd.sub (h : Arnd cs c off) (ho : o = off + j) (hj : j + k ≤ (c x).length) {r : List Value} (hr : ((c x).drop j).take k = r) : ((cs x).drop o).take k = r := by
  obtain ⟨A, B, h1, h2⟩ := h
  subst ho; subst h1
  rw [h2, ← List.drop_drop, List.drop_left, List.drop_append_of_le_length (by omega), List.take_append_of_le_length (by rw [List.length_drop]; omega), hr]
theorem Arnd.wr (h : Arnd cs c off) {vs : List Value} (ho : o = off + j) (hj : j + vs.length ≤ (c x).length) (hw : Leg.wr (c x) j vs = c x') : Leg.wr (cs x) o vs = cs x' := by
  obtain ⟨A, B, h1, h2⟩ := h
  subst ho; subst h1
  rw [h2, h2, wr_append_right (by omega), Nat.add_sub_cancel_left, wr_append_left hj, hw]
theorem Arnd.set (h : Arnd cs c off) {v : Value} (ho : o = off + j) (hj : j < (c x).length) (hw : (c x).set j v = c x') : (cs x).set o v = cs x' := by
  obtain ⟨A, B, h1, h2⟩ := h
  subst ho; subst h1
  rw [h2, h2, List.set_append_right _ _ (by omega), Nat.add_sub_cancel_left, List.set_append_left _ _ hj, hw]
theorem Arnd.whole : Arnd c c 0 := ⟨[], [], rfl, fun x => by simp⟩
theorem Arnd.trans {β : Type} {cs : β → List Value} {d : β → List Value} {g : α → β} {off2 : Nat} (h : Arnd cs d off) (h2 : Arnd (fun x => d (g x)) c off2) : Arnd (fun x => cs (g x)) c (off + off2) := by
  obtain ⟨A, B, h1, e1⟩ := h
  obtain ⟨A2, B2, h3, e2⟩ := h2
  refine ⟨A ++ A2, B2 ++ B, by rw [List.length_append]; omega, fun x => ?_⟩
  have := e2 x
  simp only at this
  show cs (g x) = _
  rw [e1, this]; simp
end
end Leg
namespace Api
open Go Leg Codec
set_option maxHeartbeats 400000
def bools (l : List Bool) : List Value := l.map .bool
theorem vb_at {n : Nat} (v : Vector Bool n) {i : Nat} (h : i < n) : (bools v.toList)[i]? = some (.bool v[i]) := by simp [bools, h]
theorem vsr_len (v : Vector RowT 5) : (ints (v.toList.flatMap RowT.flat)).length = 870 := by rw [flat_len RowT.flat_length]; simp
structure AccT where
  epoch : Int
  vow : BallotT
  had : BallotT
  change : ChangeT
def AccT.zero : AccT := ⟨0, .zero, .zero, .zero⟩
def AccT.flat (m : AccT) : List Int := ([m.epoch]) ++ (m.vow.flat) ++ (m.had.flat) ++ (m.change.flat)
structure SaidT where
  to' : Int
  msg : MsgT
def SaidT.zero : SaidT := ⟨0, .zero⟩
def SaidT.flat (m : SaidT) : List Int := ([m.to']) ++ (m.msg.flat)
structure BookT where
  rows : Vector RowT 5
def BookT.zero : BookT := ⟨#v[RowT.zero, RowT.zero, RowT.zero, RowT.zero, RowT.zero]⟩
def BookT.flat (m : BookT) : List Int := (m.rows.toList.flatMap RowT.flat)
structure MirT where
  rows : Vector RowT 5
  sealed : Vector Bool 5
def MirT.zero : MirT := ⟨#v[RowT.zero, RowT.zero, RowT.zero, RowT.zero, RowT.zero], #v[false, false, false, false, false]⟩
def MirT.cells (m : MirT) : List Value := [ints (m.rows.toList.flatMap RowT.flat), bools m.sealed.toList].flatten
structure VoteT where
  view : ViewT
  ballot : BallotT
  change : ChangeT
  best : BallotT
  vowed : Int
  took : Int
  putting : Bool
def VoteT.zero : VoteT := ⟨.zero, .zero, .zero, .zero, 0, 0, false⟩
def VoteT.cells (m : VoteT) : List Value := [ints m.view.flat, ints m.ballot.flat, ints m.change.flat, ints m.best.flat, [Value.int .i64 m.vowed], [Value.int .i64 m.took], [Value.bool m.putting]].flatten
structure RepT where
  id : Int
  log : Value
  view : ViewT
  own : RowT
  mirror : MirT
  acc : AccT
  round : Int
  vote : Value
  book : BookT
  busy : Bool
  kept : Int
  waits : Int
  ops : Int
  replies : Value
  told : Vector Int 5
  last : Vector RowT 5
def RepT.zero : RepT := ⟨0, .pointer none, .zero, .zero, .zero, .zero, 0, .pointer none, .zero, false, 0, 0, 0, .slice none 0 0, #v[0, 0, 0, 0, 0], #v[RowT.zero, RowT.zero, RowT.zero, RowT.zero, RowT.zero]⟩
def RepT.cells (m : RepT) : List Value := [[Value.int .i64 m.id], [m.log], ints m.view.flat, ints m.own.flat, MirT.cells m.mirror, ints m.acc.flat, [Value.int .i64 m.round], [m.vote], ints m.book.flat, [Value.bool m.busy], [Value.int .i64 m.kept], [Value.int .i64 m.waits], [Value.int .i64 m.ops], [m.replies], ints m.told.toList, ints (m.last.toList.flatMap RowT.flat)].flatten
theorem AccT.sl (m : AccT) : SL [[Value.int .i64 m.epoch], ints m.vow.flat, ints m.had.flat, ints m.change.flat] [1, 2, 2, 3] := (.cons rfl (.cons (BallotT.len _) (.cons (BallotT.len _) (.cons (ChangeT.len _) .nil))))
theorem AccT.eq (m : AccT) : ints m.flat = [[Value.int .i64 m.epoch], ints m.vow.flat, ints m.had.flat, ints m.change.flat].flatten := by simp [AccT.flat, ints]
theorem AccT.len (m : AccT) : (ints m.flat).length = 8 := by rw [AccT.eq, (AccT.sl m).len]; rfl
theorem AccT.at_epoch (m : AccT) {o : Nat} (ho : o = 0) : (ints m.flat)[o]? = some (Value.int .i64 m.epoch) := by subst ho; rw [AccT.eq]; exact (AccT.sl m).at (off := 0) 0 0 rfl rfl (by simp) (by decide)
theorem AccT.set_epoch (m : AccT) {o : Nat} (ho : o = 0) (x : Int) : (ints m.flat).set o (Value.int .i64 x) = ints ({ m with epoch := x } : AccT).flat := by subst ho; rw [AccT.eq, AccT.eq]; exact (AccT.sl m).set (off := 0) 0 0 _ rfl rfl (by simp) (by decide)
theorem AccT.sub_had (m : AccT) {o k : Nat} (j : Nat) (ho : o = 3 + j) (h : j + k ≤ 2) {r : List Value} (hr : ((ints m.had.flat).drop j).take k = r) : ((ints m.flat).drop o).take k = r := by subst ho; rw [← hr, AccT.eq]; exact (AccT.sl m).sub (off := 3) 2 j k rfl rfl (by simp) h
theorem AccT.wr_had_ (m : AccT) {o : Nat} (j : Nat) {vs : List Value} {u' : BallotT} (ho : o = 3 + j) (h : j + vs.length ≤ 2) (hw : wr (ints m.had.flat) j vs = ints u'.flat) : wr (ints m.flat) o vs = ints ({ m with had := u' } : AccT).flat := by subst ho; rw [AccT.eq, AccT.eq]; exact (AccT.sl m).putIn (off := 3) 2 j vs rfl rfl (by simp) h hw
theorem AccT.sub_change (m : AccT) {o k : Nat} (j : Nat) (ho : o = 5 + j) (h : j + k ≤ 3) {r : List Value} (hr : ((ints m.change.flat).drop j).take k = r) : ((ints m.flat).drop o).take k = r := by subst ho; rw [← hr, AccT.eq]; exact (AccT.sl m).sub (off := 5) 3 j k rfl rfl (by simp) h
theorem AccT.wr_change_ (m : AccT) {o : Nat} (j : Nat) {vs : List Value} {u' : ChangeT} (ho : o = 5 + j) (h : j + vs.length ≤ 3) (hw : wr (ints m.change.flat) j vs = ints u'.flat) : wr (ints m.flat) o vs = ints ({ m with change := u' } : AccT).flat := by subst ho; rw [AccT.eq, AccT.eq]; exact (AccT.sl m).putIn (off := 5) 3 j vs rfl rfl (by simp) h hw
theorem SaidT.sl (m : SaidT) : SL [[Value.int .i64 m.to'], ints m.msg.flat] [1, 192] := (.cons rfl (.cons (MsgT.len _) .nil))
theorem SaidT.eq (m : SaidT) : ints m.flat = [[Value.int .i64 m.to'], ints m.msg.flat].flatten := by simp [SaidT.flat, ints]
theorem SaidT.len (m : SaidT) : (ints m.flat).length = 193 := by rw [SaidT.eq, (SaidT.sl m).len]; rfl
theorem SaidT.at_to' (m : SaidT) {o : Nat} (ho : o = 0) : (ints m.flat)[o]? = some (Value.int .i64 m.to') := by subst ho; rw [SaidT.eq]; exact (SaidT.sl m).at (off := 0) 0 0 rfl rfl (by simp) (by decide)
theorem BookT.sl (m : BookT) : SL [ints (m.rows.toList.flatMap RowT.flat)] [870] := (.cons (vsr_len _) .nil)
theorem BookT.eq (m : BookT) : ints m.flat = [ints (m.rows.toList.flatMap RowT.flat)].flatten := by simp [BookT.flat, ints]
theorem BookT.len (m : BookT) : (ints m.flat).length = 870 := by rw [BookT.eq, (BookT.sl m).len]; rfl
theorem BookT.pt_rows (m : BookT) {o : Nat} (j : Nat) (ho : o = 0 + j) (h : j < 870) {r : Option Value} (hr : (ints (m.rows.toList.flatMap RowT.flat))[j]? = r) : (ints m.flat)[o]? = r := by subst ho; rw [← hr, BookT.eq]; exact (BookT.sl m).at (off := 0) 0 j rfl rfl (by simp) h
theorem BookT.sub_rows (m : BookT) {o k : Nat} (j : Nat) (ho : o = 0 + j) (h : j + k ≤ 870) {r : List Value} (hr : ((ints (m.rows.toList.flatMap RowT.flat)).drop j).take k = r) : ((ints m.flat).drop o).take k = r := by subst ho; rw [← hr, BookT.eq]; exact (BookT.sl m).sub (off := 0) 0 j k rfl rfl (by simp) h
theorem BookT.wr_rows_ (m : BookT) {o : Nat} (j : Nat) {vs : List Value} {u' : Vector RowT 5} (ho : o = 0 + j) (h : j + vs.length ≤ 870) (hw : wr (ints (m.rows.toList.flatMap RowT.flat)) j vs = ints (u'.toList.flatMap RowT.flat)) : wr (ints m.flat) o vs = ints ({ m with rows := u' } : BookT).flat := by subst ho; rw [BookT.eq, BookT.eq]; exact (BookT.sl m).putIn (off := 0) 0 j vs rfl rfl (by simp) h hw
theorem MirT.sl (m : MirT) : SL [ints (m.rows.toList.flatMap RowT.flat), bools m.sealed.toList] [870, 5] := (.cons (vsr_len _) (.cons (by simp [bools]) .nil))
theorem MirT.eq (m : MirT) : MirT.cells m = [ints (m.rows.toList.flatMap RowT.flat), bools m.sealed.toList].flatten := rfl
theorem MirT.len (m : MirT) : (MirT.cells m).length = 875 := by rw [MirT.eq, (MirT.sl m).len]; rfl
theorem MirT.pt_rows (m : MirT) {o : Nat} (j : Nat) (ho : o = 0 + j) (h : j < 870) {r : Option Value} (hr : (ints (m.rows.toList.flatMap RowT.flat))[j]? = r) : (MirT.cells m)[o]? = r := by subst ho; rw [← hr, MirT.eq]; exact (MirT.sl m).at (off := 0) 0 j rfl rfl (by simp) h
theorem MirT.sub_rows (m : MirT) {o k : Nat} (j : Nat) (ho : o = 0 + j) (h : j + k ≤ 870) {r : List Value} (hr : ((ints (m.rows.toList.flatMap RowT.flat)).drop j).take k = r) : ((MirT.cells m).drop o).take k = r := by subst ho; rw [← hr, MirT.eq]; exact (MirT.sl m).sub (off := 0) 0 j k rfl rfl (by simp) h
theorem MirT.wr_rows_ (m : MirT) {o : Nat} (j : Nat) {vs : List Value} {u' : Vector RowT 5} (ho : o = 0 + j) (h : j + vs.length ≤ 870) (hw : wr (ints (m.rows.toList.flatMap RowT.flat)) j vs = ints (u'.toList.flatMap RowT.flat)) : wr (MirT.cells m) o vs = MirT.cells ({ m with rows := u' } : MirT) := by subst ho; rw [MirT.eq, MirT.eq]; exact (MirT.sl m).putIn (off := 0) 0 j vs rfl rfl (by simp) h hw
theorem MirT.pt_sealed (m : MirT) {o : Nat} (j : Nat) (ho : o = 870 + j) (h : j < 5) {r : Option Value} (hr : (bools m.sealed.toList)[j]? = r) : (MirT.cells m)[o]? = r := by subst ho; rw [← hr, MirT.eq]; exact (MirT.sl m).at (off := 870) 1 j rfl rfl (by simp) h
theorem VoteT.sl (m : VoteT) : SL [ints m.view.flat, ints m.ballot.flat, ints m.change.flat, ints m.best.flat, [Value.int .i64 m.vowed], [Value.int .i64 m.took], [Value.bool m.putting]] [7, 2, 3, 2, 1, 1, 1] := (.cons (ViewT.len _) (.cons (BallotT.len _) (.cons (ChangeT.len _) (.cons (BallotT.len _) (.cons rfl (.cons rfl (.cons rfl .nil)))))))
theorem VoteT.eq (m : VoteT) : VoteT.cells m = [ints m.view.flat, ints m.ballot.flat, ints m.change.flat, ints m.best.flat, [Value.int .i64 m.vowed], [Value.int .i64 m.took], [Value.bool m.putting]].flatten := rfl
theorem VoteT.len (m : VoteT) : (VoteT.cells m).length = 17 := by rw [VoteT.eq, (VoteT.sl m).len]; rfl
theorem VoteT.pt_view (m : VoteT) {o : Nat} (j : Nat) (ho : o = 0 + j) (h : j < 7) {r : Option Value} (hr : (ints m.view.flat)[j]? = r) : (VoteT.cells m)[o]? = r := by subst ho; rw [← hr, VoteT.eq]; exact (VoteT.sl m).at (off := 0) 0 j rfl rfl (by simp) h
theorem VoteT.sub_view (m : VoteT) {o k : Nat} (j : Nat) (ho : o = 0 + j) (h : j + k ≤ 7) {r : List Value} (hr : ((ints m.view.flat).drop j).take k = r) : ((VoteT.cells m).drop o).take k = r := by subst ho; rw [← hr, VoteT.eq]; exact (VoteT.sl m).sub (off := 0) 0 j k rfl rfl (by simp) h
theorem VoteT.wr_view_ (m : VoteT) {o : Nat} (j : Nat) {vs : List Value} {u' : ViewT} (ho : o = 0 + j) (h : j + vs.length ≤ 7) (hw : wr (ints m.view.flat) j vs = ints u'.flat) : wr (VoteT.cells m) o vs = VoteT.cells ({ m with view := u' } : VoteT) := by subst ho; rw [VoteT.eq, VoteT.eq]; exact (VoteT.sl m).putIn (off := 0) 0 j vs rfl rfl (by simp) h hw
theorem VoteT.sub_ballot (m : VoteT) {o k : Nat} (j : Nat) (ho : o = 7 + j) (h : j + k ≤ 2) {r : List Value} (hr : ((ints m.ballot.flat).drop j).take k = r) : ((VoteT.cells m).drop o).take k = r := by subst ho; rw [← hr, VoteT.eq]; exact (VoteT.sl m).sub (off := 7) 1 j k rfl rfl (by simp) h
theorem VoteT.wr_ballot_ (m : VoteT) {o : Nat} (j : Nat) {vs : List Value} {u' : BallotT} (ho : o = 7 + j) (h : j + vs.length ≤ 2) (hw : wr (ints m.ballot.flat) j vs = ints u'.flat) : wr (VoteT.cells m) o vs = VoteT.cells ({ m with ballot := u' } : VoteT) := by subst ho; rw [VoteT.eq, VoteT.eq]; exact (VoteT.sl m).putIn (off := 7) 1 j vs rfl rfl (by simp) h hw
theorem VoteT.sub_change (m : VoteT) {o k : Nat} (j : Nat) (ho : o = 9 + j) (h : j + k ≤ 3) {r : List Value} (hr : ((ints m.change.flat).drop j).take k = r) : ((VoteT.cells m).drop o).take k = r := by subst ho; rw [← hr, VoteT.eq]; exact (VoteT.sl m).sub (off := 9) 2 j k rfl rfl (by simp) h
theorem VoteT.wr_change_ (m : VoteT) {o : Nat} (j : Nat) {vs : List Value} {u' : ChangeT} (ho : o = 9 + j) (h : j + vs.length ≤ 3) (hw : wr (ints m.change.flat) j vs = ints u'.flat) : wr (VoteT.cells m) o vs = VoteT.cells ({ m with change := u' } : VoteT) := by subst ho; rw [VoteT.eq, VoteT.eq]; exact (VoteT.sl m).putIn (off := 9) 2 j vs rfl rfl (by simp) h hw
theorem RepT.sl (m : RepT) : SL [[Value.int .i64 m.id], [m.log], ints m.view.flat, ints m.own.flat, MirT.cells m.mirror, ints m.acc.flat, [Value.int .i64 m.round], [m.vote], ints m.book.flat, [Value.bool m.busy], [Value.int .i64 m.kept], [Value.int .i64 m.waits], [Value.int .i64 m.ops], [m.replies], ints m.told.toList, ints (m.last.toList.flatMap RowT.flat)] [1, 1, 7, 174, 875, 8, 1, 1, 870, 1, 1, 1, 1, 1, 5, 870] := (.cons rfl (.cons rfl (.cons (ViewT.len _) (.cons (RowT.len _) (.cons (MirT.len _) (.cons (AccT.len _) (.cons rfl (.cons rfl (.cons (BookT.len _) (.cons rfl (.cons rfl (.cons rfl (.cons rfl (.cons rfl (.cons (by simp [ints]) (.cons (vsr_len _) .nil))))))))))))))))
theorem RepT.eq (m : RepT) : RepT.cells m = [[Value.int .i64 m.id], [m.log], ints m.view.flat, ints m.own.flat, MirT.cells m.mirror, ints m.acc.flat, [Value.int .i64 m.round], [m.vote], ints m.book.flat, [Value.bool m.busy], [Value.int .i64 m.kept], [Value.int .i64 m.waits], [Value.int .i64 m.ops], [m.replies], ints m.told.toList, ints (m.last.toList.flatMap RowT.flat)].flatten := rfl
theorem RepT.len (m : RepT) : (RepT.cells m).length = 2818 := by rw [RepT.eq, (RepT.sl m).len]; rfl
theorem RepT.at_id (m : RepT) {o : Nat} (ho : o = 0) : (RepT.cells m)[o]? = some (Value.int .i64 m.id) := by subst ho; rw [RepT.eq]; exact (RepT.sl m).at (off := 0) 0 0 rfl rfl (by simp) (by decide)
theorem RepT.at_log (m : RepT) {o : Nat} (ho : o = 1) : (RepT.cells m)[o]? = some (m.log) := by subst ho; rw [RepT.eq]; exact (RepT.sl m).at (off := 1) 1 0 rfl rfl (by simp) (by decide)
theorem RepT.pt_view (m : RepT) {o : Nat} (j : Nat) (ho : o = 2 + j) (h : j < 7) {r : Option Value} (hr : (ints m.view.flat)[j]? = r) : (RepT.cells m)[o]? = r := by subst ho; rw [← hr, RepT.eq]; exact (RepT.sl m).at (off := 2) 2 j rfl rfl (by simp) h
theorem RepT.sub_view (m : RepT) {o k : Nat} (j : Nat) (ho : o = 2 + j) (h : j + k ≤ 7) {r : List Value} (hr : ((ints m.view.flat).drop j).take k = r) : ((RepT.cells m).drop o).take k = r := by subst ho; rw [← hr, RepT.eq]; exact (RepT.sl m).sub (off := 2) 2 j k rfl rfl (by simp) h
theorem RepT.wr_view_ (m : RepT) {o : Nat} (j : Nat) {vs : List Value} {u' : ViewT} (ho : o = 2 + j) (h : j + vs.length ≤ 7) (hw : wr (ints m.view.flat) j vs = ints u'.flat) : wr (RepT.cells m) o vs = RepT.cells ({ m with view := u' } : RepT) := by subst ho; rw [RepT.eq]; refine ((RepT.sl m).putIn (off := 2) 2 j vs rfl rfl (by simp) h hw).trans ?_; simp only [RepT.cells, List.set_cons_succ, List.set_cons_zero]
theorem RepT.pt_own (m : RepT) {o : Nat} (j : Nat) (ho : o = 9 + j) (h : j < 174) {r : Option Value} (hr : (ints m.own.flat)[j]? = r) : (RepT.cells m)[o]? = r := by subst ho; rw [← hr, RepT.eq]; exact (RepT.sl m).at (off := 9) 3 j rfl rfl (by simp) h
theorem RepT.sub_own (m : RepT) {o k : Nat} (j : Nat) (ho : o = 9 + j) (h : j + k ≤ 174) {r : List Value} (hr : ((ints m.own.flat).drop j).take k = r) : ((RepT.cells m).drop o).take k = r := by subst ho; rw [← hr, RepT.eq]; exact (RepT.sl m).sub (off := 9) 3 j k rfl rfl (by simp) h
theorem RepT.wr_own_ (m : RepT) {o : Nat} (j : Nat) {vs : List Value} {u' : RowT} (ho : o = 9 + j) (h : j + vs.length ≤ 174) (hw : wr (ints m.own.flat) j vs = ints u'.flat) : wr (RepT.cells m) o vs = RepT.cells ({ m with own := u' } : RepT) := by subst ho; rw [RepT.eq]; refine ((RepT.sl m).putIn (off := 9) 3 j vs rfl rfl (by simp) h hw).trans ?_; simp only [RepT.cells, List.set_cons_succ, List.set_cons_zero]
theorem RepT.around_mirror (m : RepT) : ∃ A B, RepT.cells m = A ++ (MirT.cells m.mirror ++ B) ∧ A.length = 183 ∧ ∀ u' : MirT, RepT.cells ({ m with mirror := u' } : RepT) = A ++ (MirT.cells u' ++ B) := by
  obtain ⟨A, B, h1, h2, h3⟩ := (RepT.sl m).around (off := 183) 4 rfl rfl (by simp)
  exact ⟨A, B, by rw [RepT.eq]; exact h1, h2, fun u' => by rw [← h3]; simp only [RepT.cells, List.set_cons_succ, List.set_cons_zero]⟩
theorem RepT.arnd_mirror (m : RepT) : Arnd (fun u : MirT => RepT.cells ({ m with mirror := u } : RepT)) (fun u => MirT.cells u) 183 := by
  obtain ⟨A, B, _, h2, h3⟩ := RepT.around_mirror m
  exact ⟨A, B, h2, h3⟩
theorem RepT.wr_acc_ (m : RepT) {o : Nat} (j : Nat) {vs : List Value} {u' : AccT} (ho : o = 1058 + j) (h : j + vs.length ≤ 8) (hw : wr (ints m.acc.flat) j vs = ints u'.flat) : wr (RepT.cells m) o vs = RepT.cells ({ m with acc := u' } : RepT) := by subst ho; rw [RepT.eq]; refine ((RepT.sl m).putIn (off := 1058) 5 j vs rfl rfl (by simp) h hw).trans ?_; simp only [RepT.cells, List.set_cons_succ, List.set_cons_zero]
theorem RepT.set_round (m : RepT) {o : Nat} (ho : o = 1066) (x : Int) : (RepT.cells m).set o (Value.int .i64 x) = RepT.cells ({ m with round := x } : RepT) := by subst ho; rw [RepT.eq]; refine ((RepT.sl m).set (off := 1066) 6 0 _ rfl rfl (by simp) (by decide)).trans ?_; simp only [RepT.cells, List.set_cons_succ, List.set_cons_zero]
theorem RepT.at_vote (m : RepT) {o : Nat} (ho : o = 1067) : (RepT.cells m)[o]? = some (m.vote) := by subst ho; rw [RepT.eq]; exact (RepT.sl m).at (off := 1067) 7 0 rfl rfl (by simp) (by decide)
theorem RepT.set_vote (m : RepT) {o : Nat} (ho : o = 1067) (x : Value) : (RepT.cells m).set o (x) = RepT.cells ({ m with vote := x } : RepT) := by subst ho; rw [RepT.eq]; refine ((RepT.sl m).set (off := 1067) 7 0 _ rfl rfl (by simp) (by decide)).trans ?_; simp only [RepT.cells, List.set_cons_succ, List.set_cons_zero]
theorem RepT.around_book (m : RepT) : ∃ A B, RepT.cells m = A ++ (ints m.book.flat ++ B) ∧ A.length = 1068 ∧ ∀ u' : BookT, RepT.cells ({ m with book := u' } : RepT) = A ++ (ints u'.flat ++ B) := by
  obtain ⟨A, B, h1, h2, h3⟩ := (RepT.sl m).around (off := 1068) 8 rfl rfl (by simp)
  exact ⟨A, B, by rw [RepT.eq]; exact h1, h2, fun u' => by rw [← h3]; simp only [RepT.cells, List.set_cons_succ, List.set_cons_zero]⟩
theorem RepT.arnd_book (m : RepT) : Arnd (fun u : BookT => RepT.cells ({ m with book := u } : RepT)) (fun u => ints u.flat) 1068 := by
  obtain ⟨A, B, _, h2, h3⟩ := RepT.around_book m
  exact ⟨A, B, h2, h3⟩
theorem RepT.at_busy (m : RepT) {o : Nat} (ho : o = 1938) : (RepT.cells m)[o]? = some (Value.bool m.busy) := by subst ho; rw [RepT.eq]; exact (RepT.sl m).at (off := 1938) 9 0 rfl rfl (by simp) (by decide)
theorem RepT.set_busy (m : RepT) {o : Nat} (ho : o = 1938) (x : Bool) : (RepT.cells m).set o (Value.bool x) = RepT.cells ({ m with busy := x } : RepT) := by subst ho; rw [RepT.eq]; refine ((RepT.sl m).set (off := 1938) 9 0 _ rfl rfl (by simp) (by decide)).trans ?_; simp only [RepT.cells, List.set_cons_succ, List.set_cons_zero]
theorem RepT.at_kept (m : RepT) {o : Nat} (ho : o = 1939) : (RepT.cells m)[o]? = some (Value.int .i64 m.kept) := by subst ho; rw [RepT.eq]; exact (RepT.sl m).at (off := 1939) 10 0 rfl rfl (by simp) (by decide)
theorem RepT.set_kept (m : RepT) {o : Nat} (ho : o = 1939) (x : Int) : (RepT.cells m).set o (Value.int .i64 x) = RepT.cells ({ m with kept := x } : RepT) := by subst ho; rw [RepT.eq]; refine ((RepT.sl m).set (off := 1939) 10 0 _ rfl rfl (by simp) (by decide)).trans ?_; simp only [RepT.cells, List.set_cons_succ, List.set_cons_zero]
theorem RepT.at_waits (m : RepT) {o : Nat} (ho : o = 1940) : (RepT.cells m)[o]? = some (Value.int .i64 m.waits) := by subst ho; rw [RepT.eq]; exact (RepT.sl m).at (off := 1940) 11 0 rfl rfl (by simp) (by decide)
theorem RepT.set_waits (m : RepT) {o : Nat} (ho : o = 1940) (x : Int) : (RepT.cells m).set o (Value.int .i64 x) = RepT.cells ({ m with waits := x } : RepT) := by subst ho; rw [RepT.eq]; refine ((RepT.sl m).set (off := 1940) 11 0 _ rfl rfl (by simp) (by decide)).trans ?_; simp only [RepT.cells, List.set_cons_succ, List.set_cons_zero]
theorem RepT.at_ops (m : RepT) {o : Nat} (ho : o = 1941) : (RepT.cells m)[o]? = some (Value.int .i64 m.ops) := by subst ho; rw [RepT.eq]; exact (RepT.sl m).at (off := 1941) 12 0 rfl rfl (by simp) (by decide)
theorem RepT.set_ops (m : RepT) {o : Nat} (ho : o = 1941) (x : Int) : (RepT.cells m).set o (Value.int .i64 x) = RepT.cells ({ m with ops := x } : RepT) := by subst ho; rw [RepT.eq]; refine ((RepT.sl m).set (off := 1941) 12 0 _ rfl rfl (by simp) (by decide)).trans ?_; simp only [RepT.cells, List.set_cons_succ, List.set_cons_zero]
theorem RepT.at_replies (m : RepT) {o : Nat} (ho : o = 1942) : (RepT.cells m)[o]? = some (m.replies) := by subst ho; rw [RepT.eq]; exact (RepT.sl m).at (off := 1942) 13 0 rfl rfl (by simp) (by decide)
theorem RepT.set_replies (m : RepT) {o : Nat} (ho : o = 1942) (x : Value) : (RepT.cells m).set o (x) = RepT.cells ({ m with replies := x } : RepT) := by subst ho; rw [RepT.eq]; refine ((RepT.sl m).set (off := 1942) 13 0 _ rfl rfl (by simp) (by decide)).trans ?_; simp only [RepT.cells, List.set_cons_succ, List.set_cons_zero]
end Api
end

section
namespace Api
open Go Leg Codec

def w64 (n : Int) : Int := IntKind.i64.wrap n
theorem w64_eq {n : Int} (h1 : -9223372036854775808 ≤ n) (h2 : n ≤ 9223372036854775807) : w64 n = n := wrap_i64 h1 h2
def keyB (key : Int) : Bool := decide (0 ≤ key ∧ key < 4)
theorem mach_lt {w : Int} (h : machB w = true) : w.toNat < 5 := by have : 0 ≤ w ∧ w < 5 := of_decide_eq_true h; omega
theorem key_lt {k : Int} (h : keyB k = true) : k.toNat < 4 := by have : 0 ≤ k ∧ k < 4 := of_decide_eq_true h; omega
def askB (key n : Int) : Bool := keyB key && decide (1 ≤ n) && okN n
def cellAt (x : RowT) (key : Int) : CellT := if h : keyB key = true then x.cells[key.toNat]'(key_lt h) else .zero
def putCell (x : RowT) (key : Int) (c : CellT) : RowT := if h : keyB key = true then { x with cells := x.cells.set key.toNat c (key_lt h) } else x
def moreR (x : RowT) (key n counts : Int) (c : CellT) : RowT × Int :=
  if counts > 1099511627776 - n then (.zero, 6) else ({ putCell x key c with version := w64 (x.version + 1) }, 0)
def rowInc (x : RowT) (key n : Int) : RowT × Int :=
  if askB key n then moreR x key n (cellAt x key).inn { cellAt x key with inn := w64 ((cellAt x key).inn + n) } else (.zero, 5)
def rowDec (x : RowT) (key n : Int) : RowT × Int :=
  if askB key n then moreR x key n (cellAt x key).out { cellAt x key with out := w64 ((cellAt x key).out + n) } else (.zero, 5)
def givenOf (c : CellT) (to : Int) : Int := if h : machB to = true then c.given[to.toNat]'(mach_lt h) else 0
def giveTo (c : CellT) (to v : Int) : CellT := if h : machB to = true then { c with given := c.given.set to.toNat v (mach_lt h) } else c
def sumG (c : CellT) : Int := c.given.toList.foldl (fun s g => w64 (s + g)) 0
def rowGive (x : RowT) (key n to : Int) : RowT × Int :=
  if machB to && askB key n then moreR x key n (sumG (cellAt x key)) (giveTo (cellAt x key) to (w64 (givenOf (cellAt x key) to + n))) else (.zero, 5)
def ownAt (x : RowT) (who : Int) (i : Nat) : Bool := decide ((i : Int) = who) || decide (0 < x.heir.toList.getD i 0)
def ownTo (x : RowT) (who : Int) (k : Nat) : List Int := ((List.range k).filter (ownAt x who)).map fun i => ((i : Nat) : Int)
def rowOwn (x : RowT) (who : Int) : List Int := ownTo x who 5
def heirAt (x : RowT) (of' : Int) : Int := if h : machB of' = true then x.heir[of'.toNat]'(mach_lt h) else 0
def leftAt (x : RowT) (of' key : Int) : CellT := if h : machB of' = true ∧ keyB key = true then (x.left[of'.toNat]'(mach_lt h.1))[key.toNat]'(key_lt h.2) else .zero
def rowCell (x : RowT) (who of' key : Int) : CellT × Int :=
  if machB who && machB of' && keyB key then (if of' = who then (cellAt x key, x.version) else if heirAt x of' > 0 then (leftAt x of' key, w64 (heirAt x of' - 1)) else (.zero, -1)) else (.zero, -1)
def witL (who : Int) : List Int := if machB who then [(who + 1) % 5, (who + 2) % 5] else []
/-! ### Books -/
def bookRow (b : BookT) (who : Int) : RowT := if h : machB who = true then b.rows[who.toNat]'(mach_lt h) else .zero
theorem bookRow_at (b : BookT) {k : Nat} (h : k < 5) : bookRow b ((k : Nat) : Int) = b.rows[k] := by rw [bookRow, dif_pos (show machB ((k : Nat) : Int) = true from decide_eq_true ⟨by omega, by omega⟩)]; rfl
def putRow (b : BookT) (who : Int) (x : RowT) : BookT := if h : machB who = true then { b with rows := b.rows.set who.toNat x (mach_lt h) } else b
def bookMerge (b : BookT) (who : Int) (x : RowT) : BookT × Bool :=
  if machB who && rightR x && decide (x.version > (bookRow b who).version) then (putRow b who x, true) else (b, false)
def bookStep (b : BookT) (of' key : Int) (s : CellT × Int) (i : Nat) : CellT × Int :=
  let c := rowCell (bookRow b i) i of' key
  if c.2 > s.2 then c else s
def bookTo (b : BookT) (of' key : Int) (k : Nat) : CellT × Int := (List.range k).foldl (bookStep b of' key) (.zero, -1)
def bookCell (b : BookT) (of' key : Int) : CellT := (bookTo b of' key 5).1
theorem bookTo_succ (b : BookT) (of' key : Int) (k : Nat) : bookTo b of' key (k + 1) = bookStep b of' key (bookTo b of' key k) k := by
  unfold bookTo; rw [List.range_succ, List.foldl_append]; rfl
def valueTo (b : BookT) (key : Int) (k : Nat) : Int := (List.range k).foldl (fun v (i : Nat) => w64 (v + w64 ((bookCell b i key).inn - (bookCell b i key).out))) 0
def bookValue (b : BookT) (key : Int) : Int := valueTo b key 5
theorem valueTo_succ (b : BookT) (key : Int) (k : Nat) : valueTo b key (k + 1) = w64 (valueTo b key k + w64 ((bookCell b k key).inn - (bookCell b k key).out)) := by
  unfold valueTo; rw [List.range_succ, List.foldl_append]; rfl
def rightsIn (b : BookT) (key of' : Int) (r : Int) (k : Nat) : Int := (List.range k).foldl (fun r (i : Nat) => w64 (r + w64 (givenOf (bookCell b i key) of' - givenOf (bookCell b of' key) i))) r
def rightsStep (b : BookT) (key r of' : Int) : Int := rightsIn b key of' (w64 (r + w64 ((bookCell b of' key).inn - (bookCell b of' key).out))) 5
def bookRights (b : BookT) (who key : Int) : Int := if machB who then (rowOwn (bookRow b who) who).foldl (rightsStep b key) 0 else 0
theorem givenOf_at (c : CellT) {k : Nat} (h : k < 5) : givenOf c ((k : Nat) : Int) = c.given[k] := by rw [givenOf, dif_pos (show machB ((k : Nat) : Int) = true from decide_eq_true ⟨by omega, by omega⟩)]; rfl
/-! ### Mirrors -/
def mirRow (m : MirT) (who : Int) : RowT := if h : machB who = true then m.rows[who.toNat]'(mach_lt h) else .zero
def mirSealed (m : MirT) (who : Int) : Bool := if h : machB who = true then m.sealed[who.toNat]'(mach_lt h) else false
def mirTakes (m : MirT) (who : Int) (x : RowT) : Bool := machB who && !mirSealed m who && rightR x && decide (x.version > (mirRow m who).version)
def mirPut (m : MirT) (who : Int) (x : RowT) : MirT := if h : machB who = true then { m with rows := m.rows.set who.toNat x (mach_lt h) } else m
def mirKeep (m : MirT) (who : Int) (x : RowT) : MirT × Bool := if mirTakes m who x then (mirPut m who x, true) else (m, false)
end Api
end
