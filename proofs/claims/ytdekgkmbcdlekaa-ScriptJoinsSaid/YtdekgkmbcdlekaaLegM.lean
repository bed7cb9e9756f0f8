/-
  Maps by ints: a map's block as a list of pairs; making, looking up, laying in.
-/
import Derived.Test.YtdekgkmbcdlekaaLegF
import Derived.MapKept
namespace Leg
open Go

/-- The first pair's value under a key. -/
def kget (l : List (Int × Value)) (k : Int) : Option Value := match l with
  | [] => none
  | (a, v) :: l => if k = a then some v else kget l k
/-- A pair laid in. -/
def kput (l : List (Int × Value)) (k : Int) (v : Value) : List (Int × Value) := match l with
  | [] => [(k, v)]
  | (a, u) :: l => if k = a then (a, v) :: l else (a, u) :: kput l k v
theorem kget_put (l : List (Int × Value)) (k j : Int) (v : Value) : kget (kput l k v) j = if j = k then some v else kget l j := by
  induction l with
  | nil => simp [kput, kget]
  | cons p l ih =>
    obtain ⟨a, u⟩ := p
    simp only [kput]
    by_cases h : k = a
    · subst h
      rw [if_pos rfl]
      by_cases h2 : j = k
      · simp [kget, h2]
      · simp [kget, h2]
    · rw [if_neg h]
      simp only [kget]
      by_cases h2 : j = a
      · subst h2
        rw [if_pos rfl, if_pos rfl, if_neg (by omega)]
      · rw [if_neg h2, if_neg h2, ih]
def pairs (es : List MapEntry) : List (Value × Value) := es.map fun e => (e.key, e.val)
def keyed (l : List (Int × Value)) : List (Value × Value) := l.map fun p => (.int .i64 p.1, p.2)
/-- A map's block. -/
def mapP (m : Nat) (l : List (Int × Value)) : HP := fun h => ∃ es clock, h = sg m (.map (List.toArray es) clock) ∧ pairs es = keyed l

/-- The place of the first pair under a key. -/
def kidx (k : Int) : List (Int × Value) → Nat → Option (Nat × Value)
  | [], _ => none
  | (a, v) :: l, i => if k = a then some (i, v) else kidx k l (i + 1)
theorem kidx_get (k : Int) : ∀ (l : List (Int × Value)) (i : Nat), (kidx k l i).map (·.2) = kget l k
  | [], _ => rfl
  | (a, v) :: l, i => by
    simp only [kidx, kget]
    by_cases h : k = a
    · simp [h]
    · rw [if_neg h, if_neg h]; exact kidx_get k l (i + 1)
theorem findNow_ints (k : Int) : ∀ (es : List MapEntry) (l : List (Int × Value)) (i : Nat), pairs es = keyed l → Instr.findNow (.int .i64) (.int .i64 k) es i = some (kidx k l i)
  | [], [], i, _ => rfl
  | [], _ :: _, i, h => by simp [pairs, keyed] at h
  | _ :: _, [], i, h => by simp [pairs, keyed] at h
  | e :: es, (a, v) :: l, i, h => by
    simp only [pairs, keyed, List.map_cons, List.cons.injEq, Prod.mk.injEq] at h
    obtain ⟨⟨h1, h2⟩, h3⟩ := h
    simp only [Instr.findNow, h1, h2, Instr.sameNow, kidx]
    by_cases q : k = a
    · subst q; simp
    · have e1 : (k == a) = false := by simpa using q
      simp only [e1, if_neg q, if_true]
      exact findNow_ints k es l (i + 1) h3
theorem kidx_none (k : Int) (v : Value) : ∀ (l : List (Int × Value)) (i : Nat), kidx k l i = none → kput l k v = l ++ [(k, v)]
  | [], _, _ => rfl
  | (a, u) :: l, i, h => by
    simp only [kidx] at h
    by_cases q : k = a
    · rw [if_pos q] at h; cases h
    · rw [if_neg q] at h
      simp only [kput, if_neg q, kidx_none k v l (i + 1) h, List.cons_append]
theorem kidx_some (k : Int) (v : Value) : ∀ (es : List MapEntry) (l : List (Int × Value)) (i j : Nat) (u : Value), pairs es = keyed l → kidx k l i = some (j, u) →
    i ≤ j ∧ ∃ e, es[j - i]? = some e ∧ e.key = .int .i64 k ∧ pairs (es.modify (j - i) fun e => { e with key := .int .i64 k, val := v }) = keyed (kput l k v)
  | _, [], _, _, _, _, h => by simp [kidx] at h
  | [], _ :: _, i, _, _, h, _ => by simp [pairs, keyed] at h
  | e :: es, (a, w) :: l, i, j, u, h, hk => by
    simp only [pairs, keyed, List.map_cons, List.cons.injEq, Prod.mk.injEq] at h
    obtain ⟨⟨h1, h2⟩, h3⟩ := h
    simp only [kidx] at hk
    by_cases q : k = a
    · rw [if_pos q] at hk
      simp only [Option.some.injEq, Prod.mk.injEq] at hk
      obtain ⟨rfl, rfl⟩ := hk
      refine ⟨Nat.le_refl _, e, by simp, by rw [h1, q], ?_⟩
      rw [Nat.sub_self]
      subst q
      have e0 : kput ((k, w) :: l) k v = (k, v) :: l := by simp [kput]
      rw [e0]
      simp only [List.modify_zero_cons, pairs, keyed, List.map_cons, h3]
    · rw [if_neg q] at hk
      obtain ⟨i1, e', i2, i3, i4⟩ := kidx_some k v es l (i + 1) j u h3 hk
      have e1 : j - i = (j - (i + 1)) + 1 := by omega
      refine ⟨by omega, e', by rw [e1]; simpa using i2, i3, ?_⟩
      rw [e1, List.modify_succ_cons]
      simp only [kput, if_neg q, pairs, keyed, List.map_cons, h1, h2] at i4 ⊢
      rw [i4]
theorem run_checkInt {P : Program} {w : World} (b : Bool) (d : Nat) {t : TypeId} {kk : IntKind} {k : Int} (h : P.underlying t = some (.int kk)) : (Instr.checkKey b (d + 1) t (.int .i64 k)).run P w = .ok () w := by
  simp [Instr.checkKey, run_underlying h]
theorem run_findInt {P : Program} {w : World} {t : TypeId} {k : Int} {es : List MapEntry} {l : List (Int × Value)} (h : P.underlying t = some (.int .i64)) (hp : pairs es = keyed l) : (Instr.findKey t (.int .i64 k) es).run P w = .ok (kidx k l 0) w := by
  simp [Instr.findKey, run_underlying h, findNow_ints k es l 0 hp]
section
variable {P : Program} {w0 : World} {F : Hl} {n : Nat} {ops : Array Oper} {Q : QQ} {D : List Deferred} {L : List (Nat × Value)} {H : List HP} {o : Oper} {l : List Oper} {d : Nat} {S : World → Prop}
theorem Sat.map {w : World} {m : Nat} {kv : List (Int × Value)} (s : Sat H F w) (i : Nat) (hi : Nat.blt i H.length = true) (e : H.getD i (fun _ => True) = mapP m kv) : ∃ es clock, w.heap[m]? = some (.map (List.toArray es) clock) ∧ pairs es = keyed kv := by
  obtain ⟨h, d, e', x⟩ := s
  obtain ⟨h1, h2, d', rfl, a, _⟩ := sep_get i (lb hi) x
  rw [e] at a
  obtain ⟨es, clock, h3, h4⟩ := a
  refine ⟨es, clock, ?_, h4⟩
  have : hp w m = some (.map (List.toArray es) clock) := by
    rw [e', jn_assoc]
    exact jn_some (by rw [h3]; simp [sg])
  exact this
/-- What S knows of a map's block. -/
def RdM (S : World → Prop) (m : Nat) (kv : List (Int × Value)) : Prop := ∀ w, S w → ∃ es clock, w.heap[m]? = some (.map (List.toArray es) clock) ∧ pairs es = keyed kv
theorem RdM.own {m : Nat} {kv : List (Int × Value)} (i : Nat) (hi : Nat.blt i H.length = true) (e : H.getD i (fun _ => True) = mapP m kv) : RdM (Sat H F) m kv := fun _ s => s.map i hi e
theorem PV.lookup {t kt et m : Nat} {x y : Operand} {k : Int} {kv : List (Int × Value)} {z v : Value} (ho : o.op = .lookup t x y false) (ht : P.underlying t = some (.map kt et)) (hk : P.underlying kt = some (.int .i64)) (hz : (P.info? et).map (·.zero) = some (some z))
    (hx : evL L x = some (.map (some m))) (hy : evL L y = some (.int .i64 k)) (hR : RdM S m kv) (hv : (kget kv k).getD z = v) : PV P n D L S o v := fun a w f s => by
  obtain ⟨es, clock, h1, h2⟩ := hR w s
  subst hv
  have hc := run_checkInt (P := P) (w := w) (List.toArray es).isEmpty 9999 (k := k) hk
  have hf := run_findInt (P := P) (w := w) (k := k) hk h2
  have hg : (getObj m).run P w = .ok (.map (List.toArray es) clock) w := by simp [getObj, Sem.run, h1]
  simp only [execOp, ho, f.eval hx, f.eval hy, Instr.lookup, Sem.run_bind, run_underlying ht, Result.andThen_ok, hg, hc, hf, Sem.run_pure]
  rw [← kidx_get k kv 0]
  cases hq : kidx k kv 0 with
  | none => simp [hq, run_zeroL hz]
  | some p => simp [hq]
theorem PV.lookupNil {t kt et : Nat} {x y : Operand} {k : Int} {z : Value} (ho : o.op = .lookup t x y false) (ht : P.underlying t = some (.map kt et)) (hk : P.underlying kt = some (.int .i64)) (hz : (P.info? et).map (·.zero) = some (some z))
    (hx : evL L x = some (.map none)) (hy : evL L y = some (.int .i64 k)) : PV P n D L S o z := fun a w f s => by
  have hc := run_checkInt (P := P) (w := w) (#[] : Array MapEntry).isEmpty 9999 (k := k) hk
  have hf := run_findInt (P := P) (w := w) (k := k) (es := []) (l := []) hk rfl
  simp only [execOp, ho, f.eval hx, f.eval hy, Instr.lookup, Sem.run_bind, run_underlying ht, Result.andThen_ok, hc, Sem.run_pure]
  rw [hf]
  simp [kidx, run_zeroL hz]
theorem TL.makeMap {t : TypeId} (hw : Want n D ops o L) (ho : o.op = .makeMap t none) (hd : o.dst = some d) (hn : Nat.blt d n = true)
    (h : ∀ m, TL P w0 F n ops Q l D ((d, .map (some m)) :: L) (mapP m [] :: H)) : TL P w0 F n ops Q (o :: l) D L H :=
  TL.step hw fun a w f s m => by
    unfold Oper.wp
    have r : (execOp a.eval o).run P w = .ok (.value (.map (some w.heap.size))) (w.alloc (.map #[] 0)) := by
      simp [execOp, ho, Instr.makeMap, newObj, Sem.run]
    rw [r, Oper.upon_value, hd]
    refine h _ _ _ (f.put (lb hn) _) (s.trans ⟨rfl, rfl, rfl, by simp⟩) ((m.alloc _).mono fun h s => star_mono s (fun _ x => ?_) fun _ x => x)
    exact ⟨[], 0, x, rfl⟩
theorem TL.mapUpdate {H' : List HP} {t kt et m i : Nat} {x y u : Operand} {k : Int} {kv : List (Int × Value)} {v : Value} (hw : Want n D ops o L) (ho : o.op = .mapUpdate t x y u) (hd : o.dst = none) (ht : P.underlying t = some (.map kt et)) (hk : P.underlying kt = some (.int .i64))
    (hx : evL L x = some (.map (some m))) (hy : evL L y = some (.int .i64 k)) (hu : evL L u = some v) (hi : Nat.blt i H.length = true) (hH : H.getD i (fun _ => True) = mapP m kv) (hH' : H.set i (mapP m (kput kv k v)) = H')
    (h : TL P w0 F n ops Q l D L H') : TL P w0 F n ops Q (o :: l) D L H :=
  TL.eff hw hd (fun a w f _ s => by
    obtain ⟨es, clock, h1, h2⟩ := s.map i hi hH
    have hc := run_checkInt (P := P) (w := w) false 9999 (k := k) hk
    have hf := run_findInt (P := P) (w := w) (k := k) hk h2
    have hg : (getObj m).run P w = .ok (.map (List.toArray es) clock) w := by simp [getObj, Sem.run, h1]
    have turn : ∀ es' c', pairs es' = keyed (kput kv k v) → Sat H' F { w with heap := w.heap.setIfInBounds m (.map (List.toArray es') c') } := fun es' c' he => by
      subst hH'
      have hm : m < w.heap.size := by
        by_cases q : m < w.heap.size
        · exact q
        · rw [Array.getElem?_eq_none (by omega)] at h1; cases h1
      obtain ⟨h0, d0, e0, x0⟩ := s
      obtain ⟨g1, g2, d', rfl, a0, y0⟩ := sep_get i (lb hi) x0
      rw [hH] at a0
      obtain ⟨es0, c0, a1, _⟩ := a0
      have s1 : Sat (obj m (.map (List.toArray es0) c0) :: H.eraseIdx i) F w := ⟨_, d0, e0, ⟨g1, g2, d', rfl, a1, y0⟩⟩
      have s2 := s1.write (w' := { w with heap := w.heap.setIfInBounds m (.map (List.toArray es') c') }) 0 (o' := .map (List.toArray es') c') (by simp) rfl (by simp [hm]) (fun k hk => by simp [Array.getElem?_setIfInBounds, Ne.symm hk])
      obtain ⟨h3, d3, e3, x3⟩ := s2
      obtain ⟨f1, f2, d4, rfl, a4, y4⟩ := x3
      exact ⟨_, d3, e3, sep_put i (lb hi) ⟨f1, f2, d4, rfl, ⟨es', c', a4, he⟩, y4⟩⟩
    have hset := fun o => MapKept.run_setObj_map (P := P) o h1
    simp only [execOp, ho, f.eval hx, f.eval hy, f.eval hu, Instr.mapUpdate, Sem.run_bind, run_underlying ht, Result.andThen_ok, hg, hc, hf]
    cases q : kidx k kv 0 with
    | none =>
      have e1 := kidx_none k v kv 0 q
      refine ⟨{ w with heap := w.heap.setIfInBounds m (.map (List.toArray (es ++ [{ key := .int .i64 k, val := v, born := clock }])) (clock + 1)) }, by simp [q, hset], ⟨rfl, rfl, rfl, by simp⟩, ?_⟩
      exact turn _ _ (by rw [e1]; simp only [pairs, keyed, List.map_append] at h2 ⊢; rw [h2]; rfl)
    | some p =>
      obtain ⟨j, u'⟩ := p
      obtain ⟨_, e, e1, e2, e3⟩ := kidx_some k v es kv 0 j u' h2 q
      rw [Nat.sub_zero] at e1 e3
      refine ⟨{ w with heap := w.heap.setIfInBounds m (.map (List.toArray (es.modify j fun e => { e with key := .int .i64 k, val := v })) clock) }, by simp [q, hset, Instr.keyThatStays, Instr.sameBits, e1, e2], ⟨rfl, rfl, rfl, by simp⟩, ?_⟩
      exact turn _ _ e3) h
end
end Leg
