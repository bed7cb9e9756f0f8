/-
  '==' on structs and arrays of ints: it asks whether all numbers are alike.
-/
import Derived.Test.YtdekgkmbcdlekaaLegH
import Derived.Laws.StructEq
import Derived.DeepKeys
namespace Leg
open Go Codec Api

def flatF (P : Program) (g : TypeId → Option Nat) : List Field → Nat → Option Nat
  | [], o => some o
  | f :: fs, o => match g f.type with
    | some c => if f.offset = o ∧ P.cellsOf f.type = c then flatF P g fs (o + c) else none
    | none => none
/-- A type that is ints one behind the other: how many. -/
def flatI (P : Program) : Nat → TypeId → Option Nat
  | 0, _ => none
  | d + 1, t => match P.underlying t with
    | some (.int .i64) => some 1
    | some (.array n e) => match flatI P d e with
      | some c => if P.cellsOf e = c ∧ P.cellsOf t = n * c then some (n * c) else none
      | none => none
    | some (.struct fs) => match flatF P (flatI P d) fs.toList 0 with
      | some m => if P.cellsOf t = m ∧ fs.all (·.name != "_") = true then some m else none
      | none => none
    | _ => none

theorem mapM_some {α β : Type} {f : α → Option β} {g : α → β} : ∀ {l : List α}, (∀ x ∈ l, f x = some (g x)) → l.mapM f = some (l.map g)
  | [], _ => rfl
  | x :: l, h => by
    rw [List.mapM_cons, h x (by simp), mapM_some (l := l) fun y hy => h y (by simp [hy])]
    rfl
theorem chunks {α : Type} (c : Nat) : ∀ (n : Nat) (l : List α), l.length = n * c → ((List.range n).map fun i => (l.drop (i * c)).take c).flatten = l
  | 0, l, h => by
    rw [Nat.zero_mul] at h
    rw [List.eq_nil_of_length_eq_zero h]; rfl
  | n + 1, l, h => by
    have h1 : (l.take (n * c)).length = n * c := by rw [List.length_take, h, Nat.add_mul]; omega
    have ih := chunks c n (l.take (n * c)) h1
    rw [List.range_succ, List.map_append, List.flatten_append]
    have e : ((List.range n).map fun i => (l.drop (i * c)).take c) = (List.range n).map fun i => ((l.take (n * c)).drop (i * c)).take c := by
      refine List.map_congr_left fun i hi => ?_
      have hi' : i < n := List.mem_range.1 hi
      have : (i + 1) * c ≤ n * c := Nat.mul_le_mul_right c hi'
      rw [Nat.add_mul, Nat.one_mul] at this
      rw [List.drop_take, List.take_take, show min c (n * c - i * c) = c by omega]
    rw [e, ih]
    simp only [List.map_cons, List.map_nil, List.flatten_cons, List.flatten_nil, List.append_nil]
    rw [List.take_of_length_le (l := l.drop (n * c)) (by rw [List.length_drop, h, Nat.add_mul]; omega)]
    exact List.take_append_drop _ _

def litI (l : List Int) : List Lit := l.map (Lit.int .i64)
def WF (l : List Int) : Prop := ∀ n ∈ l, (Lit.int .i64 n).wf = true
theorem WF.sub {l : List Int} (h : WF l) (a b : Nat) : WF ((l.drop a).take b) := fun n hn => h n (List.mem_of_mem_drop (List.mem_of_mem_take hn))
theorem ints_sub (l : List Int) (a b : Nat) : ((ints l).drop a).take b = ints ((l.drop a).take b) := by simp [ints, List.map_drop, List.map_take]
theorem fields_ints {P : Program} {d : Nat} (ih : ∀ t m, flatI P d t = some m → ∀ l : List Int, l.length = m → WF l → P.keyLits d t (ints l) = some (litI l)) (l : List Int) (hw : WF l) :
    ∀ (fs : List Field) (o : Nat), flatF P (flatI P d) fs o = some l.length →
      ∃ L, (fs.mapM fun f => P.keyLits d f.type (((ints l).drop f.offset).take (P.cellsOf f.type))) = some L ∧ L.flatten = litI (l.drop o)
  | [], o, h => by
    simp only [flatF, Option.some.injEq] at h
    exact ⟨[], rfl, by rw [List.drop_eq_nil_of_le (by omega)]; rfl⟩
  | f :: fs, o, h => by
    simp only [flatF] at h
    split at h
    · rename_i c hc
      split at h
      · rename_i hh
        have hle : o + c ≤ l.length := by
          clear ih
          revert h
          generalize o + c = q
          intro h
          induction fs generalizing q with
          | nil => simp only [flatF, Option.some.injEq] at h; omega
          | cons f' fs ih =>
            simp only [flatF] at h
            split at h
            · split at h
              · have := ih _ h; omega
              · cases h
            · cases h
        obtain ⟨L, h1, h2⟩ := fields_ints ih l hw fs (o + c) h
        have e : P.keyLits d f.type (((ints l).drop f.offset).take (P.cellsOf f.type)) = some (litI ((l.drop o).take c)) := by
          rw [ints_sub, hh.1, hh.2]
          exact ih f.type c hc _ (by rw [List.length_take, List.length_drop]; omega) (hw.sub _ _)
        refine ⟨litI ((l.drop o).take c) :: L, by rw [List.mapM_cons, e, h1]; rfl, ?_⟩
        rw [List.flatten_cons, h2, litI, litI, litI, ← List.map_append]
        congr 1
        rw [← List.drop_drop]
        exact List.take_append_drop _ _
      · cases h
    · cases h
theorem keyLits_ints {P : Program} : ∀ (d : Nat) (t m : Nat), flatI P d t = some m → ∀ l : List Int, l.length = m → WF l → P.keyLits d t (ints l) = some (litI l)
  | 0, _, _, h => by simp [flatI] at h
  | d + 1, t, m, h => fun l hl hw => by
    have ih := keyLits_ints (P := P) d
    simp only [flatI] at h
    split at h
    · rename_i hu
      simp only [Option.some.injEq] at h
      subst h
      obtain ⟨n, rfl⟩ := List.length_eq_one_iff.1 hl
      have := hw n (by simp)
      simp [Program.keyLits, hu, ints, litI, this]
    · rename_i n e hu
      split at h
      · rename_i c hc
        split at h
        · rename_i hh
          simp only [Option.some.injEq] at h
          subst h
          have hlen : (ints l).length = P.cellsOf t := by rw [ints_length, hl, hh.2]
          have hm : ((List.range n).mapM fun i => P.keyLits d e (((ints l).drop (i * P.cellsOf e)).take (P.cellsOf e))) = some ((List.range n).map fun i => litI ((l.drop (i * c)).take c)) := by
            refine mapM_some fun i hi => ?_
            have hi' : i < n := List.mem_range.1 hi
            have : (i + 1) * c ≤ n * c := Nat.mul_le_mul_right c hi'
            rw [Nat.add_mul, Nat.one_mul] at this
            rw [hh.1, ints_sub]
            exact ih e c hc _ (by rw [List.length_take, List.length_drop, hl]; omega) (hw.sub _ _)
          have hf : (((List.range n).map fun i => litI ((l.drop (i * c)).take c))).flatten = litI l := by
            have := congrArg litI (chunks c n l hl)
            rw [← this, litI, List.map_flatten, List.map_map]
            rfl
          unfold Program.keyLits
          simp only [hu]
          rw [if_pos hlen, hm, Option.map_some, hf]
        · cases h
      · cases h
    · rename_i fs hu
      split at h
      · rename_i m' hc
        split at h
        · rename_i hh
          simp only [Option.some.injEq] at h
          subst h
          have hlen : (ints l).length = P.cellsOf t := by rw [ints_length, hl, hh.1]
          obtain ⟨L, h1, h2⟩ := fields_ints (P := P) (d := d) (fun t m h l => ih t m h l) l hw fs.toList 0 (by rw [hc, hl])
          unfold Program.keyLits
          simp only [hu]
          rw [if_pos ⟨hlen, hh.2⟩, h1, Option.map_some, h2]
          rfl
        · cases h
      · cases h
    · cases h
section
variable {P : Program} {n : Nat} {D : List Deferred} {L : List (Nat × Value)} {S : World → Prop} {o : Oper}
theorem PV.eqlAgg {t t' : TypeId} {x y : Operand} {a b : List Int} {m c : Nat} (hg : P.eqGuardType P.depth t = false) (hk : P.keyTypeAt m t = true) (hm : Nat.ble m 10000 = true) (hF : flatI P m t = some c) (ha : a.length = c) (hb : b.length = c)
    (hf : (agI a).formed P t = true ∧ (agI b).formed P t = true) (wa : WF a) (wb : WF b)
    (ho : o.op = .binOp .eql t x y t') (hx : evL L x = some (agI a)) (hy : evL L y = some (agI b)) : PV P n D L S o (.bool (decide (a = b))) :=
  PV.bin ho hx hy fun w => by
    have hm' : m ≤ 10000 := Nat.le_of_ble_eq_true hm
    obtain ⟨r, hr, hi⟩ := run_equalIn_deep (10000 - m) m t hk w m m (agI a) (agI b) (litI a) (litI b) hf.1 hf.2 (by simpa [agI, Value.cells] using keyLits_ints m t c hF a ha wa) (by simpa [agI, Value.cells] using keyLits_ints m t c hF b hb wb)
    rw [show 10000 - m + m = 10000 by omega] at hr
    have e : r = decide (a = b) := by
      rw [Bool.eq_iff_iff, hi, decide_eq_true_iff]
      constructor
      · intro h
        have hj : Function.Injective (Lit.int IntKind.i64) := fun u v h => by injection h
        exact (List.map_inj_right fun u v h => hj h).1 h
      · rintro rfl; rfl
    subst e
    simp only [agI] at hr ⊢
    rw [Sem.run_bind, run_eqGuard_agg w .eql t x y _ _ hg, Result.andThen_ok, run_eql_struct, hr]
    rfl
end
section
variable {P : Program} {n : Nat} {D : List Deferred} {L : List (Nat × Value)} {S : World → Prop} {o : Oper}
/-- A slice's first elements. -/
theorem PV.sliceHi {t e : TypeId} {x y : Operand} {a : Addr} {len cap k : Nat} {kk : IntKind} {i : Int} (ho : o.op = .slice t x none (some y) none) (ht : P.underlying t = some (.slice e))
    (hs : (P.info? e).map (·.size) = some 1) (hx : evL L x = some (.slice (some a) len cap)) (hy : evL L y = some (.int kk i)) (hk : i = (k : Int)) (h1 : k ≤ cap) (hc : 0 < cap) : PV P n D L S o (.slice (some a) k cap) :=
  fun b w g _ => by
    subst hk
    simp only [execOp, ho, g.eval hx, Option.map_some, Option.map_none, g.eval hy]
    have h0 : ¬ cap = 0 := by omega
    simp [Instr.sliceAt, Instr.slice, run_underlying ht, Instr.sliceBounds, Instr.sliceBound, asIntOf, h1, run_sizeL hs, h0, Addr.add]
end
/-- A piece's bytes, lent to be read. -/
theorem isB_piece {F : Hl} (i : Nat) {g cap nn T : Nat} {cur : List Value} {bs : List UInt8} {B : List HP} (m : Nat) (hm : m ≤ bs.length) (hc : bs.length ≤ cap) (h2 : cap ≤ maxLen) (hl : cur.take nn = u8s bs) (hn : nn = bs.length) (hi : Nat.blt i B.length = true) (e : B.getD i (fun _ => True) = blkA g cur T) :
    ∀ h, Dj h F → sep B h → IsB (.slice (some ⟨g, 0, none⟩) m cap) (bs.take m) (jn h F) := fun h d s => by
  have hlen : (bs.take m).length = m := by rw [List.length_take]; omega
  refine .inr ⟨g, 0, cap, cur, T, (0, 0), by rw [hlen], by omega, by simp only [maxLen] at h2; omega, ro_piece i hi e h d s, fun j hj => ?_⟩
  rw [hlen] at hj
  have e1 := congrArg (fun l => l[j]?) hl
  simp only [List.getElem?_take] at e1
  rw [if_pos (by omega)] at e1
  rw [Nat.zero_add, e1]
  simp [u8s, List.getD_eq_getElem?_getD, List.getElem?_take, hj, show j < bs.length by omega]
theorem remNat (n : Int) (L : Nat) : (n % 65536).tmod ((L : Nat) : Int) = (((n % 65536).toNat % L : Nat) : Int) := by
  have h : n % 65536 = (((n % 65536).toNat : Nat) : Int) := by omega
  generalize (n % 65536).toNat = q at *
  rw [h, ← Int.ofNat_tmod]
/-- Numbers that lie in a row of pieces. -/
theorem agg_in {P : Program} {W : World} {t u : TypeId} {v : Value} {B c : Nat} {ts : List TypeId} (ht : (match P.underlying t with | some (.array _ _) | some (.struct _) => true | _ => false) = true) (hc : P.cellsOf t = c) (hcs : P.cellTypes P.depth t = some ts) (hts : ts.length = c ∧ ∀ x ∈ ts, x = u) (hu : P.underlying u = some (.int .i64)) (hpos : Nat.blt 0 c = true)
    (hv : Value.okWide P W .any B t v) : ∃ l, v = agI l ∧ l.length = c ∧ WF l := by
  have h : ∃ cs, v = .agg cs ∧ cs.size = P.cellsOf t ∧ Row.okWide P W .any B t cs := by
    unfold Value.okWide at hv
    split at hv
    · exact hv
    · exact hv
    · rename_i h1 h2
      split at ht
      · rename_i h; exact absurd h (h2 _ _)
      · rename_i h; exact absurd h (h1 _)
      · cases ht
  obtain ⟨cs, rfl, hs, ts', h1, h2, h3⟩ := h
  rw [hcs] at h1
  injection h1 with h1
  subst h1
  have each : ∀ i w, cs[i]? = some w → ∃ n, w = Value.int .i64 n ∧ (Lit.int .i64 n).wf = true := fun i w hw => by
    obtain ⟨x, hx, hok⟩ := h3 i w hw
    have hxu : x = u := hts.2 x (List.mem_of_getElem? hx)
    subst hxu
    simp only [Cell.okWide, hu] at hok
    cases w <;> simp only [Cell.ok, hu] at hok
    case int k n =>
      obtain ⟨rfl, h4⟩ := hok
      exact ⟨n, rfl, by simpa [Lit.wf, IntKind.has] using h4⟩
  refine ⟨cs.toList.map fun w : Value => match w with | .int _ n => n | _ => 0, ?_, by simp [hs, hc], fun n hn => ?_⟩
  · simp only [agI]
    congr 1
    apply Array.ext'
    simp only [List.toList_toArray, ints, List.map_map]
    conv => lhs; rw [← List.map_id cs.toList]
    refine List.map_congr_left fun w hw => ?_
    obtain ⟨i, hi⟩ := List.getElem?_of_mem hw
    obtain ⟨n, rfl, _⟩ := each i w (by simpa using hi)
    rfl
  · obtain ⟨w, hw, rfl⟩ := List.mem_map.1 hn
    obtain ⟨i, hi⟩ := List.getElem?_of_mem hw
    obtain ⟨n, rfl, h4⟩ := each i w (by simpa using hi)
    exact h4
end Leg
