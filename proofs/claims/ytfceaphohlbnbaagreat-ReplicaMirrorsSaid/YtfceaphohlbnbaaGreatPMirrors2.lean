/-
  Joined texts: what a statement's proof reaches.
-/
import Derived.Laws.MakeOwn
import Derived.OwnWalk
import Derived.Test.YtfceaphohlbnbaaGreatPMirrors1
set_option maxHeartbeats 8000000
section
namespace Codec
open Go Leg Api

def zero4 : Vector CellT 4 := #v[CellT.zero, CellT.zero, CellT.zero, CellT.zero]
def tameC (c : CellT) : CellT := ⟨m40 c.inn, m40 c.out, c.given.map m40⟩
theorem tameC_ok (c : CellT) : TameC (tameC c) := by
  have h := fun n => m40_lt n
  refine ⟨⟨(h _).1, by have := (h c.inn).2; show m40 c.inn < _; omega⟩, ⟨(h _).1, by have := (h c.out).2; show m40 c.out < _; omega⟩, fun j hj => ?_⟩
  show Small ((c.given.map m40)[j])
  rw [Vector.getElem_map]
  exact ⟨(h _).1, by have := (h c.given[j]).2; omega⟩
theorem tameC_zero : tameC CellT.zero = CellT.zero := by
  simp only [tameC, CellT.zero, CellT.mk.injEq]
  exact ⟨by decide, by decide, by simp [m40]⟩
def T1 (k : Nat) (x : RowT) : Prop := k ≤ 4 ∧ (0 ≤ x.version ∧ x.version < 9223372036854775808) ∧ ∀ (j : Nat) (h : j < 4), j < k → TameC x.cells[j]
def T2 (i : Nat) (x : RowT) : Prop := i ≤ 5 ∧ (0 ≤ x.version ∧ x.version < 9223372036854775808) ∧ (∀ (j : Nat) (h : j < 4), TameC x.cells[j]) ∧
  ∀ (j : Nat) (h : j < 5), j < i → (0 ≤ x.heir[j] ∧ x.heir[j] < 9223372036854775808) ∧ (∀ (k : Nat) (hk : k < 4), TameC x.left[j][k]) ∧ (x.heir[j] = 0 → x.left[j] = zero4)
def T3 (i k : Nat) (x : RowT) : Prop := k ≤ 4 ∧ i < 5 ∧ T2 i x ∧ ∀ h : i < 5, (0 ≤ x.heir[i] ∧ x.heir[i] < 9223372036854775808) ∧ (∀ (j : Nat) (hj : j < 4), j < k → TameC x.left[i][j]) ∧ (x.heir[i] = 0 → x.left[i] = zero4)
theorem T1.start (x : RowT) : T1 0 { x with version := m50 x.version } := ⟨by omega, by have := m50_lt x.version; exact ⟨this.1, by show m50 x.version < _; omega⟩, fun j h h' => by omega⟩
theorem T1.step {k : Nat} {x : RowT} (t : T1 k x) (h : k < 4) : T1 (k + 1) { x with cells := x.cells.set k (tameC x.cells[k]) } :=
  ⟨by omega, t.2.1, fun j hj hjk => by
    show TameC (x.cells.set k _)[j]
    rw [Vector.getElem_set]
    split
    · exact tameC_ok _
    · exact t.2.2 j hj (by omega)⟩
theorem T1.done {k : Nat} {x : RowT} (t : T1 k x) (h : ¬ k < 4) : T2 0 x := ⟨by omega, t.2.1, fun j hj => t.2.2 j hj (by omega), fun j _ h => by omega⟩
theorem T2.none {i : Nat} {x : RowT} (t : T2 i x) (h : i < 5) (h0 : m30 x.heir[i] = 0) : T3 i 0 { x with heir := x.heir.set i (m30 x.heir[i]), left := x.left.set i zero4 } := by
  refine ⟨by omega, h, ⟨t.1, t.2.1, t.2.2.1, fun j hj hji => ?_⟩, fun _ => ?_⟩
  · simp only [Vector.getElem_set_ne _ _ (show i ≠ j by omega)]
    exact t.2.2.2 j hj hji
  · simp only [Vector.getElem_set_self]
    have := m30_lt x.heir[i]
    exact ⟨⟨this.1, by omega⟩, fun j _ h => by omega, by simp⟩
theorem T2.some {i : Nat} {x : RowT} (t : T2 i x) (h : i < 5) (h0 : ¬ m30 x.heir[i] = 0) : T3 i 0 { x with heir := x.heir.set i (m30 x.heir[i]) } := by
  refine ⟨by omega, h, ⟨t.1, t.2.1, t.2.2.1, fun j hj hji => ?_⟩, fun _ => ?_⟩
  · simp only [Vector.getElem_set_ne _ _ (show i ≠ j by omega)]
    exact t.2.2.2 j hj hji
  · simp only [Vector.getElem_set_self]
    have := m30_lt x.heir[i]
    exact ⟨⟨this.1, by omega⟩, fun j _ h => by omega, fun h => absurd h h0⟩
theorem T3.step {i k : Nat} {x : RowT} (t : T3 i k x) (hi : i < 5) (h : k < 4) : T3 i (k + 1) { x with left := x.left.set i ((x.left[i]).set k (tameC x.left[i][k])) } := by
  obtain ⟨h1, h2, h3, h4⟩ := t
  have h5 := h4 hi
  refine ⟨by omega, h2, ⟨h3.1, h3.2.1, h3.2.2.1, fun j hj hji => ?_⟩, fun _ => ?_⟩
  · simp only [Vector.getElem_set_ne _ _ (show i ≠ j by omega)]
    exact h3.2.2.2 j hj hji
  · simp only [Vector.getElem_set_self]
    refine ⟨h5.1, fun j hj hjk => ?_, fun hz => ?_⟩
    · rw [Vector.getElem_set]
      split
      · exact tameC_ok _
      · exact h5.2.1 j hj (by omega)
    · have e := h5.2.2 hz
      simp only [e]
      apply Vector.ext
      intro j hj
      have hzj : ∀ (j : Nat) (hj : j < 4), zero4[j] = CellT.zero := fun j hj => by
        match j, hj with
        | 0, _ => rfl
        | 1, _ => rfl
        | 2, _ => rfl
        | 3, _ => rfl
      rw [Vector.getElem_set]
      split
      · rw [hzj k h, tameC_zero, hzj j hj]
      · rfl
theorem T3.done {i k : Nat} {x : RowT} (t : T3 i k x) (h : ¬ k < 4) : T2 (i + 1) x := by
  obtain ⟨h1, h2, h3, h4⟩ := t
  have h5 := h4 h2
  refine ⟨by omega, h3.2.1, h3.2.2.1, fun j hj hji => ?_⟩
  by_cases e : j = i
  · subst e
    exact ⟨h5.1, fun k hk => h5.2.1 k hk (by omega), h5.2.2⟩
  · exact h3.2.2.2 j hj (by omega)
theorem T2.tame {i : Nat} {x : RowT} (t : T2 i x) (h : ¬ i < 5) : TameR x :=
  ⟨t.2.1, t.2.2.1, fun j hj => (t.2.2.2 j hj (by omega)).1, fun j k hj hk => (t.2.2.2 j hj (by omega)).2.1 k hk, fun j hj h => (t.2.2.2 j hj (by omega)).2.2 h⟩
theorem wf_small {n : Int} (h : 0 ≤ n ∧ n < 9223372036854775808) : (Lit.int .i64 n).wf = true := by
  have m1 : IntKind.i64.min = -9223372036854775808 := by decide
  have m2 : IntKind.i64.max = 9223372036854775807 := by decide
  simp only [Lit.wf, m1, m2, Bool.and_eq_true, decide_eq_true_eq]
  omega
theorem TameC.wf {c : CellT} (h : TameC c) : WF c.flat := fun n hn => by
  simp only [CellT.flat, List.mem_cons] at hn
  have s : ∀ n, Small n → (Lit.int .i64 n).wf = true := fun n h => wf_small ⟨h.1, by have := h.2; omega⟩
  rcases hn with rfl | rfl | hn
  · exact s _ h.inn
  · exact s _ h.out
  · obtain ⟨j, hj, rfl⟩ := List.getElem_of_mem hn
    rw [Vector.length_toList] at hj
    have := s _ (h.given j hj)
    simpa using this
theorem wf_flats {v : Vector CellT 4} (h : ∀ (k : Nat) (hk : k < 4), TameC v[k]) : WF (flats v.toList) := fun n hn => by
  obtain ⟨c, hc, hn⟩ := List.mem_flatMap.1 hn
  obtain ⟨j, hj, rfl⟩ := List.getElem_of_mem hc
  rw [Vector.length_toList] at hj
  have := (h j hj).wf n
  simp only [Vector.getElem_toList] at hn
  exact this hn
theorem TameR.wf {x : RowT} (h : TameR x) : WF x.flat := fun n hn => by
  simp only [RowT.flat, List.mem_cons, List.mem_append] at hn
  rcases hn with rfl | hn | hn | hn
  · exact wf_small h.version
  · exact wf_flats h.cells n hn
  · obtain ⟨j, hj, rfl⟩ := List.getElem_of_mem hn
    rw [Vector.length_toList] at hj
    simpa using wf_small (h.heir j hj)
  · obtain ⟨v, hv, hn⟩ := List.mem_flatMap.1 hn
    obtain ⟨j, hj, rfl⟩ := List.getElem_of_mem hv
    rw [Vector.length_toList] at hj
    simp only [Vector.getElem_toList] at hn
    exact wf_flats (fun k hk => h.left j k hj hk) n hn
theorem wf_zero : WF RowT.zero.flat := fun n hn => by
  rw [RowT.flat_zero] at hn
  obtain rfl := List.eq_of_mem_replicate hn
  decide
theorem formed_ag {P : Program} {t : TypeId} {l : List Int} {c : Nat} (hu : (match P.underlying t with | some (.struct _) | some (.array _ _) => true | _ => false) = true) (hc : P.cellsOf t = c) (hl : l.length = c) : (agI l).formed P t = true := by
  have e : ((ints l).toArray.size == P.cellsOf t) = true := by simp [ints, hl, hc]
  unfold agI Value.formed
  split at hu
  · rename_i h; simp only [h]; exact e
  · rename_i h; simp only [h]; exact e
  · cases hu
theorem CellT.of : ∀ l : List Int, l.length = 7 → ∃ c : CellT, c.flat = l
  | [i, o, a, b, c, d, e], _ => ⟨⟨i, o, #v[a, b, c, d, e]⟩, rfl⟩
theorem flats_of : ∀ (n : Nat) (l : List Int), l.length = 7 * n → ∃ cs : List CellT, cs.length = n ∧ flats cs = l
  | 0, l, h => ⟨[], rfl, (List.eq_nil_of_length_eq_zero (by omega)).symm⟩
  | n + 1, l, h => by
    obtain ⟨c, hc⟩ := CellT.of (l.take 7) (by rw [List.length_take]; omega)
    obtain ⟨cs, h1, h2⟩ := flats_of n (l.drop 7) (by rw [List.length_drop]; omega)
    refine ⟨c :: cs, by simp [h1], ?_⟩
    rw [flats, List.flatMap_cons, hc]
    have : List.flatMap CellT.flat cs = flats cs := rfl
    rw [this, h2, List.take_append_drop]
theorem vec_of {α : Type} {n : Nat} (l : List α) (h : l.length = n) : ∃ v : Vector α n, v.toList = l := ⟨⟨l.toArray, by simpa using h⟩, by simp⟩
theorem lefts_of : ∀ (n : Nat) (l : List Int), l.length = 28 * n → ∃ vs : List (Vector CellT 4), vs.length = n ∧ (vs.flatMap fun v => flats v.toList) = l
  | 0, l, h => ⟨[], rfl, (List.eq_nil_of_length_eq_zero (by omega)).symm⟩
  | n + 1, l, h => by
    obtain ⟨c, hc1, hc2⟩ := flats_of 4 (l.take 28) (by rw [List.length_take]; omega)
    obtain ⟨v, rfl⟩ := vec_of c hc1
    obtain ⟨vs, h1, h2⟩ := lefts_of n (l.drop 28) (by rw [List.length_drop]; omega)
    exact ⟨v :: vs, by simp [h1], by rw [List.flatMap_cons, hc2, h2, List.take_append_drop]⟩
theorem RowT.of (l : List Int) (h : l.length = 174) : ∃ x : RowT, x.flat = l := by
  match l, h with
  | n :: l, h =>
    have h' : l.length = 173 := by simpa using h
    obtain ⟨cs, hc1, hc2⟩ := flats_of 4 (l.take 28) (by rw [List.length_take]; omega)
    obtain ⟨cv, rfl⟩ := vec_of cs hc1
    obtain ⟨hv, hh⟩ := vec_of (n := 5) ((l.drop 28).take 5) (by rw [List.length_take, List.length_drop]; omega)
    obtain ⟨vs, hv1, hv2⟩ := lefts_of 5 (l.drop 33) (by rw [List.length_drop]; omega)
    obtain ⟨lv, rfl⟩ := vec_of vs hv1
    refine ⟨⟨n, cv, hv, lv⟩, ?_⟩
    simp only [RowT.flat]
    rw [hc2, hh, hv2]
    congr 1
    rw [show l.drop 33 = (l.drop 28).drop 5 by rw [List.drop_drop], List.take_append_drop, List.take_append_drop]
theorem flat7_inj {c d : CellT} (h : c.flat = d.flat) : c = d := by
  obtain ⟨i, o, g⟩ := c
  obtain ⟨i', o', g'⟩ := d
  simp only [CellT.flat, List.cons.injEq] at h
  obtain ⟨rfl, rfl, h⟩ := h
  rw [Vector.toList_inj.1 h]
end Codec
end

section
namespace Codec
open Go Leg Api

theorem tame_zero : TameC CellT.zero := by rw [← tameC_zero]; exact tameC_ok _
end Codec
end

section
namespace Api
open Go Leg Codec

def okN (n : Int) : Bool := decide (0 ≤ n ∧ n ≤ 1099511627776)
def addE : List Int → Int → Int × Int
  | [], s => (s, 0)
  | n :: l, s => if okN n then (if n > 1099511627776 - s then (0, 6) else addE l (s + n)) else (0, 5)
def okC (c : CellT) : Bool := okN c.inn && okN c.out && decide ((addE c.given.toList 0).2 = 0)
def okCs (v : Vector CellT 4) : Bool := decide (∀ k (h : k < 4), okC v[k] = true)
def hokR (h : Int) (l : Vector CellT 4) : Bool := decide (0 ≤ h) && okCs l && decide (h = 0 → flats l.toList = flats RowT.zero.left[0].toList)
def rightR (x : RowT) : Bool := decide (0 ≤ x.version) && okCs x.cells && decide (∀ j (h : j < 5), hokR x.heir[j] x.left[j] = true)
def machB (w : Int) : Bool := decide (0 ≤ w ∧ w < 5)
def bitB (m w : Int) : Bool := decide ((m.fdiv (2 ^ min w.toNat IntKind.i64.bits)) % 2 = 1)
def memb (v : ViewT) (w : Int) : Bool := machB w && bitB v.members w
def okH (v : ViewT) (h : Int) (i : Nat) : Bool := decide (h = 0) || (memb v (h - 1) && !memb v (i : Int))
def rightV (v : ViewT) : Bool := decide (1 ≤ v.epoch ∧ 1 ≤ v.members ∧ v.members < 32) && @decide (∀ (j : Nat) (h : j < 5), okH v (v.heirs[j]'h) j = true) (Nat.decidableBallLT 5 fun j h => okH v (v.heirs[j]'h) j = true)
def firstV : ViewT := ⟨1, 7, #v[0, 0, 0, 0, 0]⟩
def heirV (v : ViewT) (w : Int) : Option Int := if h : 0 ≤ w ∧ w < 5 then (if v.heirs[w.toNat] < 1 then none else some (v.heirs[w.toNat] - 1)) else none
def leaveH (c : ChangeT) (i : Nat) (h : Int) : Int := if (i : Int) = c.who ∨ h = c.who + 1 then c.heir + 1 else h
def Rng (v : ViewT) : Prop := ∀ (i : Nat) (h : i < 5), 0 ≤ v.heirs[i] ∧ v.heirs[i] ≤ 5
def leaveV (v : ViewT) (c : ChangeT) : Vector Int 5 := v.heirs.mapIdx (leaveH c)
def nextV (v : ViewT) (c : ChangeT) : ViewT × Int :=
  if !machB c.who || !machB c.heir then (ViewT.zero, 5)
  else if c.kind = 0 then
    if (heirV v c.who).isSome || memb v c.who then (ViewT.zero, 5)
    else (⟨IntKind.i64.wrap (v.epoch + 1), orI .i64 v.members (2 ^ c.who.toNat), v.heirs⟩, 0)
  else if c.kind = 1 then
    if !memb v c.who || !memb v c.heir || decide (c.heir = c.who) then (ViewT.zero, 5)
    else (⟨IntKind.i64.wrap (v.epoch + 1), andNotI .i64 v.members (2 ^ c.who.toNat), leaveV v c⟩, 0)
  else (ViewT.zero, 5)
theorem add_step {l : List Int} {k : Nat} {s : Int} (h : k < l.length) : addE (l.drop k) s = if okN (l.getD k 0) then (if l.getD k 0 > 1099511627776 - s then (0, 6) else addE (l.drop (k + 1)) (s + l.getD k 0)) else (0, 5) := by
  rw [List.drop_eq_getElem_cons h, addE]; simp [List.getD_eq_getElem?_getD, h]
theorem bit_one (x : Int) : andI .i64 x 1 = x % 2 := mask (k := 1) (by decide) x
theorem shl_one {w : Int} (h : 0 ≤ w ∧ w < 5) : IntKind.i64.wrap (1 * 2 ^ min w.toNat IntKind.i64.bits) = 2 ^ w.toNat := by
  obtain ⟨m, rfl⟩ := Int.eq_ofNat_of_zero_le h.1
  have : m < 5 := by omega
  match m, this with
  | 0, _ | 1, _ | 2, _ | 3, _ | 4, _ => rfl
end Api
namespace Leg
section
open Go
variable {P : Program} {n : Nat} {D : List Deferred} {L : List (Nat × Value)} {S : World → Prop} {o : Oper}
theorem ints_len {l : List Int} {n : Nat} (h : (Api.ints l).length = n) : l.length = n := by rwa [Api.ints_length] at h
theorem PV.neqAgg {t t' : TypeId} {x y : Operand} {a b : List Int} {m c : Nat} (hg : P.eqGuardType P.depth t = false) (hk : P.keyTypeAt m t = true) (hm : Nat.ble m 10000 = true) (hF : flatI P m t = some c) (ha : a.length = c) (hb : b.length = c)
    (hf : (Api.agI a).formed P t = true ∧ (Api.agI b).formed P t = true) (wa : WF a) (wb : WF b)
    (ho : o.op = .binOp .neq t x y t') (hx : evL L x = some (Api.agI a)) (hy : evL L y = some (Api.agI b)) : PV P n D L S o (.bool (decide (a ≠ b))) :=
  PV.bin ho hx hy fun w => by
    have hm' : m ≤ 10000 := Nat.le_of_ble_eq_true hm
    obtain ⟨r, hr, hi⟩ := run_equalIn_deep (10000 - m) m t hk w m m (Api.agI a) (Api.agI b) (litI a) (litI b) hf.1 hf.2 (by simpa [Api.agI, Value.cells] using keyLits_ints m t c hF a ha wa) (by simpa [Api.agI, Value.cells] using keyLits_ints m t c hF b hb wb)
    rw [show 10000 - m + m = 10000 by omega] at hr
    have e : r = decide (a = b) := by
      rw [Bool.eq_iff_iff, hi, decide_eq_true_iff]
      constructor
      · intro h
        have hj : Function.Injective (Lit.int IntKind.i64) := fun u v h => by injection h
        exact (List.map_inj_right fun u v h => hj h).1 h
      · rintro rfl; rfl
    subst e
    simp only [Api.agI] at hr ⊢
    rw [Sem.run_bind, run_eqGuard_agg w .neq t x y _ _ hg, Result.andThen_ok, run_neq_struct, hr]
    simp
theorem TE.retCT {w0 : World} {F : Hl} {H H' : List HP} {fn : Func} {post : Ending → List HP → Prop} {t t' ty e m b : Nat} {cs : List Value} {z : Nat × Nat} {dt : TypeDesc} {v' : Value} (hr : fn.results = #[.cell t ty, .tmp t']) (he : lk L t = some (.pointer (some ⟨b, 0, none⟩))) (e' : lk L t' = some v')
    (hu : P.underlying ty = some dt) (hp : plainT dt = false) (hm : (P.info? ty).map (·.size) = some m) (hR : Rd (Sat H F) b (.cells cs.toArray e z)) (hl : cs.length = m) (hk : ∀ h, sep H h → sep H' h)
    (h : post (.returned (.tuple #[.agg cs.toArray, v'])) H') : TE w0 F n (bodyPost P fn (postOf post w0 F)) .ret [] L H := fun a w f s q => by
  have h1 : a.tmps.getD t undef = .pointer (some ⟨b, 0, none⟩) := f.eval (x := .tmp t) he
  have h2 : a.tmps.getD t' undef = v' := f.eval (x := .tmp t') e'
  have h3 : (results fn a.tmps).run P w = .ok (.tuple #[.agg cs.toArray, v']) w := by
    have h1' : a.tmps[t]?.getD undef = .pointer (some ⟨b, 0, none⟩) := by simpa using h1
    have h2' : a.tmps[t']?.getD undef = v' := by simpa using h2
    simp [results, hr, h1', h2', asAddr, run_loadVar_row w b e ty cs.toArray z dt (hR w q) hu (by cases dt <;> simp [plainT] at hp ⊢) (by simp [hm, hl])]
  exact bodyPost_ret h3 f.2.1 ⟨s, H', q.mono hk, h⟩
theorem PV.andNot {t t' : TypeId} {x y : Operand} {k : IntKind} {a b r : Int} (ho : o.op = .binOp .andNot t x y t') (hx : evL L x = some (.int k a)) (hy : evL L y = some (.int k b)) (hr : andNotI k a b = r) : PV P n D L S o (.int k r) :=
  PV.bin ho hx hy (fun w => by rw [run_binI]; subst hr; simp [binOp, Op.intBits, andNotI])
end
end Leg
end

section
namespace Go.Proofs.YtfceaphohlbnbaaGreat

open Go Leg Codec Api

set_option maxRecDepth 100000

theorem mixed : Tryz.prog.follows .mixedOrders = true := by kernel_rfl

end Go.Proofs.YtfceaphohlbnbaaGreat
end

section
namespace Go.Proofs.YtfceaphohlbnbaaGreat

open Go Leg Codec Api

set_option linter.unusedSimpArgs false
set_option linter.unusedVariables false

set_option maxRecDepth 100000

set_option maxHeartbeats 8000000

theorem numRight_does (n : Int) :
    Does Tryz.prog 95 #[(.int .i64 (n))] (fun _ => True) [] (Ret (fun r' H => r' = .bool (okN n) ∧ H = [])) := by
 refine Does.body (vs := [(.int .i64 (n))]) (n := 9) Tryz.func95 rfl rfl rfl (fun w0 F hF => ?_)
 refine sr fun _ J1 => ?_
 refine sg' ?_
 refine nx J1 ?_
 refine sr fun _ J2 => ?_
 refine mv ?_
 refine tp (PV.geq rfl rfl rfl) ?_
 refine TL.dec (fun h4 => ?_) (fun h4 => ?_)
 refine mv ?_
 refine tq (PV.move rfl rfl) ?_
 refine tq (PV.leq rfl rfl rfl) ?_
 refine tp (PV.pick rfl rfl rfl) ?_
 refine sg' ?_
 refine nx J2 ?_
 refine TC.ret ?_
 refine TE.ret1 rfl rfl ?_
 exact ⟨congrArg Value.bool (by unfold okN; first | (rw [decide_eq_decide]; omega) | (symm; rw [decide_eq_false_iff_not]; omega) | (symm; rw [decide_eq_true_iff]; omega)), rfl⟩
 refine mv ?_
 refine TL.unmet (b := false) rfl rfl rfl rfl (lb rfl) ?_
 refine TL.unmet (b := false) rfl rfl rfl rfl (lb rfl) ?_
 refine tp (PV.pick rfl rfl rfl) ?_
 refine sg' ?_
 refine nx J2 ?_
 refine TC.ret ?_
 refine TE.ret1 rfl rfl ?_
 exact ⟨congrArg Value.bool (by unfold okN; first | (rw [decide_eq_decide]; omega) | (symm; rw [decide_eq_false_iff_not]; omega) | (symm; rw [decide_eq_true_iff]; omega)), rfl⟩
theorem vmachine_does (w : Int) :
    Does Tryz.prog 53 #[(.int .i64 (w))] (fun _ => True) [] (Ret (fun r' H => r' = .bool (machB w) ∧ H = [])) := by
 refine Does.body (vs := [(.int .i64 (w))]) (n := 9) Tryz.func53 rfl rfl rfl (fun w0 F hF => ?_)
 refine sr fun _ J1 => ?_
 refine sg' ?_
 refine nx J1 ?_
 refine sr fun _ J2 => ?_
 refine mv ?_
 refine tp (PV.geq rfl rfl rfl) ?_
 refine TL.dec (fun h4 => ?_) (fun h4 => ?_)
 refine mv ?_
 refine tq (PV.move rfl rfl) ?_
 refine tq (PV.lss rfl rfl rfl) ?_
 refine tp (PV.pick rfl rfl rfl) ?_
 refine sg' ?_
 refine nx J2 ?_
 refine TC.ret ?_
 refine TE.ret1 rfl rfl ?_
 exact ⟨congrArg Value.bool (by unfold machB; first | (rw [decide_eq_decide]; omega) | (symm; rw [decide_eq_false_iff_not]; omega) | (symm; rw [decide_eq_true_iff]; omega)), rfl⟩
 refine mv ?_
 refine TL.unmet (b := false) rfl rfl rfl rfl (lb rfl) ?_
 refine TL.unmet (b := false) rfl rfl rfl rfl (lb rfl) ?_
 refine tp (PV.pick rfl rfl rfl) ?_
 refine sg' ?_
 refine nx J2 ?_
 refine TC.ret ?_
 refine TE.ret1 rfl rfl ?_
 exact ⟨congrArg Value.bool (by unfold machB; first | (rw [decide_eq_decide]; omega) | (symm; rw [decide_eq_false_iff_not]; omega) | (symm; rw [decide_eq_true_iff]; omega)), rfl⟩
theorem member_does (v : ViewT) (w : Int) :
    Does Tryz.prog 38 #[(.agg (ints v.flat).toArray), (.int .i64 (w))] (fun _ => True) [] (Ret (fun r' H => r' = .bool (memb v w) ∧ H = [])) := by
 refine Does.body (vs := [(.agg (ints v.flat).toArray), (.int .i64 (w))]) (n := 15) Tryz.func38 rfl rfl rfl (fun w0 F hF => ?_)
 refine sr fun _ J1 => ?_
 refine TL.box (Want.plain rfl) rfl rfl rfl rfl (fun b2 => ?_)
 change TL _ _ _ _ _ _ _ _ _ [blkA b2 (ints v.flat) 52]
 refine sg' ?_
 refine nx J1 ?_
 refine sr fun _ J2 => ?_
 refine mv ?_
 refine TL.callR (A := []) (Want.plain rfl) rfl rfl rfl nm53 rfl (vmachine_does w) (fun _ s => s) (fun _ _ _ => trivial) (fun vR HR hR => ?_)
 obtain ⟨rfl, rfl⟩ := hR
 change TL _ _ _ _ _ _ _ _ _ [blkA b2 (ints v.flat) 52]
 refine TL.decB (fun h6 => ?_) (fun h6 => ?_)
 have hm : 0 ≤ w ∧ w < 5 := of_decide_eq_true h6
 refine mv ?_
 refine tq (PV.fieldAddr (r := 1) rfl Tryz.underlying52 rfl sz3 rfl rfl) ?_
 refine tq (PV.load1 (v := (.int .i64 (v.members))) rfl Tryz.underlying3 rfl rfl (Rd.own 0 rfl rfl) (ViewT.at_members v rfl)) ?_
 refine tq (PV.move rfl rfl) ?_
 refine tq (PV.shr (r := (v.members.fdiv (2 ^ min w.toNat IntKind.i64.bits))) rfl rfl rfl (by omega) rfl) ?_
 refine tq (PV.and (r := ((v.members.fdiv (2 ^ min w.toNat IntKind.i64.bits)) % 2)) rfl rfl rfl (bit_one _)) ?_
 refine tq (PV.eql rfl rfl rfl) ?_
 refine tp (PV.pick rfl rfl rfl) ?_
 refine sg' ?_
 refine nx J2 ?_
 refine TC.ret ?_
 refine TE.weak (Sub.refl _) (fun _ s => sep_keep [] rfl s) ?_
 refine TE.ret1 rfl rfl ?_
 exact ⟨congrArg Value.bool (by rw [memb, h6]; rfl), rfl⟩
 refine mv ?_
 refine TL.unmet (b := false) rfl rfl rfl rfl (lb rfl) ?_
 refine TL.unmet (b := false) rfl rfl rfl rfl (lb rfl) ?_
 refine TL.unmet (b := false) rfl rfl rfl rfl (lb rfl) ?_
 refine TL.unmet (b := false) rfl rfl rfl rfl (lb rfl) ?_
 refine TL.unmet (b := false) rfl rfl rfl rfl (lb rfl) ?_
 refine TL.unmet (b := false) rfl rfl rfl rfl (lb rfl) ?_
 refine tp (PV.pick rfl rfl rfl) ?_
 refine sg' ?_
 refine nx J2 ?_
 refine TC.ret ?_
 refine TE.weak (Sub.refl _) (fun _ s => sep_keep [] rfl s) ?_
 refine TE.ret1 rfl rfl ?_
 exact ⟨congrArg Value.bool (by rw [memb, h6]; rfl), rfl⟩
theorem numAdd_cells (b off cap : Nat) (l : List Int) (hl : l.length ≤ 1000) (cs : List Value) (T : TypeId) (z : Nat × Nat) (hb : ∀ j, j < l.length → cs[off + j]? = some (.int .i64 (l.getD j 0))) :
    Does Tryz.prog 96 #[(.slice (some ⟨b, off, none⟩) (l.length) (cap))] (fun F => F b = some (.cells cs.toArray T z)) [] (Ret (fun r' H => r' = .tuple #[.int .i64 (addE l 0).1, .int .i64 (addE l 0).2] ∧ H = [])) := by
 refine Does.body (vs := [(.slice (some ⟨b, off, none⟩) (l.length) (cap))]) (n := 25) Tryz.func96 rfl rfl rfl (fun w0 F hF => ?_)
 refine sr fun _ J1 => ?_
 refine sg' ?_
 refine sg' ?_
 refine nx J1 ?_
 refine sr fun _ J2 => ?_
 refine sg' ?_
 refine nx J2 ?_
 refine TC.seq fun _ J3 => ?_
 refine sr fun _ J4 => ?_
 refine mv ?_
 refine tp (PV.lenSl rfl Tryz.underlying74 rfl) ?_
 refine mv ?_
 refine nx J4 ?_
 refine TC.block ?_
 refine TC.loop (α := (Nat) × (Int)) (fun ⟨k, s⟩ => k ≤ l.length ∧ 0 ≤ s ∧ s ≤ 1099511627776 ∧ addE l 0 = addE (l.drop k) s) (fun ⟨k, s⟩ => [(4, (.int .i64 (s))), (7, (.slice (some ⟨b, off, none⟩) (l.length) (cap))), (8, (.int .i64 (((l.length : Nat) : Int)))), (9, (.int .i64 (((k : Nat) : Int))))]) (fun ⟨k, s⟩ => []) (fun ⟨k, s⟩ => l.length - k) (0, 0)
     ⟨Nat.zero_le _, by omega, by omega, rfl⟩ (Sub.cons rfl (by congr 1) (Sub.r (Sub.r (Sub.cons rfl (by congr 1) (Sub.nil _)))))
     (fun _ s => s) (fun ⟨k, s⟩ hinv => ?_)
 obtain ⟨hk, hs0, hs1, he⟩ := hinv
 refine sr fun _ J5 => ?_
 refine tp (PV.lss rfl rfl rfl) ?_
 refine TL.dec (fun h10 => ?_) (fun h10 => ?_)
 refine nx J5 ?_
 refine TC.seq fun _ J6 => ?_
 refine TC.yes rfl ?_
 refine TC.skip ?_
 refine TE.next J6 ?_
 refine TC.seq fun _ J7 => ?_
 refine TC.block ?_
 refine sr fun _ J8 => ?_
 refine tp (PV.indexSl (r := off + k) rfl Tryz.underlying74 sz3 rfl rfl (by first | omega | decide) (by first | omega | decide) (by omega)) ?_
 refine tp (PV.load1 (v := (.int .i64 ((l.getD k 0)))) rfl Tryz.underlying3 rfl rfl (Rd.ro hF) (hb k (by omega))) ?_
 refine sg' ?_
 refine nx J8 ?_
 refine TC.seq fun _ J9 => ?_
 refine sr fun _ J10 => ?_
 refine mv ?_
 refine TL.callR (A := []) (Want.plain rfl) rfl rfl rfl nm95 rfl (numRight_does (l.getD k 0)) (fun _ s => s) (fun _ _ _ => trivial) (fun vR HR hR => ?_)
 obtain ⟨rfl, rfl⟩ := hR
 change TL _ _ _ _ _ _ _ _ _ []
 refine TL.decB (fun h14 => ?_) (fun h14 => ?_)
 have hn : 0 ≤ l.getD k 0 ∧ l.getD k 0 ≤ 1099511627776 := of_decide_eq_true h14
 refine tp (PV.not (r := false) rfl rfl rfl) ?_
 refine nx J10 ?_
 refine TC.no rfl ?_
 refine TC.skip ?_
 refine TE.next J9 ?_
 refine TC.seq fun _ J11 => ?_
 refine sr fun _ J12 => ?_
 refine mv ?_
 refine mv ?_
 refine tp (PV.sub rfl rfl rfl (wrap_i64 (by omega) (by omega))) ?_
 refine tp (PV.gtr rfl rfl rfl) ?_
 refine TL.dec (fun h19 => ?_) (fun h19 => ?_)
 refine nx J12 ?_
 refine TC.yes rfl ?_
 refine sr fun _ J13 => ?_
 refine sg' ?_
 refine sg' ?_
 refine nx J13 ?_
 refine TC.ret ?_
 refine TE.passRet ?_
 refine TE.blockRet ?_
 refine TE.passRet ?_
 refine TE.passRet ?_
 refine TE.blockRet ?_
 refine TE.passRet ?_
 refine TE.weak (Sub.refl _) (fun _ s => sep_keep [] rfl s) ?_
 refine TE.ret2 rfl rfl rfl ?_
 exact ⟨by rw [he, add_step (show k < l.length by omega), if_pos h14, if_pos (by omega)], rfl⟩
 refine nx J12 ?_
 refine TC.no rfl ?_
 refine TC.skip ?_
 refine TE.next J11 ?_
 refine TC.region ?_
 refine mv ?_
 refine mv ?_
 refine tp (PV.add rfl rfl rfl (wrap_i64 (by omega) (by omega))) ?_
 refine sg' ?_
 refine TL.nil ?_
 refine TE.blockEnd ?_
 refine TE.next J7 ?_
 refine TC.region ?_
 refine tp (PV.add rfl rfl rfl (wrap_i64 (by omega) (by omega))) ?_
 refine mv ?_
 refine TL.nil ?_
 exact TE.round ((k + 1, s + l.getD k 0) : (Nat) × (Int)) ⟨by omega, by omega, by omega, by rw [he, add_step (show k < l.length by omega), if_pos h14, if_neg (by omega)]⟩ (by show l.length - (k + 1) < l.length - k; omega)
   (Sub.r (Sub.r (Sub.r (Sub.cons rfl (by simp) (Sub.nil _)))))
   (fun _ s => s)
 refine tp (PV.not (r := true) rfl rfl rfl) ?_
 refine nx J10 ?_
 refine TC.yes rfl ?_
 refine sr fun _ J14 => ?_
 refine sg' ?_
 refine sg' ?_
 refine nx J14 ?_
 refine TC.ret ?_
 refine TE.passRet ?_
 refine TE.blockRet ?_
 refine TE.passRet ?_
 refine TE.passRet ?_
 refine TE.blockRet ?_
 refine TE.passRet ?_
 refine TE.weak (Sub.refl _) (fun _ s => sep_keep [] rfl s) ?_
 refine TE.ret2 rfl rfl rfl ?_
 exact ⟨by rw [he, add_step (show k < l.length by omega), if_neg (by rw [h14]; decide)], rfl⟩
 refine nx J5 ?_
 refine TC.seq fun _ J15 => ?_
 refine TC.no rfl ?_
 refine TC.exit ?_
 refine TE.pass ?_
 refine TE.pass ?_
 refine TE.hit ?_
 refine TE.next J3 ?_
 refine sr fun _ J16 => ?_
 refine mv ?_
 refine sg' ?_
 refine sg' ?_
 refine nx J16 ?_
 refine TC.ret ?_
 refine TE.weak (Sub.refl _) (fun _ s => sep_keep [] rfl s) ?_
 refine TE.ret2 rfl rfl rfl ?_
 exact ⟨by rw [he, List.drop_eq_nil_of_le (by omega)]; rfl, rfl⟩
theorem numAdd_nil  :
    Does Tryz.prog 96 #[(.slice none 0 0)] (fun _ => True) [] (Ret (fun r' H => r' = .tuple #[.int .i64 (addE [] 0).1, .int .i64 (addE [] 0).2] ∧ H = [])) := by
 refine Does.body (vs := [(.slice none 0 0)]) (n := 25) Tryz.func96 rfl rfl rfl (fun w0 F hF => ?_)
 refine sr fun _ J1 => ?_
 refine sg' ?_
 refine sg' ?_
 refine nx J1 ?_
 refine sr fun _ J2 => ?_
 refine sg' ?_
 refine nx J2 ?_
 refine TC.seq fun _ J3 => ?_
 refine sr fun _ J4 => ?_
 refine mv ?_
 refine tp (PV.lenSl rfl Tryz.underlying74 rfl) ?_
 refine mv ?_
 refine nx J4 ?_
 refine TC.block ?_
 refine TC.loop (α := Unit) (fun _u => True) (fun _u => [(4, (.int .i64 0)), (7, (.slice none 0 0)), (8, (.int .i64 0)), (9, (.int .i64 0))]) (fun _u => []) (fun _u => 0) ()
     trivial (Sub.r (Sub.r (Sub.r (Sub.r (Sub.nil _)))))
     (fun _ s => s) (fun _u hinv => ?_)
 obtain _ := hinv
 refine sr fun _ J5 => ?_
 refine tp (PV.lss rfl rfl rfl) ?_
 refine nx J5 ?_
 refine TC.seq fun _ J6 => ?_
 refine TC.no rfl ?_
 refine TC.exit ?_
 refine TE.pass ?_
 refine TE.pass ?_
 refine TE.hit ?_
 refine TE.next J3 ?_
 refine sr fun _ J7 => ?_
 refine mv ?_
 refine sg' ?_
 refine sg' ?_
 refine nx J7 ?_
 refine TC.ret ?_
 refine TE.weak (Sub.refl _) (fun _ s => sep_keep [] rfl s) ?_
 refine TE.ret2 rfl rfl rfl ?_
 exact ⟨rfl, rfl⟩
theorem numAdd_does (x : Value) (l : List Int) (hl : l.length ≤ 1000) : Does Tryz.prog 96 #[x] (IsN x l) [] (Ret (fun r' H => r' = .tuple #[.int .i64 (addE l 0).1, .int .i64 (addE l 0).2] ∧ H = [])) := by
  refine Does.of fun F hF => ?_
  rcases id hF with ⟨rfl, rfl⟩ | ⟨b, off, cap, cs, T, z, rfl, h3, h4⟩
  · exact ⟨_, trivial, numAdd_nil⟩
  · exact ⟨_, h3, numAdd_cells b off cap l hl cs T z h4⟩

theorem rightCells_does (x : Vector CellT 4) :
    Does Tryz.prog 67 #[(.agg (ints (flats x.toList)).toArray)] (fun _ => True) [] (Ret (fun r' H => r' = .bool (okCs x) ∧ H = [])) := by
 refine Does.body (vs := [(.agg (ints (flats x.toList)).toArray)]) (n := 30) Tryz.func67 rfl rfl rfl (fun w0 F hF => ?_)
 refine sr fun _ J1 => ?_
 refine TL.box (Want.plain rfl) rfl rfl rfl rfl (fun b1 => ?_)
 change TL _ _ _ _ _ _ _ _ _ [blkA b1 (ints (flats x.toList)) 45]
 refine sg' ?_
 refine nx J1 ?_
 clear J1
 refine TC.seq fun _ J2 => ?_
 refine sr fun _ J3 => ?_
 refine tp (PV.loadN (vs := ints (flats x.toList)) rfl Tryz.underlying45 rfl sz45 rfl (Rd.own 0 rfl rfl) (vs4_len x) (whole (vs4_len x))) ?_
 refine mv ?_
 refine nx J3 ?_
 clear J3
 refine TC.block ?_
 refine TC.loop (α := (Nat)) (fun k => k ≤ 4 ∧ ∀ (j : Nat) (h : j < 4), j < k → okC x[j] = true) (fun k => [(7, (.agg (ints (flats x.toList)).toArray)), (8, (.int .i64 (((k : Nat) : Int))))]) (fun k => [blkA b1 (ints (flats x.toList)) 45]) (fun k => 4 - k) 0
     ⟨Nat.zero_le _, fun j h hj => absurd hj (by omega)⟩ (Sub.r (Sub.cons rfl (by congr 1) (Sub.nil _)))
     (fun _ s => s) (fun k hinv => ?_)
 obtain ⟨hk, ho⟩ := hinv
 refine sr fun _ J4 => ?_
 refine tp (PV.lss rfl rfl rfl) ?_
 refine TL.dec (fun h9 => ?_) (fun h9 => ?_)
 refine nx J4 ?_
 clear J4
 refine TC.seq fun _ J5 => ?_
 refine TC.yes rfl ?_
 refine TC.skip ?_
 refine TE.next J5 ?_
 clear J5
 refine TC.seq fun _ J6 => ?_
 refine TC.block ?_
 refine sr fun _ J7 => ?_
 refine tp (PV.indexN (cs := ints (flats x.toList)) (vs := ints (x[k]'(by omega)).flat) (r := k * 7) rfl Tryz.underlying45 Tryz.underlying44 rfl sz44 rfl rfl (by omega) (by omega) (by omega) (vs_sub CellT.flat_length x (i := k) 0 (by omega) (by omega) (by decide) (whole (CellT.len (x[k]'(by omega)))))) ?_
 refine TL.alloc (Want.plain rfl) rfl rfl rfl z44 (fun b4 => ?_)
 change TL _ _ _ _ _ _ _ _ _ [blkA b4 (ints CellT.zero.flat) 44, blkA b1 (ints (flats x.toList)) 45]
 refine TL.store (vs := ints (x[k]'(by omega)).flat) (i := 0) (H' := [blkA b4 (ints (x[k]'(by omega)).flat) 44, blkA b1 (ints (flats x.toList)) 45]) (Want.plain rfl) rfl rfl rfl rfl rfl (by rw [(CellT.len (x[k]'(by omega)))]; exact sz44) (ints_one _) rfl rfl (by have h0 := (CellT.len CellT.zero); have h1 := (CellT.len (x[k]'(by omega))); omega) (wwhole ((CellT.len CellT.zero).trans (CellT.len (x[k]'(by omega))).symm)) rfl ?_
 refine nx J7 ?_
 clear J7
 refine TC.seq fun _ J8 => ?_
 refine sr fun _ J9 => ?_
 refine tp (PV.fieldAddr (r := 0) rfl Tryz.underlying44 rfl sz3 rfl rfl) ?_
 refine tp (PV.load1 (v := (.int .i64 ((x[k]'(by omega)).inn))) rfl Tryz.underlying3 rfl rfl (Rd.own 0 rfl rfl) (CellT.at_inn (x[k]'(by omega)) rfl)) ?_
 refine TL.callR (A := []) (Want.plain rfl) rfl rfl rfl nm95 rfl (numRight_does ((x[k]'(by omega)).inn)) (fun _ s => s) (fun _ _ _ => trivial) (fun vR HR hR => ?_)
 obtain ⟨rfl, rfl⟩ := hR
 change TL _ _ _ _ _ _ _ _ _ [blkA b4 (ints (x[k]'(by omega)).flat) 44, blkA b1 (ints (flats x.toList)) 45]
 refine TL.decB (fun h13 => ?_) (fun h13 => ?_)
 refine tp (PV.not (r := false) rfl rfl rfl) ?_
 refine mv ?_
 refine tq (PV.fieldAddr (r := 1) rfl Tryz.underlying44 rfl sz3 rfl rfl) ?_
 refine tq (PV.load1 (v := (.int .i64 ((x[k]'(by omega)).out))) rfl Tryz.underlying3 rfl rfl (Rd.own 0 rfl rfl) (CellT.at_out (x[k]'(by omega)) rfl)) ?_
 refine TL.callR (A := []) (Want.met rfl rfl rfl) rfl rfl rfl nm95 rfl (numRight_does ((x[k]'(by omega)).out)) (fun _ s => s) (fun _ _ _ => trivial) (fun vR HR hR => ?_)
 obtain ⟨rfl, rfl⟩ := hR
 change TL _ _ _ _ _ _ _ _ _ [blkA b4 (ints (x[k]'(by omega)).flat) 44, blkA b1 (ints (flats x.toList)) 45]
 refine TL.decB (fun h18 => ?_) (fun h18 => ?_)
 refine tq (PV.not (r := false) rfl rfl rfl) ?_
 refine tp (PV.pick rfl rfl rfl) ?_
 refine nx J9 ?_
 clear J9
 refine TC.no rfl ?_
 refine TC.skip ?_
 refine TE.next J8 ?_
 clear J8
 refine sr fun _ J10 => ?_
 refine tp (PV.fieldAddr (r := 2) rfl Tryz.underlying44 rfl sz42 rfl rfl) ?_
 refine tp (PV.sliceArr rfl Tryz.underlying42 sz3 rfl) ?_
 refine TL.callR (A := []) (Want.plain rfl) rfl rfl rfl nm96 rfl (numAdd_does (.slice (some ⟨b4, 2, none⟩) (5) (5)) ((x[k]'(by omega)).given).toList (by simp)) (fun _ s => s) (isN_piece 0 rfl rfl (by simp) (by rw [Vector.length_toList]; exact (CellT.sub_given (x[k]'(by omega)) 0 rfl (by decide) (whole (vi5_len ((x[k]'(by omega)).given)))))) (fun vR HR hR => ?_)
 obtain ⟨rfl, rfl⟩ := hR
 change TL _ _ _ _ _ _ _ _ _ [blkA b4 (ints (x[k]'(by omega)).flat) 44, blkA b1 (ints (flats x.toList)) 45]
 refine mv ?_
 refine tp (PV.extract (vs := [(.int .i64 ((addE ((x[k]'(by omega)).given).toList 0).1)), (.int .i64 ((addE ((x[k]'(by omega)).given).toList 0).2))]) rfl rfl rfl) ?_
 refine tp (PV.extract (vs := [(.int .i64 ((addE ((x[k]'(by omega)).given).toList 0).1)), (.int .i64 ((addE ((x[k]'(by omega)).given).toList 0).2))]) rfl rfl rfl) ?_
 refine sg' ?_
 refine sg' ?_
 refine nx J10 ?_
 clear J10
 refine sr fun _ J11 => ?_
 refine mv ?_
 refine tp (PV.neq rfl rfl rfl) ?_
 refine TL.dec (fun h28 => ?_) (fun h28 => ?_)
 refine nx J11 ?_
 clear J11
 refine TC.yes rfl ?_
 refine sr fun _ J12 => ?_
 refine sg' ?_
 refine nx J12 ?_
 clear J12
 refine TC.ret ?_
 refine TE.blockRet ?_
 refine TE.passRet ?_
 clear J6
 refine TE.passRet ?_
 refine TE.blockRet ?_
 refine TE.passRet ?_
 clear J2
 refine TE.weak (Sub.refl _) (fun _ s => sep_keep [] rfl s) ?_
 refine TE.ret1 rfl rfl ?_
 refine ⟨congrArg Value.bool ?_, rfl⟩
 symm
 rw [okCs, decide_eq_false_iff_not]
 intro h
 have h := h k (by omega)
 unfold okC at h
 simp at h; exact absurd h.2 h28
 refine nx J11 ?_
 clear J11
 refine TC.no rfl ?_
 refine TC.skip ?_
 refine TE.blockEnd ?_
 refine TE.next J6 ?_
 clear J6
 refine TC.region ?_
 refine tp (PV.add rfl rfl rfl (wrap_i64 (by omega) (by omega))) ?_
 refine mv ?_
 refine TL.nil ?_
 exact TE.round ((k + 1) : (Nat)) ⟨by omega, fun j h hj => by
        by_cases q : j = k
        · subst q; unfold okC; simp_all
        · exact ho j h (by omega)⟩ (by show 4 - (k + 1) < 4 - k; omega)
   (Sub.r (Sub.cons rfl (by simp) (Sub.nil _)))
   (fun _ s => sep_keep [1] rfl s)
 refine tq (PV.not (r := true) rfl rfl rfl) ?_
 refine tp (PV.pick rfl rfl rfl) ?_
 refine nx J9 ?_
 clear J9
 refine TC.yes rfl ?_
 refine sr fun _ J13 => ?_
 refine sg' ?_
 refine nx J13 ?_
 clear J13
 refine TC.ret ?_
 refine TE.passRet ?_
 clear J8
 refine TE.blockRet ?_
 refine TE.passRet ?_
 clear J6
 refine TE.passRet ?_
 refine TE.blockRet ?_
 refine TE.passRet ?_
 clear J2
 refine TE.weak (Sub.refl _) (fun _ s => sep_keep [] rfl s) ?_
 refine TE.ret1 rfl rfl ?_
 refine ⟨congrArg Value.bool ?_, rfl⟩
 symm
 rw [okCs, decide_eq_false_iff_not]
 intro h
 have h := h k (by omega)
 unfold okC at h
 simp [h18] at h
 refine tp (PV.not (r := true) rfl rfl rfl) ?_
 refine mv ?_
 refine TL.unmet (b := true) rfl rfl rfl rfl (lb rfl) ?_
 refine TL.unmet (b := true) rfl rfl rfl rfl (lb rfl) ?_
 refine TL.unmet (b := true) rfl rfl rfl rfl (lb rfl) ?_
 refine TL.unmet (b := true) rfl rfl rfl rfl (lb rfl) ?_
 refine tp (PV.pick rfl rfl rfl) ?_
 refine nx J9 ?_
 clear J9
 refine TC.yes rfl ?_
 refine sr fun _ J14 => ?_
 refine sg' ?_
 refine nx J14 ?_
 clear J14
 refine TC.ret ?_
 refine TE.passRet ?_
 clear J8
 refine TE.blockRet ?_
 refine TE.passRet ?_
 clear J6
 refine TE.passRet ?_
 refine TE.blockRet ?_
 refine TE.passRet ?_
 clear J2
 refine TE.weak (Sub.refl _) (fun _ s => sep_keep [] rfl s) ?_
 refine TE.ret1 rfl rfl ?_
 refine ⟨congrArg Value.bool ?_, rfl⟩
 symm
 rw [okCs, decide_eq_false_iff_not]
 intro h
 have h := h k (by omega)
 unfold okC at h
 simp [h13] at h
 refine nx J4 ?_
 clear J4
 refine TC.seq fun _ J15 => ?_
 refine TC.no rfl ?_
 refine TC.exit ?_
 refine TE.pass ?_
 clear J15
 refine TE.pass ?_
 refine TE.hit ?_
 refine TE.next J2 ?_
 clear J2
 refine sr fun _ J16 => ?_
 refine sg' ?_
 refine nx J16 ?_
 clear J16
 refine TC.ret ?_
 refine TE.weak (Sub.refl _) (fun _ s => sep_keep [] rfl s) ?_
 refine TE.ret1 rfl rfl ?_
 exact ⟨congrArg Value.bool (by symm; rw [okCs, decide_eq_true_iff]; exact fun j h => ho j h (by omega)), rfl⟩
theorem sg45 : Tryz.prog.eqGuardType Tryz.prog.depth 45 = false := by kernel_rfl
theorem sk45 : Tryz.prog.keyTypeAt 6 45 = true := by kernel_rfl
theorem fI45 : flatI Tryz.prog 6 45 = some 28 := by kernel_rfl
theorem fC45 : (match Tryz.prog.underlying 45 with | some (.struct _) | some (.array _ _) => true | _ => false) = true := by kernel_rfl
theorem cC45 : Tryz.prog.cellsOf 45 = 28 := by kernel_rfl

theorem wf_left {x : RowT} (h : WF x.flat) (i : Nat) (hi : i < 5) : WF (flats x.left[i].toList) := fun n hn => h n (by
  simp only [RowT.flat, List.mem_cons, List.mem_append, List.mem_flatMap]
  exact .inr (.inr (.inr ⟨x.left[i], by simp [Vector.getElem_mem], hn⟩)))
theorem wf_zl : WF (flats RowT.zero.left[0].toList) := fun n hn => by
  have : n ∈ List.replicate 28 (0 : Int) := hn
  obtain rfl := List.eq_of_mem_replicate this
  decide

theorem rowRight_does (x : RowT) (hw : WF x.flat) :
    Does Tryz.prog 33 #[(.agg (ints x.flat).toArray)] (fun _ => True) [] (Ret (fun r' H => r' = .bool (rightR x) ∧ H = [])) := by
 refine Does.body (vs := [(.agg (ints x.flat).toArray)]) (n := 41) Tryz.func33 rfl rfl rfl (fun w0 F hF => ?_)
 refine sr fun _ J1 => ?_
 refine TL.box (Want.plain rfl) rfl rfl rfl rfl (fun b1 => ?_)
 change TL _ _ _ _ _ _ _ _ _ [blkA b1 (ints x.flat) 48]
 refine sg' ?_
 refine nx J1 ?_
 refine TC.seq fun _ J2 => ?_
 refine sr fun _ J3 => ?_
 refine tp (PV.fieldAddr (r := 0) rfl Tryz.underlying48 rfl sz3 rfl rfl) ?_
 refine tp (PV.load1 (v := (.int .i64 (x.version))) rfl Tryz.underlying3 rfl rfl (Rd.own 0 rfl rfl) (RowT.at_version x rfl)) ?_
 refine tp (PV.lss rfl rfl rfl) ?_
 refine TL.dec (fun h7 => ?_) (fun h7 => ?_)
 refine mv ?_
 refine TL.unmet (b := true) rfl rfl rfl rfl (lb rfl) ?_
 refine TL.unmet (b := true) rfl rfl rfl rfl (lb rfl) ?_
 refine TL.unmet (b := true) rfl rfl rfl rfl (lb rfl) ?_
 refine TL.unmet (b := true) rfl rfl rfl rfl (lb rfl) ?_
 refine tp (PV.pick rfl rfl rfl) ?_
 refine nx J3 ?_
 refine TC.yes rfl ?_
 refine sr fun _ J4 => ?_
 refine sg' ?_
 refine nx J4 ?_
 refine TC.ret ?_
 refine TE.passRet ?_
 refine TE.weak (Sub.refl _) (fun _ s => sep_keep [] rfl s) ?_
 refine TE.ret1 rfl rfl ?_
 refine ⟨congrArg Value.bool ?_, rfl⟩
 symm
 rw [rightR, Bool.eq_false_iff]
 intro h
 rw [Bool.and_eq_true, Bool.and_eq_true, decide_eq_true_iff, decide_eq_true_iff] at h
 omega
 refine mv ?_
 refine tq (PV.fieldAddr (r := 1) rfl Tryz.underlying48 rfl sz45 rfl rfl) ?_
 refine tq (PV.loadN (vs := ints (flats x.cells.toList)) rfl Tryz.underlying45 rfl sz45 rfl (Rd.own 0 rfl rfl) (vs4_len x.cells) (RowT.sub_cells x 0 rfl (by decide) (whole (vs4_len x.cells)))) ?_
 refine TL.callR (A := []) (Want.met rfl rfl rfl) rfl rfl rfl nm67 rfl (rightCells_does x.cells) (fun _ s => s) (fun _ _ _ => trivial) (fun vR HR hR => ?_)
 obtain ⟨rfl, rfl⟩ := hR
 change TL _ _ _ _ _ _ _ _ _ [blkA b1 (ints x.flat) 48]
 refine TL.decB (fun h11 => ?_) (fun h11 => ?_)
 refine tq (PV.not (r := false) rfl rfl rfl) ?_
 refine tp (PV.pick rfl rfl rfl) ?_
 refine nx J3 ?_
 refine TC.no rfl ?_
 refine TC.skip ?_
 refine TE.next J2 ?_
 refine TC.seq fun _ J5 => ?_
 refine sr fun _ J6 => ?_
 refine tp (PV.fieldAddr (r := 29) rfl Tryz.underlying48 rfl sz42 rfl rfl) ?_
 refine tp (PV.loadN (vs := ints x.heir.toList) rfl Tryz.underlying42 rfl sz42 rfl (Rd.own 0 rfl rfl) (vi5_len x.heir) (RowT.sub_heir x 0 rfl (by decide) (whole (vi5_len x.heir)))) ?_
 refine mv ?_
 refine nx J6 ?_
 refine TC.block ?_
 refine TC.loop (α := (Nat)) (fun i => i ≤ 5 ∧ ∀ (j : Nat) (h : j < 5), j < i → hokR x.heir[j] x.left[j] = true) (fun i => [(1, (.pointer (some ⟨b1, 0, none⟩))), (15, (.agg (ints x.heir.toList).toArray)), (16, (.int .i64 (((i : Nat) : Int))))]) (fun i => [blkA b1 (ints x.flat) 48]) (fun i => 5 - i) 0
     ⟨Nat.zero_le _, fun j h hj => absurd hj (by omega)⟩ (Sub.r (Sub.r (Sub.cons rfl (by congr 1) (Sub.nil _))))
     (fun _ s => s) (fun i hinv => ?_)
 obtain ⟨hi, ho⟩ := hinv
 refine sr fun _ J7 => ?_
 refine tp (PV.lss rfl rfl rfl) ?_
 refine TL.dec (fun h17 => ?_) (fun h17 => ?_)
 refine nx J7 ?_
 refine TC.seq fun _ J8 => ?_
 refine TC.yes rfl ?_
 refine TC.skip ?_
 refine TE.next J8 ?_
 refine TC.seq fun _ J9 => ?_
 refine TC.block ?_
 refine sr fun _ J10 => ?_
 refine mv ?_
 refine tp (PV.index1 (cs := ints x.heir.toList) (v := Value.int .i64 (x.heir[i]'(by omega))) (r := i) rfl Tryz.underlying42 Tryz.underlying3 rfl sz3 rfl rfl (by omega) (by omega) (by omega) (vi_at x.heir (by omega))) ?_
 refine sg' ?_
 refine sg' ?_
 refine nx J10 ?_
 refine TC.seq fun _ J11 => ?_
 refine sr fun _ J12 => ?_
 refine mv ?_
 refine tp (PV.lss rfl rfl rfl) ?_
 refine TL.dec (fun h21 => ?_) (fun h21 => ?_)
 refine mv ?_
 refine TL.unmet (b := true) rfl rfl rfl rfl (lb rfl) ?_
 refine TL.unmet (b := true) rfl rfl rfl rfl (lb rfl) ?_
 refine TL.unmet (b := true) rfl rfl rfl rfl (lb rfl) ?_
 refine TL.unmet (b := true) rfl rfl rfl rfl (lb rfl) ?_
 refine TL.unmet (b := true) rfl rfl rfl rfl (lb rfl) ?_
 refine TL.unmet (b := true) rfl rfl rfl rfl (lb rfl) ?_
 refine tp (PV.pick rfl rfl rfl) ?_
 refine nx J12 ?_
 refine TC.yes rfl ?_
 refine sr fun _ J13 => ?_
 refine sg' ?_
 refine nx J13 ?_
 refine TC.ret ?_
 refine TE.passRet ?_
 refine TE.blockRet ?_
 refine TE.passRet ?_
 refine TE.passRet ?_
 refine TE.blockRet ?_
 refine TE.passRet ?_
 refine TE.weak (Sub.refl _) (fun _ s => sep_keep [] rfl s) ?_
 refine TE.ret1 rfl rfl ?_
 refine ⟨congrArg Value.bool ?_, rfl⟩
 symm
 rw [rightR, Bool.eq_false_iff]
 intro h
 rw [Bool.and_eq_true, Bool.and_eq_true, decide_eq_true_iff, decide_eq_true_iff] at h
 have h := h.2 i (by omega)
 unfold hokR at h
 rw [Bool.and_eq_true, Bool.and_eq_true, decide_eq_true_iff, decide_eq_true_iff] at h
 omega
 refine mv ?_
 refine tq (PV.move rfl rfl) ?_
 refine tq (PV.fieldAddr (r := 34) rfl Tryz.underlying48 rfl sz46 rfl rfl) ?_
 refine tq (PV.indexArr (r := 34 + i * 28) rfl Tryz.underlying46 sz45 rfl rfl (by omega) (by omega) (by omega)) ?_
 refine tq (PV.loadN (vs := ints (flats (x.left[i]'(by omega)).toList)) rfl Tryz.underlying45 rfl sz45 rfl (Rd.own 0 rfl rfl) (vs4_len (x.left[i]'(by omega))) (RowT.sub_left x (i * 28) (by omega) (by omega) (vs_sub vl_len x.left (i := i) 0 (by omega) (by omega) (by decide) (whole (vs4_len (x.left[i]'(by omega))))))) ?_
 refine TL.callR (A := []) (Want.met rfl rfl rfl) rfl rfl rfl nm67 rfl (rightCells_does (x.left[i]'(by omega))) (fun _ s => s) (fun _ _ _ => trivial) (fun vR HR hR => ?_)
 obtain ⟨rfl, rfl⟩ := hR
 change TL _ _ _ _ _ _ _ _ _ [blkA b1 (ints x.flat) 48]
 refine TL.decB (fun h27 => ?_) (fun h27 => ?_)
 refine tq (PV.not (r := false) rfl rfl rfl) ?_
 refine tp (PV.pick rfl rfl rfl) ?_
 refine nx J12 ?_
 refine TC.no rfl ?_
 refine TC.skip ?_
 refine TE.next J11 ?_
 refine sr fun _ J14 => ?_
 refine mv ?_
 refine tp (PV.eql rfl rfl rfl) ?_
 refine TL.dec (fun h31 => ?_) (fun h31 => ?_)
 refine mv ?_
 refine tq (PV.move rfl rfl) ?_
 refine tq (PV.fieldAddr (r := 34) rfl Tryz.underlying48 rfl sz46 rfl rfl) ?_
 refine tq (PV.indexArr (r := 34 + i * 28) rfl Tryz.underlying46 sz45 rfl rfl (by omega) (by omega) (by omega)) ?_
 refine tq (PV.loadN (vs := ints (flats (x.left[i]'(by omega)).toList)) rfl Tryz.underlying45 rfl sz45 rfl (Rd.own 0 rfl rfl) (vs4_len (x.left[i]'(by omega))) (RowT.sub_left x (i * 28) (by omega) (by omega) (vs_sub vl_len x.left (i := i) 0 (by omega) (by omega) (by decide) (whole (vs4_len (x.left[i]'(by omega))))))) ?_
 refine tq (PV.build (cells := (ints (flats RowT.zero.cells.toList)).toArray) rfl rfl (by as_aux_lemma => kernel_rfl)) ?_
 refine tq (PV.neqAgg (a := flats (x.left[i]'(by omega)).toList) (b := flats RowT.zero.cells.toList) (m := 6) (c := 28) sg45 sk45 rfl fI45 (ints_len (vs4_len (x.left[i]'(by omega)))) (ints_len (vs4_len RowT.zero.cells)) ⟨formed_ag fC45 cC45 (ints_len (vs4_len (x.left[i]'(by omega)))), formed_ag fC45 cC45 (ints_len (vs4_len RowT.zero.cells))⟩ (wf_left hw i (by omega)) wf_zl rfl rfl rfl) ?_
 refine TL.dec (fun h38 => ?_) (fun h38 => ?_)
 refine tp (PV.pick rfl rfl rfl) ?_
 refine nx J14 ?_
 refine TC.yes rfl ?_
 refine sr fun _ J15 => ?_
 refine sg' ?_
 refine nx J15 ?_
 refine TC.ret ?_
 refine TE.blockRet ?_
 refine TE.passRet ?_
 refine TE.passRet ?_
 refine TE.blockRet ?_
 refine TE.passRet ?_
 refine TE.weak (Sub.refl _) (fun _ s => sep_keep [] rfl s) ?_
 refine TE.ret1 rfl rfl ?_
 refine ⟨congrArg Value.bool ?_, rfl⟩
 symm
 rw [rightR, Bool.eq_false_iff]
 intro h
 rw [Bool.and_eq_true, Bool.and_eq_true, decide_eq_true_iff, decide_eq_true_iff] at h
 have h := h.2 i (by omega)
 unfold hokR at h
 rw [Bool.and_eq_true, Bool.and_eq_true, decide_eq_true_iff, decide_eq_true_iff] at h
 exact h38 (h.2 h31)
 refine tp (PV.pick rfl rfl rfl) ?_
 refine nx J14 ?_
 refine TC.no rfl ?_
 refine TC.skip ?_
 refine TE.blockEnd ?_
 refine TE.next J9 ?_
 refine TC.region ?_
 refine tp (PV.add rfl rfl rfl (wrap_i64 (by omega) (by omega))) ?_
 refine mv ?_
 refine TL.nil ?_
 exact TE.round ((i + 1) : (Nat)) ⟨by omega, fun j h hj => by
        by_cases q : j = i
        · subst q; unfold hokR; rw [Bool.and_eq_true, Bool.and_eq_true, decide_eq_true_iff, decide_eq_true_iff]; exact ⟨⟨by omega, h27⟩, fun e => by first | exact absurd e h31 | exact Classical.not_not.1 h38⟩
        · exact ho j h (by omega)⟩ (by show 5 - (i + 1) < 5 - i; omega)
   (Sub.r (Sub.r (Sub.cons rfl (by simp) (Sub.nil _))))
   (fun _ s => s)
 refine mv ?_
 refine TL.unmet (b := false) rfl rfl rfl rfl (lb rfl) ?_
 refine TL.unmet (b := false) rfl rfl rfl rfl (lb rfl) ?_
 refine TL.unmet (b := false) rfl rfl rfl rfl (lb rfl) ?_
 refine TL.unmet (b := false) rfl rfl rfl rfl (lb rfl) ?_
 refine TL.unmet (b := false) rfl rfl rfl rfl (lb rfl) ?_
 refine TL.unmet (b := false) rfl rfl rfl rfl (lb rfl) ?_
 refine tp (PV.pick rfl rfl rfl) ?_
 refine nx J14 ?_
 refine TC.no rfl ?_
 refine TC.skip ?_
 refine TE.blockEnd ?_
 refine TE.next J9 ?_
 refine TC.region ?_
 refine tp (PV.add rfl rfl rfl (wrap_i64 (by omega) (by omega))) ?_
 refine mv ?_
 refine TL.nil ?_
 exact TE.round ((i + 1) : (Nat)) ⟨by omega, fun j h hj => by
        by_cases q : j = i
        · subst q; unfold hokR; rw [Bool.and_eq_true, Bool.and_eq_true, decide_eq_true_iff, decide_eq_true_iff]; exact ⟨⟨by omega, h27⟩, fun e => by first | exact absurd e h31 | exact Classical.not_not.1 h38⟩
        · exact ho j h (by omega)⟩ (by show 5 - (i + 1) < 5 - i; omega)
   (Sub.r (Sub.r (Sub.cons rfl (by simp) (Sub.nil _))))
   (fun _ s => s)
 refine tq (PV.not (r := true) rfl rfl rfl) ?_
 refine tp (PV.pick rfl rfl rfl) ?_
 refine nx J12 ?_
 refine TC.yes rfl ?_
 refine sr fun _ J16 => ?_
 refine sg' ?_
 refine nx J16 ?_
 refine TC.ret ?_
 refine TE.passRet ?_
 refine TE.blockRet ?_
 refine TE.passRet ?_
 refine TE.passRet ?_
 refine TE.blockRet ?_
 refine TE.passRet ?_
 refine TE.weak (Sub.refl _) (fun _ s => sep_keep [] rfl s) ?_
 refine TE.ret1 rfl rfl ?_
 refine ⟨congrArg Value.bool ?_, rfl⟩
 symm
 rw [rightR, Bool.eq_false_iff]
 intro h
 rw [Bool.and_eq_true, Bool.and_eq_true, decide_eq_true_iff, decide_eq_true_iff] at h
 have h := h.2 i (by omega)
 unfold hokR at h
 rw [Bool.and_eq_true, Bool.and_eq_true, decide_eq_true_iff, decide_eq_true_iff] at h
 rw [h27] at h; exact absurd h.1.2 (by decide)
 refine nx J7 ?_
 refine TC.seq fun _ J17 => ?_
 refine TC.no rfl ?_
 refine TC.exit ?_
 refine TE.pass ?_
 refine TE.pass ?_
 refine TE.hit ?_
 refine TE.next J5 ?_
 refine sr fun _ J18 => ?_
 refine sg' ?_
 refine nx J18 ?_
 refine TC.ret ?_
 refine TE.weak (Sub.refl _) (fun _ s => sep_keep [] rfl s) ?_
 refine TE.ret1 rfl rfl ?_
 exact ⟨congrArg Value.bool (by symm; rw [rightR, Bool.and_eq_true, Bool.and_eq_true, decide_eq_true_iff, decide_eq_true_iff]; exact ⟨⟨by omega, h11⟩, fun j h => ho j h (by omega)⟩), rfl⟩
 refine tq (PV.not (r := true) rfl rfl rfl) ?_
 refine tp (PV.pick rfl rfl rfl) ?_
 refine nx J3 ?_
 refine TC.yes rfl ?_
 refine sr fun _ J19 => ?_
 refine sg' ?_
 refine nx J19 ?_
 refine TC.ret ?_
 refine TE.passRet ?_
 refine TE.weak (Sub.refl _) (fun _ s => sep_keep [] rfl s) ?_
 refine TE.ret1 rfl rfl ?_
 refine ⟨congrArg Value.bool ?_, rfl⟩
 symm
 rw [rightR, Bool.eq_false_iff]
 intro h
 rw [Bool.and_eq_true, Bool.and_eq_true, decide_eq_true_iff, decide_eq_true_iff] at h
 rw [h11] at h; exact absurd h.1.2 (by decide)
theorem first_does  :
    Does Tryz.prog 24 #[] (fun _ => True) [] (Ret (fun r' H => r' = .agg (ints firstV.flat).toArray ∧ H = [])) := by
 refine Does.body (vs := []) (n := 2) Tryz.func24 rfl rfl rfl (fun w0 F hF => ?_)
 refine sr fun _ J1 => ?_
 refine TL.alloc (Want.plain rfl) rfl rfl rfl z52 (fun b0 => ?_)
 change TL _ _ _ _ _ _ _ _ _ [blkA b0 (ints ViewT.zero.flat) 52]
 refine nx J1 ?_
 refine sr fun _ J2 => ?_
 refine tp (PV.buildSegs (cs := ints (ViewT.mk 1 7 (#v[0, 0, 0, 0, 0])).flat) (segs := [[Value.int .i64 0], [Value.int .i64 0], ints (#v[0, 0, 0, 0, 0]).toList]) (res := [[Value.int .i64 1], [Value.int .i64 7], ints (#v[0, 0, 0, 0, 0]).toList]) (parts := [(0, [Value.int .i64 1]), (1, [Value.int .i64 7])]) rfl rfl Tryz.underlying52 (by kernel_rfl) (by kernel_rfl) rfl (putSegs_step rfl ((rfl : [Value.int .i64 1].length = 1).trans (rfl : [Value.int .i64 0].length = 1).symm) (putSegs_step rfl ((rfl : [Value.int .i64 7].length = 1).trans (rfl : [Value.int .i64 0].length = 1).symm) putSegs_nil)) (ViewT.eq (ViewT.mk 1 7 (#v[0, 0, 0, 0, 0]))).symm) ?_
 refine TL.store (vs := ints (ViewT.mk 1 7 (#v[0, 0, 0, 0, 0])).flat) (i := 0) (H' := [blkA b0 (ints (ViewT.mk 1 7 (#v[0, 0, 0, 0, 0])).flat) 52]) (Want.plain rfl) rfl rfl rfl rfl rfl (by rw [(ViewT.len (ViewT.mk 1 7 (#v[0, 0, 0, 0, 0])))]; exact sz52) (ints_one _) rfl rfl (by have h0 := (ViewT.len ViewT.zero); have h1 := (ViewT.len (ViewT.mk 1 7 (#v[0, 0, 0, 0, 0]))); omega) (wwhole ((ViewT.len ViewT.zero).trans (ViewT.len (ViewT.mk 1 7 (#v[0, 0, 0, 0, 0]))).symm)) rfl ?_
 refine nx J2 ?_
 refine TC.ret ?_
 refine TE.retC (H' := []) rfl rfl Tryz.underlying52 rfl sz52 (Rd.own 0 rfl rfl) (ViewT.len (ViewT.mk 1 7 (#v[0, 0, 0, 0, 0]))) (fun _ s => sep_keep [] rfl s) ?_
 exact ⟨rfl, rfl⟩
theorem heir_does (v : ViewT) (w : Int) (hh : Rng v) :
    Does Tryz.prog 54 #[(.agg (ints v.flat).toArray), (.int .i64 (w))] (fun _ => True) [] (Ret (fun r' H => r' = .tuple #[.int .i64 ((heirV v w).getD 0), .bool (heirV v w).isSome] ∧ H = [])) := by
 refine Does.body (vs := [(.agg (ints v.flat).toArray), (.int .i64 (w))]) (n := 21) Tryz.func54 rfl rfl rfl (fun w0 F hF => ?_)
 refine sr fun _ J1 => ?_
 refine TL.box (Want.plain rfl) rfl rfl rfl rfl (fun b2 => ?_)
 change TL _ _ _ _ _ _ _ _ _ [blkA b2 (ints v.flat) 52]
 refine sg' ?_
 refine sg' ?_
 refine nx J1 ?_
 refine TC.seq fun _ J2 => ?_
 refine sr fun _ J3 => ?_
 refine mv ?_
 refine TL.callR (A := []) (Want.plain rfl) rfl rfl rfl nm53 rfl (vmachine_does w) (fun _ s => s) (fun _ _ _ => trivial) (fun vR HR hR => ?_)
 obtain ⟨rfl, rfl⟩ := hR
 change TL _ _ _ _ _ _ _ _ _ [blkA b2 (ints v.flat) 52]
 refine TL.decB (fun h7 => ?_) (fun h7 => ?_)
 have hm : 0 ≤ w ∧ w < 5 := of_decide_eq_true h7
 have hb := hh w.toNat (by omega)
 refine tp (PV.not (r := false) rfl rfl rfl) ?_
 refine mv ?_
 refine tq (PV.move rfl rfl) ?_
 refine tq (PV.fieldAddr (r := 2) rfl Tryz.underlying52 rfl sz42 rfl rfl) ?_
 refine tq (PV.indexArr (r := 2 + w.toNat) rfl Tryz.underlying42 sz3 rfl rfl (by omega) (by omega) (by omega)) ?_
 refine tq (PV.load1 (v := (.int .i64 ((v.heirs[w.toNat]'(by omega))))) rfl Tryz.underlying3 rfl rfl (Rd.own 0 rfl rfl) (ViewT.pt_heirs v (w.toNat) (by omega) (by omega) (vi_at v.heirs (by omega)))) ?_
 refine tq (PV.lss rfl rfl rfl) ?_
 refine TL.dec (fun h14 => ?_) (fun h14 => ?_)
 refine tp (PV.pick rfl rfl rfl) ?_
 refine nx J3 ?_
 refine TC.yes rfl ?_
 refine sr fun _ J4 => ?_
 refine sg' ?_
 refine sg' ?_
 refine nx J4 ?_
 refine TC.ret ?_
 refine TE.passRet ?_
 refine TE.weak (Sub.refl _) (fun _ s => sep_keep [] rfl s) ?_
 refine TE.ret2 rfl rfl rfl ?_
 exact ⟨by rw [heirV, dif_pos hm, if_pos h14]; rfl, rfl⟩
 refine tp (PV.pick rfl rfl rfl) ?_
 refine nx J3 ?_
 refine TC.no rfl ?_
 refine TC.skip ?_
 refine TE.next J2 ?_
 refine sr fun _ J5 => ?_
 refine mv ?_
 refine tp (PV.fieldAddr (r := 2) rfl Tryz.underlying52 rfl sz42 rfl rfl) ?_
 refine tp (PV.indexArr (r := 2 + w.toNat) rfl Tryz.underlying42 sz3 rfl rfl (by omega) (by omega) (by omega)) ?_
 refine tp (PV.load1 (v := (.int .i64 ((v.heirs[w.toNat]'(by omega))))) rfl Tryz.underlying3 rfl rfl (Rd.own 0 rfl rfl) (ViewT.pt_heirs v (w.toNat) (by omega) (by omega) (vi_at v.heirs (by omega)))) ?_
 refine tp (PV.sub rfl rfl rfl (wrap_i64 (by omega) (by omega))) ?_
 refine sg' ?_
 refine sg' ?_
 refine nx J5 ?_
 refine TC.ret ?_
 refine TE.weak (Sub.refl _) (fun _ s => sep_keep [] rfl s) ?_
 refine TE.ret2 rfl rfl rfl ?_
 exact ⟨by rw [heirV, dif_pos hm, if_neg h14]; rfl, rfl⟩
 refine tp (PV.not (r := true) rfl rfl rfl) ?_
 refine mv ?_
 refine TL.unmet (b := true) rfl rfl rfl rfl (lb rfl) ?_
 refine TL.unmet (b := true) rfl rfl rfl rfl (lb rfl) ?_
 refine TL.unmet (b := true) rfl rfl rfl rfl (lb rfl) ?_
 refine TL.unmet (b := true) rfl rfl rfl rfl (lb rfl) ?_
 refine TL.unmet (b := true) rfl rfl rfl rfl (lb rfl) ?_
 refine tp (PV.pick rfl rfl rfl) ?_
 refine nx J3 ?_
 refine TC.yes rfl ?_
 refine sr fun _ J6 => ?_
 refine sg' ?_
 refine sg' ?_
 refine nx J6 ?_
 refine TC.ret ?_
 refine TE.passRet ?_
 refine TE.weak (Sub.refl _) (fun _ s => sep_keep [] rfl s) ?_
 refine TE.ret2 rfl rfl rfl ?_
 exact ⟨by rw [heirV, dif_neg (of_decide_eq_false h7)]; rfl, rfl⟩
theorem next_does (v : ViewT) (c : ChangeT) (hh : Rng v) :
    Does Tryz.prog 23 #[(.agg (ints v.flat).toArray), (.agg (ints c.flat).toArray)] (fun _ => True) [] (Ret (fun r' H => r' = .tuple #[.agg (ints (nextV v c).1.flat).toArray, .int .i64 (nextV v c).2] ∧ H = [])) := by
 refine Does.body (vs := [(.agg (ints v.flat).toArray), (.agg (ints c.flat).toArray)]) (n := 106) Tryz.func23 rfl rfl rfl (fun w0 F hF => ?_)
 refine sr fun _ J1 => ?_
 refine TL.box (Want.plain rfl) rfl rfl rfl rfl (fun b2 => ?_)
 change TL _ _ _ _ _ _ _ _ _ [blkA b2 (ints v.flat) 52]
 refine TL.box (Want.plain rfl) rfl rfl rfl rfl (fun b3 => ?_)
 change TL _ _ _ _ _ _ _ _ _ [blkA b3 (ints c.flat) 36, blkA b2 (ints v.flat) 52]
 refine TL.alloc (Want.plain rfl) rfl rfl rfl z52 (fun b4 => ?_)
 change TL _ _ _ _ _ _ _ _ _ [blkA b4 (ints ViewT.zero.flat) 52, blkA b3 (ints c.flat) 36, blkA b2 (ints v.flat) 52]
 refine sg' ?_
 refine nx J1 ?_
 clear J1
 refine TC.seq fun _ J2 => ?_
 refine sr fun _ J3 => ?_
 refine tp (PV.fieldAddr (r := 1) rfl Tryz.underlying36 rfl sz3 rfl rfl) ?_
 refine tp (PV.load1 (v := (.int .i64 (c.who))) rfl Tryz.underlying3 rfl rfl (Rd.own 1 rfl rfl) (ChangeT.at_who c rfl)) ?_
 refine TL.callR (A := []) (Want.plain rfl) rfl rfl rfl nm53 rfl (vmachine_does c.who) (fun _ s => s) (fun _ _ _ => trivial) (fun vR HR hR => ?_)
 obtain ⟨rfl, rfl⟩ := hR
 change TL _ _ _ _ _ _ _ _ _ [blkA b4 (ints ViewT.zero.flat) 52, blkA b3 (ints c.flat) 36, blkA b2 (ints v.flat) 52]
 refine TL.decB (fun h12 => ?_) (fun h12 => ?_)
 have hm1 : 0 ≤ c.who ∧ c.who < 5 := of_decide_eq_true h12
 refine tp (PV.not (r := false) rfl rfl rfl) ?_
 refine mv ?_
 refine tq (PV.fieldAddr (r := 2) rfl Tryz.underlying36 rfl sz3 rfl rfl) ?_
 refine tq (PV.load1 (v := (.int .i64 (c.heir))) rfl Tryz.underlying3 rfl rfl (Rd.own 1 rfl rfl) (ChangeT.at_heir c rfl)) ?_
 refine TL.callR (A := []) (Want.met rfl rfl rfl) rfl rfl rfl nm53 rfl (vmachine_does c.heir) (fun _ s => s) (fun _ _ _ => trivial) (fun vR HR hR => ?_)
 obtain ⟨rfl, rfl⟩ := hR
 change TL _ _ _ _ _ _ _ _ _ [blkA b4 (ints ViewT.zero.flat) 52, blkA b3 (ints c.flat) 36, blkA b2 (ints v.flat) 52]
 refine TL.decB (fun h17 => ?_) (fun h17 => ?_)
 have hm2 : 0 ≤ c.heir ∧ c.heir < 5 := of_decide_eq_true h17
 refine tq (PV.not (r := false) rfl rfl rfl) ?_
 refine tp (PV.pick rfl rfl rfl) ?_
 refine nx J3 ?_
 clear J3
 refine TC.no rfl ?_
 refine TC.skip ?_
 refine TE.next J2 ?_
 clear J2
 refine TC.seq fun _ J4 => ?_
 refine sr fun _ J5 => ?_
 refine tp (PV.fieldAddr (r := 0) rfl Tryz.underlying36 rfl sz3 rfl rfl) ?_
 refine tp (PV.load1 (v := (.int .i64 (c.kind))) rfl Tryz.underlying3 rfl rfl (Rd.own 1 rfl rfl) (ChangeT.at_kind c rfl)) ?_
 refine nx J5 ?_
 clear J5
 refine TC.block ?_
 refine sr fun _ J6 => ?_
 refine tp (PV.eql rfl rfl rfl) ?_
 refine TL.dec (fun h25 => ?_) (fun h25 => ?_)
 refine sg' ?_
 refine nx J6 ?_
 clear J6
 refine TC.yes rfl ?_
 refine TC.seq fun _ J7 => ?_
 refine sr fun _ J8 => ?_
 refine tp (PV.loadN (vs := ints v.flat) rfl Tryz.underlying52 rfl sz52 rfl (Rd.own 2 rfl rfl) (ViewT.len v) (whole (ViewT.len v))) ?_
 refine tp (PV.fieldAddr (r := 1) rfl Tryz.underlying36 rfl sz3 rfl rfl) ?_
 refine tp (PV.load1 (v := (.int .i64 (c.who))) rfl Tryz.underlying3 rfl rfl (Rd.own 1 rfl rfl) (ChangeT.at_who c rfl)) ?_
 refine TL.callR (A := []) (Want.plain rfl) rfl rfl rfl nm54 rfl (heir_does v c.who hh) (fun _ s => s) (fun _ _ _ => trivial) (fun vR HR hR => ?_)
 obtain ⟨rfl, rfl⟩ := hR
 change TL _ _ _ _ _ _ _ _ _ [blkA b4 (ints ViewT.zero.flat) 52, blkA b3 (ints c.flat) 36, blkA b2 (ints v.flat) 52]
 refine mv ?_
 refine tp (PV.extract (vs := [(.int .i64 (((heirV v c.who).getD 0))), (.bool ((heirV v c.who).isSome))]) rfl rfl rfl) ?_
 refine tp (PV.extract (vs := [(.int .i64 (((heirV v c.who).getD 0))), (.bool ((heirV v c.who).isSome))]) rfl rfl rfl) ?_
 refine TL.decB (fun h32 => ?_) (fun h32 => ?_)
 refine sg' ?_
 refine sg' ?_
 refine nx J8 ?_
 clear J8
 refine sr fun _ J9 => ?_
 refine mv ?_
 refine mv ?_
 refine TL.unmet (b := true) rfl rfl rfl rfl (lb rfl) ?_
 refine TL.unmet (b := true) rfl rfl rfl rfl (lb rfl) ?_
 refine TL.unmet (b := true) rfl rfl rfl rfl (lb rfl) ?_
 refine TL.unmet (b := true) rfl rfl rfl rfl (lb rfl) ?_
 refine tp (PV.pick rfl rfl rfl) ?_
 refine nx J9 ?_
 clear J9
 refine TC.yes rfl ?_
 refine sr fun _ J10 => ?_
 refine tp (PV.build (cells := (ints ViewT.zero.flat).toArray) rfl rfl (by as_aux_lemma => kernel_rfl)) ?_
 refine TL.store (vs := ints ViewT.zero.flat) (i := 0) (H' := [blkA b4 (ints ViewT.zero.flat) 52, blkA b3 (ints c.flat) 36, blkA b2 (ints v.flat) 52]) (Want.plain rfl) rfl rfl rfl rfl rfl (by rw [(ViewT.len ViewT.zero)]; exact sz52) (ints_one _) rfl rfl (by have h0 := (ViewT.len ViewT.zero); have h1 := (ViewT.len ViewT.zero); omega) (wwhole ((ViewT.len ViewT.zero).trans (ViewT.len ViewT.zero).symm)) rfl ?_
 refine sg' ?_
 refine nx J10 ?_
 clear J10
 refine TC.ret ?_
 refine TE.passRet ?_
 clear J7
 refine TE.blockRet ?_
 refine TE.passRet ?_
 clear J4
 refine TE.retCT (H' := []) rfl rfl rfl Tryz.underlying52 rfl sz52 (Rd.own 0 rfl rfl) (ViewT.len ViewT.zero) (fun _ s => sep_keep [] rfl s) ?_
 exact ⟨by simp_all [nextV], rfl⟩
 refine sg' ?_
 refine sg' ?_
 refine nx J8 ?_
 clear J8
 refine sr fun _ J11 => ?_
 refine mv ?_
 refine mv ?_
 refine tq (PV.loadN (vs := ints v.flat) rfl Tryz.underlying52 rfl sz52 rfl (Rd.own 2 rfl rfl) (ViewT.len v) (whole (ViewT.len v))) ?_
 refine tq (PV.fieldAddr (r := 1) rfl Tryz.underlying36 rfl sz3 rfl rfl) ?_
 refine tq (PV.load1 (v := (.int .i64 (c.who))) rfl Tryz.underlying3 rfl rfl (Rd.own 1 rfl rfl) (ChangeT.at_who c rfl)) ?_
 refine TL.callR (A := []) (Want.met rfl rfl rfl) rfl rfl rfl nm38 rfl (member_does v c.who) (fun _ s => s) (fun _ _ _ => trivial) (fun vR HR hR => ?_)
 obtain ⟨rfl, rfl⟩ := hR
 change TL _ _ _ _ _ _ _ _ _ [blkA b4 (ints ViewT.zero.flat) 52, blkA b3 (ints c.flat) 36, blkA b2 (ints v.flat) 52]
 refine TL.decB (fun h38 => ?_) (fun h38 => ?_)
 refine tp (PV.pick rfl rfl rfl) ?_
 refine nx J11 ?_
 clear J11
 refine TC.yes rfl ?_
 refine sr fun _ J12 => ?_
 refine tp (PV.build (cells := (ints ViewT.zero.flat).toArray) rfl rfl (by as_aux_lemma => kernel_rfl)) ?_
 refine TL.store (vs := ints ViewT.zero.flat) (i := 0) (H' := [blkA b4 (ints ViewT.zero.flat) 52, blkA b3 (ints c.flat) 36, blkA b2 (ints v.flat) 52]) (Want.plain rfl) rfl rfl rfl rfl rfl (by rw [(ViewT.len ViewT.zero)]; exact sz52) (ints_one _) rfl rfl (by have h0 := (ViewT.len ViewT.zero); have h1 := (ViewT.len ViewT.zero); omega) (wwhole ((ViewT.len ViewT.zero).trans (ViewT.len ViewT.zero).symm)) rfl ?_
 refine sg' ?_
 refine nx J12 ?_
 clear J12
 refine TC.ret ?_
 refine TE.passRet ?_
 clear J7
 refine TE.blockRet ?_
 refine TE.passRet ?_
 clear J4
 refine TE.retCT (H' := []) rfl rfl rfl Tryz.underlying52 rfl sz52 (Rd.own 0 rfl rfl) (ViewT.len ViewT.zero) (fun _ s => sep_keep [] rfl s) ?_
 exact ⟨by simp_all [nextV], rfl⟩
 refine tp (PV.pick rfl rfl rfl) ?_
 refine nx J11 ?_
 clear J11
 refine TC.no rfl ?_
 refine TC.skip ?_
 refine TE.next J7 ?_
 clear J7
 refine TC.draw (fun w => Frm F w ∧ w.heap[b3]? = some (.cells (ints c.flat).toArray 36 (0, 0)) ∧ True) mixed rfl (fun _ s => ⟨Frm.of s, s.block 1 (lb rfl) rfl, trivial⟩) ?_
 refine ta 0 rfl (PV.fieldAddr (r := 1) rfl Tryz.underlying52 rfl sz3 rfl rfl) ?_
 refine ta 2 rfl (PV.fieldAddr (r := 1) rfl Tryz.underlying36 rfl sz3 rfl rfl) ?_
 refine ta 3 rfl (PV.load1 (v := (.int .i64 (c.who))) rfl Tryz.underlying3 rfl rfl (fun _ h => h.2.1) (ChangeT.at_who c rfl)) ?_
 refine ta 4 rfl (PV.shl (r := (2 ^ c.who.toNat)) rfl rfl rfl (by omega) (shl_one hm1)) ?_
 refine TD.all [1] (by kernel_rfl) rfl ?_
 refine AllT.cons rfl ?_ ?_
 refine tp (PV.load1 (v := (.int .i64 (v.members))) rfl Tryz.underlying3 rfl rfl (Rd.own 2 rfl rfl) (ViewT.at_members v rfl)) ?_
 refine TL.nil ?_
 refine TE.draw (fun _ s => ⟨Frm.of s, s.block 1 (lb rfl) rfl, trivial⟩) ?_
 refine ta 5 rfl (PV.or (r := (orI .i64 v.members (2 ^ c.who.toNat))) rfl rfl rfl rfl) ?_
 refine ta 6 rfl (PV.fieldAddr (r := 1) rfl Tryz.underlying52 rfl sz3 rfl rfl) ?_
 refine TD.all [7] (by kernel_rfl) rfl ?_
 refine AllT.cons rfl ?_ ?_
 refine TL.store1 (i := 2) (H' := [blkA b4 (ints ViewT.zero.flat) 52, blkA b3 (ints c.flat) 36, blkA b2 (ints (ViewT.mk v.epoch (orI .i64 v.members (2 ^ c.who.toNat)) v.heirs).flat) 52]) (Want.plain rfl) rfl rfl rfl rfl rfl sz3 rfl rfl (by have h0 := (ViewT.len v); omega) (ViewT.set_members v rfl _) rfl ?_
 refine TL.nil ?_
 refine TE.draw (fun _ s => ⟨Frm.of s, s.block 1 (lb rfl) rfl, trivial⟩) ?_
 refine TD.done (by kernel_rfl) ?_
 refine TE.blockEnd ?_
 refine TE.next J4 ?_
 clear J4
 refine sr fun _ J13 => ?_
 refine tp (PV.fieldAddr (r := 0) rfl Tryz.underlying52 rfl sz3 rfl rfl) ?_
 refine tp (PV.load1 (v := (.int .i64 (v.epoch))) rfl Tryz.underlying3 rfl rfl (Rd.own 2 rfl rfl) (ViewT.at_epoch (ViewT.mk v.epoch (orI .i64 v.members (2 ^ c.who.toNat)) v.heirs) rfl)) ?_
 refine tp (PV.add (r := (IntKind.i64.wrap (v.epoch + 1))) rfl rfl rfl rfl) ?_
 refine tp (PV.fieldAddr (r := 0) rfl Tryz.underlying52 rfl sz3 rfl rfl) ?_
 refine TL.store1 (i := 2) (H' := [blkA b4 (ints ViewT.zero.flat) 52, blkA b3 (ints c.flat) 36, blkA b2 (ints (ViewT.mk (IntKind.i64.wrap (v.epoch + 1)) (orI .i64 v.members (2 ^ c.who.toNat)) v.heirs).flat) 52]) (Want.plain rfl) rfl rfl rfl rfl rfl sz3 rfl rfl (by have h0 := (ViewT.len (ViewT.mk v.epoch (orI .i64 v.members (2 ^ c.who.toNat)) v.heirs)); omega) (ViewT.set_epoch (ViewT.mk v.epoch (orI .i64 v.members (2 ^ c.who.toNat)) v.heirs) rfl _) rfl ?_
 refine nx J13 ?_
 clear J13
 refine sr fun _ J14 => ?_
 refine tp (PV.loadN (vs := ints (ViewT.mk (IntKind.i64.wrap (v.epoch + 1)) (orI .i64 v.members (2 ^ c.who.toNat)) v.heirs).flat) rfl Tryz.underlying52 rfl sz52 rfl (Rd.own 2 rfl rfl) (ViewT.len (ViewT.mk (IntKind.i64.wrap (v.epoch + 1)) (orI .i64 v.members (2 ^ c.who.toNat)) v.heirs)) (whole (ViewT.len (ViewT.mk (IntKind.i64.wrap (v.epoch + 1)) (orI .i64 v.members (2 ^ c.who.toNat)) v.heirs)))) ?_
 refine TL.store (vs := ints (ViewT.mk (IntKind.i64.wrap (v.epoch + 1)) (orI .i64 v.members (2 ^ c.who.toNat)) v.heirs).flat) (i := 0) (H' := [blkA b4 (ints (ViewT.mk (IntKind.i64.wrap (v.epoch + 1)) (orI .i64 v.members (2 ^ c.who.toNat)) v.heirs).flat) 52, blkA b3 (ints c.flat) 36, blkA b2 (ints (ViewT.mk (IntKind.i64.wrap (v.epoch + 1)) (orI .i64 v.members (2 ^ c.who.toNat)) v.heirs).flat) 52]) (Want.plain rfl) rfl rfl rfl rfl rfl (by rw [(ViewT.len (ViewT.mk (IntKind.i64.wrap (v.epoch + 1)) (orI .i64 v.members (2 ^ c.who.toNat)) v.heirs))]; exact sz52) (ints_one _) rfl rfl (by have h0 := (ViewT.len ViewT.zero); have h1 := (ViewT.len (ViewT.mk (IntKind.i64.wrap (v.epoch + 1)) (orI .i64 v.members (2 ^ c.who.toNat)) v.heirs)); omega) (wwhole ((ViewT.len ViewT.zero).trans (ViewT.len (ViewT.mk (IntKind.i64.wrap (v.epoch + 1)) (orI .i64 v.members (2 ^ c.who.toNat)) v.heirs)).symm)) rfl ?_
 refine sg' ?_
 refine nx J14 ?_
 clear J14
 refine TC.ret ?_
 refine TE.retCT (H' := []) rfl rfl rfl Tryz.underlying52 rfl sz52 (Rd.own 0 rfl rfl) (ViewT.len (ViewT.mk (IntKind.i64.wrap (v.epoch + 1)) (orI .i64 v.members (2 ^ c.who.toNat)) v.heirs)) (fun _ s => sep_keep [] rfl s) ?_
 exact ⟨by simp_all [nextV], rfl⟩
 exact AllT.nil
 exact AllT.nil
 refine sg' ?_
 refine nx J6 ?_
 clear J6
 refine TC.no rfl ?_
 refine sr fun _ J15 => ?_
 refine tp (PV.eql rfl rfl rfl) ?_
 refine TL.dec (fun h49 => ?_) (fun h49 => ?_)
 refine sg' ?_
 refine nx J15 ?_
 clear J15
 refine TC.yes rfl ?_
 refine TC.seq fun _ J16 => ?_
 refine sr fun _ J17 => ?_
 refine tp (PV.loadN (vs := ints v.flat) rfl Tryz.underlying52 rfl sz52 rfl (Rd.own 2 rfl rfl) (ViewT.len v) (whole (ViewT.len v))) ?_
 refine tp (PV.fieldAddr (r := 1) rfl Tryz.underlying36 rfl sz3 rfl rfl) ?_
 refine tp (PV.load1 (v := (.int .i64 (c.who))) rfl Tryz.underlying3 rfl rfl (Rd.own 1 rfl rfl) (ChangeT.at_who c rfl)) ?_
 refine TL.callR (A := []) (Want.plain rfl) rfl rfl rfl nm38 rfl (member_does v c.who) (fun _ s => s) (fun _ _ _ => trivial) (fun vR HR hR => ?_)
 obtain ⟨rfl, rfl⟩ := hR
 change TL _ _ _ _ _ _ _ _ _ [blkA b4 (ints ViewT.zero.flat) 52, blkA b3 (ints c.flat) 36, blkA b2 (ints v.flat) 52]
 refine TL.decB (fun h53 => ?_) (fun h53 => ?_)
 refine tp (PV.not (r := false) rfl rfl rfl) ?_
 refine mv ?_
 refine tq (PV.loadN (vs := ints v.flat) rfl Tryz.underlying52 rfl sz52 rfl (Rd.own 2 rfl rfl) (ViewT.len v) (whole (ViewT.len v))) ?_
 refine tq (PV.fieldAddr (r := 2) rfl Tryz.underlying36 rfl sz3 rfl rfl) ?_
 refine tq (PV.load1 (v := (.int .i64 (c.heir))) rfl Tryz.underlying3 rfl rfl (Rd.own 1 rfl rfl) (ChangeT.at_heir c rfl)) ?_
 refine TL.callR (A := []) (Want.met rfl rfl rfl) rfl rfl rfl nm38 rfl (member_does v c.heir) (fun _ s => s) (fun _ _ _ => trivial) (fun vR HR hR => ?_)
 obtain ⟨rfl, rfl⟩ := hR
 change TL _ _ _ _ _ _ _ _ _ [blkA b4 (ints ViewT.zero.flat) 52, blkA b3 (ints c.flat) 36, blkA b2 (ints v.flat) 52]
 refine TL.decB (fun h59 => ?_) (fun h59 => ?_)
 refine tq (PV.not (r := false) rfl rfl rfl) ?_
 refine tp (PV.pick rfl rfl rfl) ?_
 refine mv ?_
 refine tq (PV.fieldAddr (r := 2) rfl Tryz.underlying36 rfl sz3 rfl rfl) ?_
 refine tq (PV.load1 (v := (.int .i64 (c.heir))) rfl Tryz.underlying3 rfl rfl (Rd.own 1 rfl rfl) (ChangeT.at_heir c rfl)) ?_
 refine tq (PV.fieldAddr (r := 1) rfl Tryz.underlying36 rfl sz3 rfl rfl) ?_
 refine tq (PV.load1 (v := (.int .i64 (c.who))) rfl Tryz.underlying3 rfl rfl (Rd.own 1 rfl rfl) (ChangeT.at_who c rfl)) ?_
 refine tq (PV.eql rfl rfl rfl) ?_
 refine TL.dec (fun h67 => ?_) (fun h67 => ?_)
 refine tp (PV.pick rfl rfl rfl) ?_
 refine nx J17 ?_
 clear J17
 refine TC.yes rfl ?_
 refine sr fun _ J18 => ?_
 refine tp (PV.build (cells := (ints ViewT.zero.flat).toArray) rfl rfl (by as_aux_lemma => kernel_rfl)) ?_
 refine TL.store (vs := ints ViewT.zero.flat) (i := 0) (H' := [blkA b4 (ints ViewT.zero.flat) 52, blkA b3 (ints c.flat) 36, blkA b2 (ints v.flat) 52]) (Want.plain rfl) rfl rfl rfl rfl rfl (by rw [(ViewT.len ViewT.zero)]; exact sz52) (ints_one _) rfl rfl (by have h0 := (ViewT.len ViewT.zero); have h1 := (ViewT.len ViewT.zero); omega) (wwhole ((ViewT.len ViewT.zero).trans (ViewT.len ViewT.zero).symm)) rfl ?_
 refine sg' ?_
 refine nx J18 ?_
 clear J18
 refine TC.ret ?_
 refine TE.passRet ?_
 clear J16
 refine TE.blockRet ?_
 refine TE.passRet ?_
 clear J4
 refine TE.retCT (H' := []) rfl rfl rfl Tryz.underlying52 rfl sz52 (Rd.own 0 rfl rfl) (ViewT.len ViewT.zero) (fun _ s => sep_keep [] rfl s) ?_
 exact ⟨by simp_all [nextV], rfl⟩
 refine tp (PV.pick rfl rfl rfl) ?_
 refine nx J17 ?_
 clear J17
 refine TC.no rfl ?_
 refine TC.skip ?_
 refine TE.next J16 ?_
 clear J16
 refine TC.seq fun _ J19 => ?_
 refine TC.draw (fun w => Frm F w ∧ w.heap[b3]? = some (.cells (ints c.flat).toArray 36 (0, 0)) ∧ True) mixed rfl (fun _ s => ⟨Frm.of s, s.block 1 (lb rfl) rfl, trivial⟩) ?_
 refine ta 0 rfl (PV.fieldAddr (r := 1) rfl Tryz.underlying52 rfl sz3 rfl rfl) ?_
 refine ta 2 rfl (PV.fieldAddr (r := 1) rfl Tryz.underlying36 rfl sz3 rfl rfl) ?_
 refine ta 3 rfl (PV.load1 (v := (.int .i64 (c.who))) rfl Tryz.underlying3 rfl rfl (fun _ h => h.2.1) (ChangeT.at_who c rfl)) ?_
 refine ta 4 rfl (PV.shl (r := (2 ^ c.who.toNat)) rfl rfl rfl (by omega) (shl_one hm1)) ?_
 refine TD.all [1] (by kernel_rfl) rfl ?_
 refine AllT.cons rfl ?_ ?_
 refine tp (PV.load1 (v := (.int .i64 (v.members))) rfl Tryz.underlying3 rfl rfl (Rd.own 2 rfl rfl) (ViewT.at_members v rfl)) ?_
 refine TL.nil ?_
 refine TE.draw (fun _ s => ⟨Frm.of s, s.block 1 (lb rfl) rfl, trivial⟩) ?_
 refine ta 5 rfl (PV.andNot (r := (andNotI .i64 v.members (2 ^ c.who.toNat))) rfl rfl rfl rfl) ?_
 refine ta 6 rfl (PV.fieldAddr (r := 1) rfl Tryz.underlying52 rfl sz3 rfl rfl) ?_
 refine TD.all [7] (by kernel_rfl) rfl ?_
 refine AllT.cons rfl ?_ ?_
 refine TL.store1 (i := 2) (H' := [blkA b4 (ints ViewT.zero.flat) 52, blkA b3 (ints c.flat) 36, blkA b2 (ints (ViewT.mk v.epoch (andNotI .i64 v.members (2 ^ c.who.toNat)) v.heirs).flat) 52]) (Want.plain rfl) rfl rfl rfl rfl rfl sz3 rfl rfl (by have h0 := (ViewT.len v); omega) (ViewT.set_members v rfl _) rfl ?_
 refine TL.nil ?_
 refine TE.draw (fun _ s => ⟨Frm.of s, s.block 1 (lb rfl) rfl, trivial⟩) ?_
 refine TD.done (by kernel_rfl) ?_
 refine TE.next J19 ?_
 clear J19
 refine sr fun _ J20 => ?_
 refine tp (PV.fieldAddr (r := 2) rfl Tryz.underlying52 rfl sz42 rfl rfl) ?_
 refine tp (PV.loadN (vs := ints v.heirs.toList) rfl Tryz.underlying42 rfl sz42 rfl (Rd.own 2 rfl rfl) (vi5_len v.heirs) (ViewT.sub_heirs (ViewT.mk v.epoch (andNotI .i64 v.members (2 ^ c.who.toNat)) v.heirs) 0 rfl (by decide) (whole (vi5_len v.heirs)))) ?_
 refine mv ?_
 refine nx J20 ?_
 clear J20
 refine TC.block ?_
 refine TC.loop (α := (Nat) × (Vector Int 5)) (fun ⟨i, hs⟩ => i ≤ 5 ∧ ∀ (j : Nat) (h : j < 5), hs[j] = if j < i then leaveH c j v.heirs[j] else v.heirs[j]) (fun ⟨i, hs⟩ => [(2, (.pointer (some ⟨b2, 0, none⟩))), (3, (.pointer (some ⟨b3, 0, none⟩))), (4, (.pointer (some ⟨b4, 0, none⟩))), (5, (.int .i64 0)), (78, (.agg (ints v.heirs.toList).toArray)), (79, (.int .i64 (((i : Nat) : Int))))]) (fun ⟨i, hs⟩ => [blkA b4 (ints ViewT.zero.flat) 52, blkA b3 (ints c.flat) 36, blkA b2 (ints (ViewT.mk v.epoch (andNotI .i64 v.members (2 ^ c.who.toNat)) hs).flat) 52]) (fun ⟨i, hs⟩ => 5 - i) (0, v.heirs)
     ⟨Nat.zero_le _, fun j h => by rw [if_neg (by omega)]⟩ (Sub.r (Sub.r (Sub.r (Sub.r (Sub.r (Sub.cons rfl (by congr 1) (Sub.nil _)))))))
     (fun _ s => s) (fun ⟨i, hs⟩ hinv => ?_)
 obtain ⟨hi, ho⟩ := hinv
 refine sr fun _ J21 => ?_
 refine tp (PV.lss rfl rfl rfl) ?_
 refine TL.dec (fun h80 => ?_) (fun h80 => ?_)
 refine nx J21 ?_
 clear J21
 refine TC.seq fun _ J22 => ?_
 refine TC.yes rfl ?_
 refine TC.skip ?_
 refine TE.next J22 ?_
 clear J22
 refine TC.seq fun _ J23 => ?_
 refine TC.block ?_
 refine sr fun _ J24 => ?_
 refine mv ?_
 refine tp (PV.index1 (cs := ints v.heirs.toList) (v := Value.int .i64 (v.heirs[i]'(by omega))) (r := i) rfl Tryz.underlying42 Tryz.underlying3 rfl sz3 rfl rfl (by omega) (by omega) (by omega) (vi_at v.heirs (by omega))) ?_
 refine sg' ?_
 refine sg' ?_
 refine nx J24 ?_
 clear J24
 refine sr fun _ J25 => ?_
 refine mv ?_
 refine tp (PV.fieldAddr (r := 1) rfl Tryz.underlying36 rfl sz3 rfl rfl) ?_
 refine tp (PV.load1 (v := (.int .i64 (c.who))) rfl Tryz.underlying3 rfl rfl (Rd.own 1 rfl rfl) (ChangeT.at_who c rfl)) ?_
 refine tp (PV.eql rfl rfl rfl) ?_
 refine TL.dec (fun h86 => ?_) (fun h86 => ?_)
 refine mv ?_
 refine TL.unmet (b := true) rfl rfl rfl rfl (lb rfl) ?_
 refine TL.unmet (b := true) rfl rfl rfl rfl (lb rfl) ?_
 refine TL.unmet (b := true) rfl rfl rfl rfl (lb rfl) ?_
 refine TL.unmet (b := true) rfl rfl rfl rfl (lb rfl) ?_
 refine TL.unmet (b := true) rfl rfl rfl rfl (lb rfl) ?_
 refine tp (PV.pick rfl rfl rfl) ?_
 refine nx J25 ?_
 clear J25
 refine TC.yes rfl ?_
 refine TC.region ?_
 refine mv ?_
 refine tp (PV.fieldAddr (r := 2) rfl Tryz.underlying36 rfl sz3 rfl rfl) ?_
 refine tp (PV.load1 (v := (.int .i64 (c.heir))) rfl Tryz.underlying3 rfl rfl (Rd.own 1 rfl rfl) (ChangeT.at_heir c rfl)) ?_
 refine tp (PV.add rfl rfl rfl (wrap_i64 (by omega) (by omega))) ?_
 refine tp (PV.fieldAddr (r := 2) rfl Tryz.underlying52 rfl sz42 rfl rfl) ?_
 refine tp (PV.indexArr (r := 2 + i) rfl Tryz.underlying42 sz3 rfl rfl (by omega) (by omega) (by omega)) ?_
 refine TL.store1 (i := 2) (H' := [blkA b4 (ints ViewT.zero.flat) 52, blkA b3 (ints c.flat) 36, blkA b2 (ints (ViewT.mk v.epoch (andNotI .i64 v.members (2 ^ c.who.toNat)) (hs.set i (c.heir + 1) (by omega))).flat) 52]) (Want.plain rfl) rfl rfl rfl rfl rfl sz3 rfl rfl (by have h0 := (ViewT.len (ViewT.mk v.epoch (andNotI .i64 v.members (2 ^ c.who.toNat)) hs)); omega) (ViewT.st_heirs (ViewT.mk v.epoch (andNotI .i64 v.members (2 ^ c.who.toNat)) hs) i (by omega) (by omega) (vi_st hs (by omega) _)) rfl ?_
 refine TL.nil ?_
 refine TE.blockEnd ?_
 refine TE.next J23 ?_
 clear J23
 refine TC.region ?_
 refine tp (PV.add rfl rfl rfl (wrap_i64 (by omega) (by omega))) ?_
 refine mv ?_
 refine TL.nil ?_
 exact TE.round ((i + 1, hs.set i (c.heir + 1) (by omega)) : (Nat) × (Vector Int 5)) ⟨by omega, fun j h => by
        rw [Vector.getElem_set]
        by_cases q : j = i
        · subst q; rw [if_pos rfl, if_pos (by omega), leaveH, if_pos (by omega)]
        · rw [if_neg (by omega), ho j h]
          by_cases q2 : j < i
          · rw [if_pos q2, if_pos (by omega)]
          · rw [if_neg q2, if_neg (by omega)]⟩ (by show 5 - (i + 1) < 5 - i; omega)
   (Sub.r (Sub.r (Sub.r (Sub.r (Sub.r (Sub.cons rfl (by simp) (Sub.nil _)))))))
   (fun _ s => s)
 refine mv ?_
 refine tq (PV.move rfl rfl) ?_
 refine tq (PV.fieldAddr (r := 1) rfl Tryz.underlying36 rfl sz3 rfl rfl) ?_
 refine tq (PV.load1 (v := (.int .i64 (c.who))) rfl Tryz.underlying3 rfl rfl (Rd.own 1 rfl rfl) (ChangeT.at_who c rfl)) ?_
 refine tq (PV.add rfl rfl rfl (wrap_i64 (by omega) (by omega))) ?_
 refine tq (PV.eql rfl rfl rfl) ?_
 refine TL.dec (fun h92 => ?_) (fun h92 => ?_)
 refine tp (PV.pick rfl rfl rfl) ?_
 refine nx J25 ?_
 clear J25
 refine TC.yes rfl ?_
 refine TC.region ?_
 refine mv ?_
 refine tp (PV.fieldAddr (r := 2) rfl Tryz.underlying36 rfl sz3 rfl rfl) ?_
 refine tp (PV.load1 (v := (.int .i64 (c.heir))) rfl Tryz.underlying3 rfl rfl (Rd.own 1 rfl rfl) (ChangeT.at_heir c rfl)) ?_
 refine tp (PV.add rfl rfl rfl (wrap_i64 (by omega) (by omega))) ?_
 refine tp (PV.fieldAddr (r := 2) rfl Tryz.underlying52 rfl sz42 rfl rfl) ?_
 refine tp (PV.indexArr (r := 2 + i) rfl Tryz.underlying42 sz3 rfl rfl (by omega) (by omega) (by omega)) ?_
 refine TL.store1 (i := 2) (H' := [blkA b4 (ints ViewT.zero.flat) 52, blkA b3 (ints c.flat) 36, blkA b2 (ints (ViewT.mk v.epoch (andNotI .i64 v.members (2 ^ c.who.toNat)) (hs.set i (c.heir + 1) (by omega))).flat) 52]) (Want.plain rfl) rfl rfl rfl rfl rfl sz3 rfl rfl (by have h0 := (ViewT.len (ViewT.mk v.epoch (andNotI .i64 v.members (2 ^ c.who.toNat)) hs)); omega) (ViewT.st_heirs (ViewT.mk v.epoch (andNotI .i64 v.members (2 ^ c.who.toNat)) hs) i (by omega) (by omega) (vi_st hs (by omega) _)) rfl ?_
 refine TL.nil ?_
 refine TE.blockEnd ?_
 refine TE.next J23 ?_
 clear J23
 refine TC.region ?_
 refine tp (PV.add rfl rfl rfl (wrap_i64 (by omega) (by omega))) ?_
 refine mv ?_
 refine TL.nil ?_
 exact TE.round ((i + 1, hs.set i (c.heir + 1) (by omega)) : (Nat) × (Vector Int 5)) ⟨by omega, fun j h => by
        rw [Vector.getElem_set]
        by_cases q : j = i
        · subst q; rw [if_pos rfl, if_pos (by omega), leaveH, if_pos (by omega)]
        · rw [if_neg (by omega), ho j h]
          by_cases q2 : j < i
          · rw [if_pos q2, if_pos (by omega)]
          · rw [if_neg q2, if_neg (by omega)]⟩ (by show 5 - (i + 1) < 5 - i; omega)
   (Sub.r (Sub.r (Sub.r (Sub.r (Sub.r (Sub.cons rfl (by simp) (Sub.nil _)))))))
   (fun _ s => s)
 refine tp (PV.pick rfl rfl rfl) ?_
 refine nx J25 ?_
 clear J25
 refine TC.no rfl ?_
 refine TC.skip ?_
 refine TE.blockEnd ?_
 refine TE.next J23 ?_
 clear J23
 refine TC.region ?_
 refine tp (PV.add rfl rfl rfl (wrap_i64 (by omega) (by omega))) ?_
 refine mv ?_
 refine TL.nil ?_
 exact TE.round ((i + 1, hs) : (Nat) × (Vector Int 5)) ⟨by omega, fun j h => by
        rw [ho j h]
        by_cases q : j = i
        · subst q; rw [if_neg (by omega), if_pos (by omega), leaveH, if_neg (by omega)]
        · by_cases q2 : j < i
          · rw [if_pos q2, if_pos (by omega)]
          · rw [if_neg q2, if_neg (by omega)]⟩ (by show 5 - (i + 1) < 5 - i; omega)
   (Sub.r (Sub.r (Sub.r (Sub.r (Sub.r (Sub.cons rfl (by simp) (Sub.nil _)))))))
   (fun _ s => s)
 refine nx J21 ?_
 clear J21
 refine TC.seq fun _ J26 => ?_
 refine TC.no rfl ?_
 refine TC.exit ?_
 refine TE.pass ?_
 clear J26
 refine TE.pass ?_
 refine TE.hit ?_
 refine TE.blockEnd ?_
 refine TE.next J4 ?_
 clear J4
 refine sr fun _ J27 => ?_
 refine tp (PV.fieldAddr (r := 0) rfl Tryz.underlying52 rfl sz3 rfl rfl) ?_
 refine tp (PV.load1 (v := (.int .i64 (v.epoch))) rfl Tryz.underlying3 rfl rfl (Rd.own 2 rfl rfl) (ViewT.at_epoch (ViewT.mk v.epoch (andNotI .i64 v.members (2 ^ c.who.toNat)) hs) rfl)) ?_
 refine tp (PV.add (r := (IntKind.i64.wrap (v.epoch + 1))) rfl rfl rfl rfl) ?_
 refine tp (PV.fieldAddr (r := 0) rfl Tryz.underlying52 rfl sz3 rfl rfl) ?_
 refine TL.store1 (i := 2) (H' := [blkA b4 (ints ViewT.zero.flat) 52, blkA b3 (ints c.flat) 36, blkA b2 (ints (ViewT.mk (IntKind.i64.wrap (v.epoch + 1)) (andNotI .i64 v.members (2 ^ c.who.toNat)) hs).flat) 52]) (Want.plain rfl) rfl rfl rfl rfl rfl sz3 rfl rfl (by have h0 := (ViewT.len (ViewT.mk v.epoch (andNotI .i64 v.members (2 ^ c.who.toNat)) hs)); omega) (ViewT.set_epoch (ViewT.mk v.epoch (andNotI .i64 v.members (2 ^ c.who.toNat)) hs) rfl _) rfl ?_
 refine nx J27 ?_
 clear J27
 refine sr fun _ J28 => ?_
 refine tp (PV.loadN (vs := ints (ViewT.mk (IntKind.i64.wrap (v.epoch + 1)) (andNotI .i64 v.members (2 ^ c.who.toNat)) hs).flat) rfl Tryz.underlying52 rfl sz52 rfl (Rd.own 2 rfl rfl) (ViewT.len (ViewT.mk (IntKind.i64.wrap (v.epoch + 1)) (andNotI .i64 v.members (2 ^ c.who.toNat)) hs)) (whole (ViewT.len (ViewT.mk (IntKind.i64.wrap (v.epoch + 1)) (andNotI .i64 v.members (2 ^ c.who.toNat)) hs)))) ?_
 refine TL.store (vs := ints (ViewT.mk (IntKind.i64.wrap (v.epoch + 1)) (andNotI .i64 v.members (2 ^ c.who.toNat)) hs).flat) (i := 0) (H' := [blkA b4 (ints (ViewT.mk (IntKind.i64.wrap (v.epoch + 1)) (andNotI .i64 v.members (2 ^ c.who.toNat)) hs).flat) 52, blkA b3 (ints c.flat) 36, blkA b2 (ints (ViewT.mk (IntKind.i64.wrap (v.epoch + 1)) (andNotI .i64 v.members (2 ^ c.who.toNat)) hs).flat) 52]) (Want.plain rfl) rfl rfl rfl rfl rfl (by rw [(ViewT.len (ViewT.mk (IntKind.i64.wrap (v.epoch + 1)) (andNotI .i64 v.members (2 ^ c.who.toNat)) hs))]; exact sz52) (ints_one _) rfl rfl (by have h0 := (ViewT.len ViewT.zero); have h1 := (ViewT.len (ViewT.mk (IntKind.i64.wrap (v.epoch + 1)) (andNotI .i64 v.members (2 ^ c.who.toNat)) hs)); omega) (wwhole ((ViewT.len ViewT.zero).trans (ViewT.len (ViewT.mk (IntKind.i64.wrap (v.epoch + 1)) (andNotI .i64 v.members (2 ^ c.who.toNat)) hs)).symm)) rfl ?_
 refine sg' ?_
 refine nx J28 ?_
 clear J28
 refine TC.ret ?_
 refine TE.retCT (H' := []) rfl rfl rfl Tryz.underlying52 rfl sz52 (Rd.own 0 rfl rfl) (ViewT.len (ViewT.mk (IntKind.i64.wrap (v.epoch + 1)) (andNotI .i64 v.members (2 ^ c.who.toNat)) hs)) (fun _ s => sep_keep [] rfl s) ?_
 have e : hs = leaveV v c := by
   apply Vector.ext; intro j hj; rw [ho j hj, if_pos (by omega)]; simp [leaveV]
 subst e
 exact ⟨by simp_all [nextV], rfl⟩
 exact AllT.nil
 exact AllT.nil
 refine tq (PV.not (r := true) rfl rfl rfl) ?_
 refine tp (PV.pick rfl rfl rfl) ?_
 refine mv ?_
 refine TL.unmet (b := true) rfl rfl rfl rfl (lb rfl) ?_
 refine TL.unmet (b := true) rfl rfl rfl rfl (lb rfl) ?_
 refine TL.unmet (b := true) rfl rfl rfl rfl (lb rfl) ?_
 refine TL.unmet (b := true) rfl rfl rfl rfl (lb rfl) ?_
 refine TL.unmet (b := true) rfl rfl rfl rfl (lb rfl) ?_
 refine tp (PV.pick rfl rfl rfl) ?_
 refine nx J17 ?_
 clear J17
 refine TC.yes rfl ?_
 refine sr fun _ J29 => ?_
 refine tp (PV.build (cells := (ints ViewT.zero.flat).toArray) rfl rfl (by as_aux_lemma => kernel_rfl)) ?_
 refine TL.store (vs := ints ViewT.zero.flat) (i := 0) (H' := [blkA b4 (ints ViewT.zero.flat) 52, blkA b3 (ints c.flat) 36, blkA b2 (ints v.flat) 52]) (Want.plain rfl) rfl rfl rfl rfl rfl (by rw [(ViewT.len ViewT.zero)]; exact sz52) (ints_one _) rfl rfl (by have h0 := (ViewT.len ViewT.zero); have h1 := (ViewT.len ViewT.zero); omega) (wwhole ((ViewT.len ViewT.zero).trans (ViewT.len ViewT.zero).symm)) rfl ?_
 refine sg' ?_
 refine nx J29 ?_
 clear J29
 refine TC.ret ?_
 refine TE.passRet ?_
 clear J16
 refine TE.blockRet ?_
 refine TE.passRet ?_
 clear J4
 refine TE.retCT (H' := []) rfl rfl rfl Tryz.underlying52 rfl sz52 (Rd.own 0 rfl rfl) (ViewT.len ViewT.zero) (fun _ s => sep_keep [] rfl s) ?_
 exact ⟨by simp_all [nextV], rfl⟩
 refine tp (PV.not (r := true) rfl rfl rfl) ?_
 refine mv ?_
 refine TL.unmet (b := true) rfl rfl rfl rfl (lb rfl) ?_
 refine TL.unmet (b := true) rfl rfl rfl rfl (lb rfl) ?_
 refine TL.unmet (b := true) rfl rfl rfl rfl (lb rfl) ?_
 refine TL.unmet (b := true) rfl rfl rfl rfl (lb rfl) ?_
 refine TL.unmet (b := true) rfl rfl rfl rfl (lb rfl) ?_
 refine tp (PV.pick rfl rfl rfl) ?_
 refine mv ?_
 refine TL.unmet (b := true) rfl rfl rfl rfl (lb rfl) ?_
 refine TL.unmet (b := true) rfl rfl rfl rfl (lb rfl) ?_
 refine TL.unmet (b := true) rfl rfl rfl rfl (lb rfl) ?_
 refine TL.unmet (b := true) rfl rfl rfl rfl (lb rfl) ?_
 refine TL.unmet (b := true) rfl rfl rfl rfl (lb rfl) ?_
 refine tp (PV.pick rfl rfl rfl) ?_
 refine nx J17 ?_
 clear J17
 refine TC.yes rfl ?_
 refine sr fun _ J30 => ?_
 refine tp (PV.build (cells := (ints ViewT.zero.flat).toArray) rfl rfl (by as_aux_lemma => kernel_rfl)) ?_
 refine TL.store (vs := ints ViewT.zero.flat) (i := 0) (H' := [blkA b4 (ints ViewT.zero.flat) 52, blkA b3 (ints c.flat) 36, blkA b2 (ints v.flat) 52]) (Want.plain rfl) rfl rfl rfl rfl rfl (by rw [(ViewT.len ViewT.zero)]; exact sz52) (ints_one _) rfl rfl (by have h0 := (ViewT.len ViewT.zero); have h1 := (ViewT.len ViewT.zero); omega) (wwhole ((ViewT.len ViewT.zero).trans (ViewT.len ViewT.zero).symm)) rfl ?_
 refine sg' ?_
 refine nx J30 ?_
 clear J30
 refine TC.ret ?_
 refine TE.passRet ?_
 clear J16
 refine TE.blockRet ?_
 refine TE.passRet ?_
 clear J4
 refine TE.retCT (H' := []) rfl rfl rfl Tryz.underlying52 rfl sz52 (Rd.own 0 rfl rfl) (ViewT.len ViewT.zero) (fun _ s => sep_keep [] rfl s) ?_
 exact ⟨by simp_all [nextV], rfl⟩
 refine sg' ?_
 refine nx J15 ?_
 clear J15
 refine TC.no rfl ?_
 refine sr fun _ J31 => ?_
 refine tp (PV.build (cells := (ints ViewT.zero.flat).toArray) rfl rfl (by as_aux_lemma => kernel_rfl)) ?_
 refine TL.store (vs := ints ViewT.zero.flat) (i := 0) (H' := [blkA b4 (ints ViewT.zero.flat) 52, blkA b3 (ints c.flat) 36, blkA b2 (ints v.flat) 52]) (Want.plain rfl) rfl rfl rfl rfl rfl (by rw [(ViewT.len ViewT.zero)]; exact sz52) (ints_one _) rfl rfl (by have h0 := (ViewT.len ViewT.zero); have h1 := (ViewT.len ViewT.zero); omega) (wwhole ((ViewT.len ViewT.zero).trans (ViewT.len ViewT.zero).symm)) rfl ?_
 refine sg' ?_
 refine nx J31 ?_
 clear J31
 refine TC.ret ?_
 refine TE.blockRet ?_
 refine TE.passRet ?_
 clear J4
 refine TE.retCT (H' := []) rfl rfl rfl Tryz.underlying52 rfl sz52 (Rd.own 0 rfl rfl) (ViewT.len ViewT.zero) (fun _ s => sep_keep [] rfl s) ?_
 exact ⟨by simp_all [nextV], rfl⟩
 refine tq (PV.not (r := true) rfl rfl rfl) ?_
 refine tp (PV.pick rfl rfl rfl) ?_
 refine nx J3 ?_
 clear J3
 refine TC.yes rfl ?_
 refine sr fun _ J32 => ?_
 refine tp (PV.build (cells := (ints ViewT.zero.flat).toArray) rfl rfl (by as_aux_lemma => kernel_rfl)) ?_
 refine TL.store (vs := ints ViewT.zero.flat) (i := 0) (H' := [blkA b4 (ints ViewT.zero.flat) 52, blkA b3 (ints c.flat) 36, blkA b2 (ints v.flat) 52]) (Want.plain rfl) rfl rfl rfl rfl rfl (by rw [(ViewT.len ViewT.zero)]; exact sz52) (ints_one _) rfl rfl (by have h0 := (ViewT.len ViewT.zero); have h1 := (ViewT.len ViewT.zero); omega) (wwhole ((ViewT.len ViewT.zero).trans (ViewT.len ViewT.zero).symm)) rfl ?_
 refine sg' ?_
 refine nx J32 ?_
 clear J32
 refine TC.ret ?_
 refine TE.passRet ?_
 clear J2
 refine TE.retCT (H' := []) rfl rfl rfl Tryz.underlying52 rfl sz52 (Rd.own 0 rfl rfl) (ViewT.len ViewT.zero) (fun _ s => sep_keep [] rfl s) ?_
 exact ⟨by simp_all [nextV], rfl⟩
 refine tp (PV.not (r := true) rfl rfl rfl) ?_
 refine mv ?_
 refine TL.unmet (b := true) rfl rfl rfl rfl (lb rfl) ?_
 refine TL.unmet (b := true) rfl rfl rfl rfl (lb rfl) ?_
 refine TL.unmet (b := true) rfl rfl rfl rfl (lb rfl) ?_
 refine TL.unmet (b := true) rfl rfl rfl rfl (lb rfl) ?_
 refine tp (PV.pick rfl rfl rfl) ?_
 refine nx J3 ?_
 clear J3
 refine TC.yes rfl ?_
 refine sr fun _ J33 => ?_
 refine tp (PV.build (cells := (ints ViewT.zero.flat).toArray) rfl rfl (by as_aux_lemma => kernel_rfl)) ?_
 refine TL.store (vs := ints ViewT.zero.flat) (i := 0) (H' := [blkA b4 (ints ViewT.zero.flat) 52, blkA b3 (ints c.flat) 36, blkA b2 (ints v.flat) 52]) (Want.plain rfl) rfl rfl rfl rfl rfl (by rw [(ViewT.len ViewT.zero)]; exact sz52) (ints_one _) rfl rfl (by have h0 := (ViewT.len ViewT.zero); have h1 := (ViewT.len ViewT.zero); omega) (wwhole ((ViewT.len ViewT.zero).trans (ViewT.len ViewT.zero).symm)) rfl ?_
 refine sg' ?_
 refine nx J33 ?_
 clear J33
 refine TC.ret ?_
 refine TE.passRet ?_
 clear J2
 refine TE.retCT (H' := []) rfl rfl rfl Tryz.underlying52 rfl sz52 (Rd.own 0 rfl rfl) (ViewT.len ViewT.zero) (fun _ s => sep_keep [] rfl s) ?_
 exact ⟨by simp_all [nextV], rfl⟩
end Go.Proofs.YtfceaphohlbnbaaGreat
end

section
namespace Leg
open Go Codec Api

def EF {α : Type} (f : α → List Int) (us : List Value) (x : α) (_ : Hl) : Prop := us = ints (f x)
theorem EF.more {α : Type} {f : α → List Int} (us : List Value) (x : α) (F g : Hl) (h : EF f us x F) (_ : Dj g F) : EF f us x (jn g F) := h
section
variable {α : Type} {f : α → List Int} {m : Nat}
theorem flat_sub (hf : ∀ x, (f x).length = m) (l : List α) {i : Nat} (hi : i < l.length) : ((ints (l.flatMap f)).drop (i * m)).take m = ints (f l[i]) := by
  rw [vs_eq]
  have hl := vs_sl hf l
  have := hl.sub (s := ints (f l[i])) i 0 m (by simp [hi]) (by simp [hi]) (sum_rep m l.length i (by omega)) (Nat.le_of_eq (Nat.zero_add m))
  rw [Nat.add_zero] at this
  rw [this, List.drop_zero, List.take_of_length_le (by rw [ints_length, hf]; exact Nat.le_refl _)]
theorem flat_len (hf : ∀ x, (f x).length = m) (l : List α) : (ints (l.flatMap f)).length = l.length * m := by
  rw [ints_length]
  induction l with
  | nil => simp
  | cons x l ih => rw [List.flatMap_cons, List.length_append, ih, hf, List.length_cons, Nat.add_mul]; omega
theorem IsL.src (hm : 0 < m) (hf : ∀ x, (f x).length = m) {S : World → Prop} {v : Value} {l : List α} {F : Hl} (h : IsL m (EF f) v l F) (hS : ∀ w, S w → Frm F w) : Src S v l.length (ints (l.flatMap f)) m := by
  refine ⟨flat_len hf l, ?_⟩
  rcases h with ⟨rfl, rfl⟩ | ⟨a, c, rfl, rfl⟩ | ⟨b, off, cap, cs, T, z, rfl, h1, h2, h3, h4⟩
  · exact .inl ⟨rfl, rfl⟩
  · exact .inr ⟨a, c, rfl, fun w _ j u h => by simp [ints] at h⟩
  · refine .inr ⟨⟨b, off, none⟩, cap, rfl, fun w s j u h => ?_⟩
    have hj := (List.getElem?_eq_some_iff.1 h).1
    rw [flat_len hf] at hj
    have hq : j / m < l.length := (Nat.div_lt_iff_lt_mul hm).2 hj
    obtain ⟨us, e1, e2, e3⟩ := h4 (j / m) hq
    have e4 : us = ints (f l[j / m]) := e3
    have hr := Nat.mod_lt j hm
    have hd := Nat.div_add_mod j m
    rw [Nat.mul_comm] at hd
    have e5 : (((ints (l.flatMap f)).drop (j / m * m)).take m)[j % m]? = some u := by
      rw [List.getElem?_take, if_pos hr, List.getElem?_drop, hd]; exact h
    rw [flat_sub hf l hq, ← e4, ← e2, List.getElem?_take, if_pos hr, List.getElem?_drop] at e5
    rw [addL, cell_ofL (hS w s b _ h3)]
    rw [← e5]; congr 1; show off + j = _; omega
theorem IsL.first {E : List Value → α → Hl → Prop} {a : Option Addr} {c k n : Nat} {l : List α} {F : Hl} (h : IsL m E (.slice a n c) l F) (hk : k ≤ l.length) : IsL m E (.slice a k c) (l.take k) F := by
  have hl : (l.take k).length = k := by rw [List.length_take]; omega
  rcases h with ⟨h, rfl⟩ | ⟨a', c', h, rfl⟩ | ⟨b, off, cap, cs, T, z, h, h1, h2, h3, h4⟩
  · have : k = 0 := by simpa using hk
    subst this
    injection h with e1 e2 e3
    subst e1; subst e3
    exact .inl ⟨rfl, rfl⟩
  · have : k = 0 := by simpa using hk
    subst this
    injection h with e1 e2 e3
    subst e1; subst e3
    exact .inr (.inl ⟨a', c, rfl, rfl⟩)
  · injection h with e1 e2 e3
    subst e1; subst e3
    by_cases e : k = 0
    · subst e; exact .inr (.inl ⟨_, c, rfl, rfl⟩)
    · exact .inr (.inr ⟨b, off, c, cs, T, z, by rw [hl], by omega, h2, h3, fun j hj => let ⟨us, e1, e2, e3⟩ := h4 j (by omega); ⟨us, e1, e2, by rw [List.getElem_take]; exact e3⟩⟩)
end
section
variable {P : Program} {w0 : World} {F : Hl} {n : Nat} {ops : Array Oper} {Q : QQ} {D : List Deferred} {L : List (Nat × Value)} {H : List HP} {o : Oper} {l : List Oper} {S : World → Prop}
end
end Leg
end

section
namespace Leg
open Go Api
def Arnd {α : Type} (cs c : α → List Value) (off : Nat) : Prop := ∃ A B, A.length = off ∧ ∀ x, cs x = A ++ (c x ++ B)
section
variable {α : Type} {cs c : α → List Value} {off o j k : Nat} {x x' : α}
theorem Arnd.le (h : Arnd cs c off) (x : α) : off + (c x).length ≤ (cs x).length := by
  obtain ⟨A, B, h1, h2⟩ := h
  rw [h2, List.length_append, List.length_append]; omega
theorem Arnd.at (h : Arnd cs c off) (ho : o = off + j) (hj : j < (c x).length) {r : Option Value} (hr : (c x)[j]? = r) : (cs x)[o]? = r := by
  obtain ⟨A, B, h1, h2⟩ := h
  subst ho; subst h1
  rw [h2, List.getElem?_append_right (by omega), Nat.add_sub_cancel_left, List.getElem?_append_left hj, hr]
theorem Arnd.sub (h : Arnd cs c off) (ho : o = off + j) (hj : j + k ≤ (c x).length) {r : List Value} (hr : ((c x).drop j).take k = r) : ((cs x).drop o).take k = r := by
  obtain ⟨A, B, h1, h2⟩ := h
  subst ho; subst h1
  rw [h2, ← List.drop_drop, List.drop_left, List.drop_append_of_le_length (by omega), List.take_append_of_le_length (by rw [List.length_drop]; omega), hr]
theorem Arnd.wr (h : Arnd cs c off) {vs : List Value} (ho : o = off + j) (hj : j + vs.length ≤ (c x).length) (hw : Leg.wr (c x) j vs = c x') : Leg.wr (cs x) o vs = cs x' := by
  obtain ⟨A, B, h1, h2⟩ := h
  subst ho; subst h1
  rw [h2, h2, wr_append_right (by omega), Nat.add_sub_cancel_left, wr_append_left hj, hw]
theorem Arnd.set (h : Arnd cs c off) {v : Value} (ho : o = off + j) (hj : j < (c x).length) (hw : (c x).set j v = c x') : (cs x).set o v = cs x' := by
  obtain ⟨A, B, h1, h2⟩ := h
  subst ho; subst h1
  rw [h2, h2, List.set_append_right _ _ (by omega), Nat.add_sub_cancel_left, List.set_append_left _ _ hj, hw]
theorem Arnd.whole : Arnd c c 0 := ⟨[], [], rfl, fun x => by simp⟩
theorem Arnd.trans {β : Type} {cs : β → List Value} {d : β → List Value} {g : α → β} {off2 : Nat} (h : Arnd cs d off) (h2 : Arnd (fun x => d (g x)) c off2) : Arnd (fun x => cs (g x)) c (off + off2) := by
  obtain ⟨A, B, h1, e1⟩ := h
  obtain ⟨A2, B2, h3, e2⟩ := h2
  refine ⟨A ++ A2, B2 ++ B, by rw [List.length_append]; omega, fun x => ?_⟩
  have := e2 x
  simp only at this
  show cs (g x) = _
  rw [e1, this]; simp
end
end Leg
namespace Api
open Go Leg Codec
set_option maxHeartbeats 400000
def bools (l : List Bool) : List Value := l.map .bool
theorem vb_at {n : Nat} (v : Vector Bool n) {i : Nat} (h : i < n) : (bools v.toList)[i]? = some (.bool v[i]) := by simp [bools, h]
theorem vb_st {n : Nat} (v : Vector Bool n) {i : Nat} (h : i < n) (x : Bool) : (bools v.toList).set i (.bool x) = bools (v.set i x h).toList := by rw [tl_set]; simp [bools, List.map_set]
theorem vsr_len (v : Vector RowT 5) : (ints (v.toList.flatMap RowT.flat)).length = 870 := by rw [flat_len RowT.flat_length]; simp
theorem vsc_len (v : Vector CellT 5) : (ints (v.toList.flatMap CellT.flat)).length = 35 := by rw [flat_len CellT.flat_length]; simp
structure AccT where
  epoch : Int
  vow : BallotT
  had : BallotT
  change : ChangeT
def AccT.zero : AccT := ⟨0, .zero, .zero, .zero⟩
def AccT.flat (m : AccT) : List Int := ([m.epoch]) ++ (m.vow.flat) ++ (m.had.flat) ++ (m.change.flat)
structure SaidT where
  to' : Int
  msg : MsgT
def SaidT.zero : SaidT := ⟨0, .zero⟩
def SaidT.flat (m : SaidT) : List Int := ([m.to']) ++ (m.msg.flat)
structure BookT where
  rows : Vector RowT 5
def BookT.zero : BookT := ⟨#v[RowT.zero, RowT.zero, RowT.zero, RowT.zero, RowT.zero]⟩
def BookT.flat (m : BookT) : List Int := (m.rows.toList.flatMap RowT.flat)
structure MirT where
  rows : Vector RowT 5
  sealed : Vector Bool 5
def MirT.zero : MirT := ⟨#v[RowT.zero, RowT.zero, RowT.zero, RowT.zero, RowT.zero], #v[false, false, false, false, false]⟩
def MirT.cells (m : MirT) : List Value := [ints (m.rows.toList.flatMap RowT.flat), bools m.sealed.toList].flatten
structure VoteT where
  view : ViewT
  ballot : BallotT
  change : ChangeT
  best : BallotT
  vowed : Int
  took : Int
  putting : Bool
def VoteT.zero : VoteT := ⟨.zero, .zero, .zero, .zero, 0, 0, false⟩
def VoteT.cells (m : VoteT) : List Value := [ints m.view.flat, ints m.ballot.flat, ints m.change.flat, ints m.best.flat, [Value.int .i64 m.vowed], [Value.int .i64 m.took], [Value.bool m.putting]].flatten
structure RepT where
  id : Int
  log : Value
  view : ViewT
  own : RowT
  mirror : MirT
  acc : AccT
  round : Int
  vote : Value
  book : BookT
  busy : Bool
  kept : Int
  waits : Int
  ops : Int
  replies : Value
  told : Vector Int 5
  last : Vector RowT 5
def RepT.zero : RepT := ⟨0, .pointer none, .zero, .zero, .zero, .zero, 0, .pointer none, .zero, false, 0, 0, 0, .slice none 0 0, #v[0, 0, 0, 0, 0], #v[RowT.zero, RowT.zero, RowT.zero, RowT.zero, RowT.zero]⟩
def RepT.cells (m : RepT) : List Value := [[Value.int .i64 m.id], [m.log], ints m.view.flat, ints m.own.flat, MirT.cells m.mirror, ints m.acc.flat, [Value.int .i64 m.round], [m.vote], ints m.book.flat, [Value.bool m.busy], [Value.int .i64 m.kept], [Value.int .i64 m.waits], [Value.int .i64 m.ops], [m.replies], ints m.told.toList, ints (m.last.toList.flatMap RowT.flat)].flatten
theorem AccT.sl (m : AccT) : SL [[Value.int .i64 m.epoch], ints m.vow.flat, ints m.had.flat, ints m.change.flat] [1, 2, 2, 3] := (.cons rfl (.cons (BallotT.len _) (.cons (BallotT.len _) (.cons (ChangeT.len _) .nil))))
theorem AccT.eq (m : AccT) : ints m.flat = [[Value.int .i64 m.epoch], ints m.vow.flat, ints m.had.flat, ints m.change.flat].flatten := by simp [AccT.flat, ints]
theorem AccT.len (m : AccT) : (ints m.flat).length = 8 := by rw [AccT.eq, (AccT.sl m).len]; rfl
theorem AccT.at_epoch (m : AccT) {o : Nat} (ho : o = 0) : (ints m.flat)[o]? = some (Value.int .i64 m.epoch) := by subst ho; rw [AccT.eq]; exact (AccT.sl m).at (off := 0) 0 0 rfl rfl (by simp) (by decide)
theorem AccT.set_epoch (m : AccT) {o : Nat} (ho : o = 0) (x : Int) : (ints m.flat).set o (Value.int .i64 x) = ints ({ m with epoch := x } : AccT).flat := by subst ho; rw [AccT.eq, AccT.eq]; exact (AccT.sl m).set (off := 0) 0 0 _ rfl rfl (by simp) (by decide)
theorem AccT.sub_change (m : AccT) {o k : Nat} (j : Nat) (ho : o = 5 + j) (h : j + k ≤ 3) {r : List Value} (hr : ((ints m.change.flat).drop j).take k = r) : ((ints m.flat).drop o).take k = r := by subst ho; rw [← hr, AccT.eq]; exact (AccT.sl m).sub (off := 5) 3 j k rfl rfl (by simp) h
theorem SaidT.sl (m : SaidT) : SL [[Value.int .i64 m.to'], ints m.msg.flat] [1, 192] := (.cons rfl (.cons (MsgT.len _) .nil))
theorem SaidT.eq (m : SaidT) : ints m.flat = [[Value.int .i64 m.to'], ints m.msg.flat].flatten := by simp [SaidT.flat, ints]
theorem SaidT.len (m : SaidT) : (ints m.flat).length = 193 := by rw [SaidT.eq, (SaidT.sl m).len]; rfl
theorem SaidT.at_to' (m : SaidT) {o : Nat} (ho : o = 0) : (ints m.flat)[o]? = some (Value.int .i64 m.to') := by subst ho; rw [SaidT.eq]; exact (SaidT.sl m).at (off := 0) 0 0 rfl rfl (by simp) (by decide)
theorem SaidT.pt_msg (m : SaidT) {o : Nat} (j : Nat) (ho : o = 1 + j) (h : j < 192) {r : Option Value} (hr : (ints m.msg.flat)[j]? = r) : (ints m.flat)[o]? = r := by subst ho; rw [← hr, SaidT.eq]; exact (SaidT.sl m).at (off := 1) 1 j rfl rfl (by simp) h
theorem SaidT.sub_msg (m : SaidT) {o k : Nat} (j : Nat) (ho : o = 1 + j) (h : j + k ≤ 192) {r : List Value} (hr : ((ints m.msg.flat).drop j).take k = r) : ((ints m.flat).drop o).take k = r := by subst ho; rw [← hr, SaidT.eq]; exact (SaidT.sl m).sub (off := 1) 1 j k rfl rfl (by simp) h
theorem BookT.sl (m : BookT) : SL [ints (m.rows.toList.flatMap RowT.flat)] [870] := (.cons (vsr_len _) .nil)
theorem BookT.eq (m : BookT) : ints m.flat = [ints (m.rows.toList.flatMap RowT.flat)].flatten := by simp [BookT.flat, ints]
theorem BookT.len (m : BookT) : (ints m.flat).length = 870 := by rw [BookT.eq, (BookT.sl m).len]; rfl
theorem BookT.pt_rows (m : BookT) {o : Nat} (j : Nat) (ho : o = 0 + j) (h : j < 870) {r : Option Value} (hr : (ints (m.rows.toList.flatMap RowT.flat))[j]? = r) : (ints m.flat)[o]? = r := by subst ho; rw [← hr, BookT.eq]; exact (BookT.sl m).at (off := 0) 0 j rfl rfl (by simp) h
theorem BookT.sub_rows (m : BookT) {o k : Nat} (j : Nat) (ho : o = 0 + j) (h : j + k ≤ 870) {r : List Value} (hr : ((ints (m.rows.toList.flatMap RowT.flat)).drop j).take k = r) : ((ints m.flat).drop o).take k = r := by subst ho; rw [← hr, BookT.eq]; exact (BookT.sl m).sub (off := 0) 0 j k rfl rfl (by simp) h
theorem BookT.wr_rows_ (m : BookT) {o : Nat} (j : Nat) {vs : List Value} {u' : Vector RowT 5} (ho : o = 0 + j) (h : j + vs.length ≤ 870) (hw : wr (ints (m.rows.toList.flatMap RowT.flat)) j vs = ints (u'.toList.flatMap RowT.flat)) : wr (ints m.flat) o vs = ints ({ m with rows := u' } : BookT).flat := by subst ho; rw [BookT.eq, BookT.eq]; exact (BookT.sl m).putIn (off := 0) 0 j vs rfl rfl (by simp) h hw
theorem MirT.sl (m : MirT) : SL [ints (m.rows.toList.flatMap RowT.flat), bools m.sealed.toList] [870, 5] := (.cons (vsr_len _) (.cons (by simp [bools]) .nil))
theorem MirT.eq (m : MirT) : MirT.cells m = [ints (m.rows.toList.flatMap RowT.flat), bools m.sealed.toList].flatten := rfl
theorem MirT.len (m : MirT) : (MirT.cells m).length = 875 := by rw [MirT.eq, (MirT.sl m).len]; rfl
theorem MirT.pt_rows (m : MirT) {o : Nat} (j : Nat) (ho : o = 0 + j) (h : j < 870) {r : Option Value} (hr : (ints (m.rows.toList.flatMap RowT.flat))[j]? = r) : (MirT.cells m)[o]? = r := by subst ho; rw [← hr, MirT.eq]; exact (MirT.sl m).at (off := 0) 0 j rfl rfl (by simp) h
theorem MirT.sub_rows (m : MirT) {o k : Nat} (j : Nat) (ho : o = 0 + j) (h : j + k ≤ 870) {r : List Value} (hr : ((ints (m.rows.toList.flatMap RowT.flat)).drop j).take k = r) : ((MirT.cells m).drop o).take k = r := by subst ho; rw [← hr, MirT.eq]; exact (MirT.sl m).sub (off := 0) 0 j k rfl rfl (by simp) h
theorem MirT.wr_rows_ (m : MirT) {o : Nat} (j : Nat) {vs : List Value} {u' : Vector RowT 5} (ho : o = 0 + j) (h : j + vs.length ≤ 870) (hw : wr (ints (m.rows.toList.flatMap RowT.flat)) j vs = ints (u'.toList.flatMap RowT.flat)) : wr (MirT.cells m) o vs = MirT.cells ({ m with rows := u' } : MirT) := by subst ho; rw [MirT.eq, MirT.eq]; exact (MirT.sl m).putIn (off := 0) 0 j vs rfl rfl (by simp) h hw
theorem MirT.pt_sealed (m : MirT) {o : Nat} (j : Nat) (ho : o = 870 + j) (h : j < 5) {r : Option Value} (hr : (bools m.sealed.toList)[j]? = r) : (MirT.cells m)[o]? = r := by subst ho; rw [← hr, MirT.eq]; exact (MirT.sl m).at (off := 870) 1 j rfl rfl (by simp) h
theorem MirT.st_sealed (m : MirT) {o : Nat} (j : Nat) {v : Value} {u' : Vector Bool 5} (ho : o = 870 + j) (h : j < 5) (hw : (bools m.sealed.toList).set j v = bools u'.toList) : (MirT.cells m).set o v = MirT.cells ({ m with sealed := u' } : MirT) := by subst ho; rw [MirT.eq, MirT.eq]; exact ((MirT.sl m).set (off := 870) 1 j v rfl rfl (by simp) h).trans (by rw [hw]; rfl)
theorem VoteT.sl (m : VoteT) : SL [ints m.view.flat, ints m.ballot.flat, ints m.change.flat, ints m.best.flat, [Value.int .i64 m.vowed], [Value.int .i64 m.took], [Value.bool m.putting]] [7, 2, 3, 2, 1, 1, 1] := (.cons (ViewT.len _) (.cons (BallotT.len _) (.cons (ChangeT.len _) (.cons (BallotT.len _) (.cons rfl (.cons rfl (.cons rfl .nil)))))))
theorem VoteT.eq (m : VoteT) : VoteT.cells m = [ints m.view.flat, ints m.ballot.flat, ints m.change.flat, ints m.best.flat, [Value.int .i64 m.vowed], [Value.int .i64 m.took], [Value.bool m.putting]].flatten := rfl
theorem VoteT.len (m : VoteT) : (VoteT.cells m).length = 17 := by rw [VoteT.eq, (VoteT.sl m).len]; rfl
theorem VoteT.pt_view (m : VoteT) {o : Nat} (j : Nat) (ho : o = 0 + j) (h : j < 7) {r : Option Value} (hr : (ints m.view.flat)[j]? = r) : (VoteT.cells m)[o]? = r := by subst ho; rw [← hr, VoteT.eq]; exact (VoteT.sl m).at (off := 0) 0 j rfl rfl (by simp) h
theorem VoteT.sub_view (m : VoteT) {o k : Nat} (j : Nat) (ho : o = 0 + j) (h : j + k ≤ 7) {r : List Value} (hr : ((ints m.view.flat).drop j).take k = r) : ((VoteT.cells m).drop o).take k = r := by subst ho; rw [← hr, VoteT.eq]; exact (VoteT.sl m).sub (off := 0) 0 j k rfl rfl (by simp) h
theorem VoteT.wr_view_ (m : VoteT) {o : Nat} (j : Nat) {vs : List Value} {u' : ViewT} (ho : o = 0 + j) (h : j + vs.length ≤ 7) (hw : wr (ints m.view.flat) j vs = ints u'.flat) : wr (VoteT.cells m) o vs = VoteT.cells ({ m with view := u' } : VoteT) := by subst ho; rw [VoteT.eq, VoteT.eq]; exact (VoteT.sl m).putIn (off := 0) 0 j vs rfl rfl (by simp) h hw
theorem VoteT.sub_ballot (m : VoteT) {o k : Nat} (j : Nat) (ho : o = 7 + j) (h : j + k ≤ 2) {r : List Value} (hr : ((ints m.ballot.flat).drop j).take k = r) : ((VoteT.cells m).drop o).take k = r := by subst ho; rw [← hr, VoteT.eq]; exact (VoteT.sl m).sub (off := 7) 1 j k rfl rfl (by simp) h
theorem VoteT.sub_change (m : VoteT) {o k : Nat} (j : Nat) (ho : o = 9 + j) (h : j + k ≤ 3) {r : List Value} (hr : ((ints m.change.flat).drop j).take k = r) : ((VoteT.cells m).drop o).take k = r := by subst ho; rw [← hr, VoteT.eq]; exact (VoteT.sl m).sub (off := 9) 2 j k rfl rfl (by simp) h
theorem RepT.sl (m : RepT) : SL [[Value.int .i64 m.id], [m.log], ints m.view.flat, ints m.own.flat, MirT.cells m.mirror, ints m.acc.flat, [Value.int .i64 m.round], [m.vote], ints m.book.flat, [Value.bool m.busy], [Value.int .i64 m.kept], [Value.int .i64 m.waits], [Value.int .i64 m.ops], [m.replies], ints m.told.toList, ints (m.last.toList.flatMap RowT.flat)] [1, 1, 7, 174, 875, 8, 1, 1, 870, 1, 1, 1, 1, 1, 5, 870] := (.cons rfl (.cons rfl (.cons (ViewT.len _) (.cons (RowT.len _) (.cons (MirT.len _) (.cons (AccT.len _) (.cons rfl (.cons rfl (.cons (BookT.len _) (.cons rfl (.cons rfl (.cons rfl (.cons rfl (.cons rfl (.cons (by simp [ints]) (.cons (vsr_len _) .nil))))))))))))))))
theorem RepT.eq (m : RepT) : RepT.cells m = [[Value.int .i64 m.id], [m.log], ints m.view.flat, ints m.own.flat, MirT.cells m.mirror, ints m.acc.flat, [Value.int .i64 m.round], [m.vote], ints m.book.flat, [Value.bool m.busy], [Value.int .i64 m.kept], [Value.int .i64 m.waits], [Value.int .i64 m.ops], [m.replies], ints m.told.toList, ints (m.last.toList.flatMap RowT.flat)].flatten := rfl
theorem RepT.len (m : RepT) : (RepT.cells m).length = 2818 := by rw [RepT.eq, (RepT.sl m).len]; rfl
theorem RepT.at_id (m : RepT) {o : Nat} (ho : o = 0) : (RepT.cells m)[o]? = some (Value.int .i64 m.id) := by subst ho; rw [RepT.eq]; exact (RepT.sl m).at (off := 0) 0 0 rfl rfl (by simp) (by decide)
theorem RepT.at_log (m : RepT) {o : Nat} (ho : o = 1) : (RepT.cells m)[o]? = some (m.log) := by subst ho; rw [RepT.eq]; exact (RepT.sl m).at (off := 1) 1 0 rfl rfl (by simp) (by decide)
theorem RepT.pt_view (m : RepT) {o : Nat} (j : Nat) (ho : o = 2 + j) (h : j < 7) {r : Option Value} (hr : (ints m.view.flat)[j]? = r) : (RepT.cells m)[o]? = r := by subst ho; rw [← hr, RepT.eq]; exact (RepT.sl m).at (off := 2) 2 j rfl rfl (by simp) h
theorem RepT.sub_view (m : RepT) {o k : Nat} (j : Nat) (ho : o = 2 + j) (h : j + k ≤ 7) {r : List Value} (hr : ((ints m.view.flat).drop j).take k = r) : ((RepT.cells m).drop o).take k = r := by subst ho; rw [← hr, RepT.eq]; exact (RepT.sl m).sub (off := 2) 2 j k rfl rfl (by simp) h
theorem RepT.wr_view_ (m : RepT) {o : Nat} (j : Nat) {vs : List Value} {u' : ViewT} (ho : o = 2 + j) (h : j + vs.length ≤ 7) (hw : wr (ints m.view.flat) j vs = ints u'.flat) : wr (RepT.cells m) o vs = RepT.cells ({ m with view := u' } : RepT) := by subst ho; rw [RepT.eq]; refine ((RepT.sl m).putIn (off := 2) 2 j vs rfl rfl (by simp) h hw).trans ?_; simp only [RepT.cells, List.set_cons_succ, List.set_cons_zero]
theorem RepT.pt_own (m : RepT) {o : Nat} (j : Nat) (ho : o = 9 + j) (h : j < 174) {r : Option Value} (hr : (ints m.own.flat)[j]? = r) : (RepT.cells m)[o]? = r := by subst ho; rw [← hr, RepT.eq]; exact (RepT.sl m).at (off := 9) 3 j rfl rfl (by simp) h
theorem RepT.sub_own (m : RepT) {o k : Nat} (j : Nat) (ho : o = 9 + j) (h : j + k ≤ 174) {r : List Value} (hr : ((ints m.own.flat).drop j).take k = r) : ((RepT.cells m).drop o).take k = r := by subst ho; rw [← hr, RepT.eq]; exact (RepT.sl m).sub (off := 9) 3 j k rfl rfl (by simp) h
theorem RepT.wr_own_ (m : RepT) {o : Nat} (j : Nat) {vs : List Value} {u' : RowT} (ho : o = 9 + j) (h : j + vs.length ≤ 174) (hw : wr (ints m.own.flat) j vs = ints u'.flat) : wr (RepT.cells m) o vs = RepT.cells ({ m with own := u' } : RepT) := by subst ho; rw [RepT.eq]; refine ((RepT.sl m).putIn (off := 9) 3 j vs rfl rfl (by simp) h hw).trans ?_; simp only [RepT.cells, List.set_cons_succ, List.set_cons_zero]
theorem RepT.around_mirror (m : RepT) : ∃ A B, RepT.cells m = A ++ (MirT.cells m.mirror ++ B) ∧ A.length = 183 ∧ ∀ u' : MirT, RepT.cells ({ m with mirror := u' } : RepT) = A ++ (MirT.cells u' ++ B) := by
  obtain ⟨A, B, h1, h2, h3⟩ := (RepT.sl m).around (off := 183) 4 rfl rfl (by simp)
  exact ⟨A, B, by rw [RepT.eq]; exact h1, h2, fun u' => by rw [← h3]; simp only [RepT.cells, List.set_cons_succ, List.set_cons_zero]⟩
theorem RepT.arnd_mirror (m : RepT) : Arnd (fun u : MirT => RepT.cells ({ m with mirror := u } : RepT)) (fun u => MirT.cells u) 183 := by
  obtain ⟨A, B, _, h2, h3⟩ := RepT.around_mirror m
  exact ⟨A, B, h2, h3⟩
theorem RepT.wr_acc_ (m : RepT) {o : Nat} (j : Nat) {vs : List Value} {u' : AccT} (ho : o = 1058 + j) (h : j + vs.length ≤ 8) (hw : wr (ints m.acc.flat) j vs = ints u'.flat) : wr (RepT.cells m) o vs = RepT.cells ({ m with acc := u' } : RepT) := by subst ho; rw [RepT.eq]; refine ((RepT.sl m).putIn (off := 1058) 5 j vs rfl rfl (by simp) h hw).trans ?_; simp only [RepT.cells, List.set_cons_succ, List.set_cons_zero]
theorem RepT.set_round (m : RepT) {o : Nat} (ho : o = 1066) (x : Int) : (RepT.cells m).set o (Value.int .i64 x) = RepT.cells ({ m with round := x } : RepT) := by subst ho; rw [RepT.eq]; refine ((RepT.sl m).set (off := 1066) 6 0 _ rfl rfl (by simp) (by decide)).trans ?_; simp only [RepT.cells, List.set_cons_succ, List.set_cons_zero]
theorem RepT.set_vote (m : RepT) {o : Nat} (ho : o = 1067) (x : Value) : (RepT.cells m).set o (x) = RepT.cells ({ m with vote := x } : RepT) := by subst ho; rw [RepT.eq]; refine ((RepT.sl m).set (off := 1067) 7 0 _ rfl rfl (by simp) (by decide)).trans ?_; simp only [RepT.cells, List.set_cons_succ, List.set_cons_zero]
theorem RepT.around_book (m : RepT) : ∃ A B, RepT.cells m = A ++ (ints m.book.flat ++ B) ∧ A.length = 1068 ∧ ∀ u' : BookT, RepT.cells ({ m with book := u' } : RepT) = A ++ (ints u'.flat ++ B) := by
  obtain ⟨A, B, h1, h2, h3⟩ := (RepT.sl m).around (off := 1068) 8 rfl rfl (by simp)
  exact ⟨A, B, by rw [RepT.eq]; exact h1, h2, fun u' => by rw [← h3]; simp only [RepT.cells, List.set_cons_succ, List.set_cons_zero]⟩
theorem RepT.arnd_book (m : RepT) : Arnd (fun u : BookT => RepT.cells ({ m with book := u } : RepT)) (fun u => ints u.flat) 1068 := by
  obtain ⟨A, B, _, h2, h3⟩ := RepT.around_book m
  exact ⟨A, B, h2, h3⟩
theorem RepT.at_busy (m : RepT) {o : Nat} (ho : o = 1938) : (RepT.cells m)[o]? = some (Value.bool m.busy) := by subst ho; rw [RepT.eq]; exact (RepT.sl m).at (off := 1938) 9 0 rfl rfl (by simp) (by decide)
theorem RepT.set_busy (m : RepT) {o : Nat} (ho : o = 1938) (x : Bool) : (RepT.cells m).set o (Value.bool x) = RepT.cells ({ m with busy := x } : RepT) := by subst ho; rw [RepT.eq]; refine ((RepT.sl m).set (off := 1938) 9 0 _ rfl rfl (by simp) (by decide)).trans ?_; simp only [RepT.cells, List.set_cons_succ, List.set_cons_zero]
theorem RepT.at_kept (m : RepT) {o : Nat} (ho : o = 1939) : (RepT.cells m)[o]? = some (Value.int .i64 m.kept) := by subst ho; rw [RepT.eq]; exact (RepT.sl m).at (off := 1939) 10 0 rfl rfl (by simp) (by decide)
theorem RepT.set_kept (m : RepT) {o : Nat} (ho : o = 1939) (x : Int) : (RepT.cells m).set o (Value.int .i64 x) = RepT.cells ({ m with kept := x } : RepT) := by subst ho; rw [RepT.eq]; refine ((RepT.sl m).set (off := 1939) 10 0 _ rfl rfl (by simp) (by decide)).trans ?_; simp only [RepT.cells, List.set_cons_succ, List.set_cons_zero]
theorem RepT.at_waits (m : RepT) {o : Nat} (ho : o = 1940) : (RepT.cells m)[o]? = some (Value.int .i64 m.waits) := by subst ho; rw [RepT.eq]; exact (RepT.sl m).at (off := 1940) 11 0 rfl rfl (by simp) (by decide)
theorem RepT.set_waits (m : RepT) {o : Nat} (ho : o = 1940) (x : Int) : (RepT.cells m).set o (Value.int .i64 x) = RepT.cells ({ m with waits := x } : RepT) := by subst ho; rw [RepT.eq]; refine ((RepT.sl m).set (off := 1940) 11 0 _ rfl rfl (by simp) (by decide)).trans ?_; simp only [RepT.cells, List.set_cons_succ, List.set_cons_zero]
theorem RepT.at_ops (m : RepT) {o : Nat} (ho : o = 1941) : (RepT.cells m)[o]? = some (Value.int .i64 m.ops) := by subst ho; rw [RepT.eq]; exact (RepT.sl m).at (off := 1941) 12 0 rfl rfl (by simp) (by decide)
theorem RepT.set_ops (m : RepT) {o : Nat} (ho : o = 1941) (x : Int) : (RepT.cells m).set o (Value.int .i64 x) = RepT.cells ({ m with ops := x } : RepT) := by subst ho; rw [RepT.eq]; refine ((RepT.sl m).set (off := 1941) 12 0 _ rfl rfl (by simp) (by decide)).trans ?_; simp only [RepT.cells, List.set_cons_succ, List.set_cons_zero]
theorem RepT.at_replies (m : RepT) {o : Nat} (ho : o = 1942) : (RepT.cells m)[o]? = some (m.replies) := by subst ho; rw [RepT.eq]; exact (RepT.sl m).at (off := 1942) 13 0 rfl rfl (by simp) (by decide)
theorem RepT.set_replies (m : RepT) {o : Nat} (ho : o = 1942) (x : Value) : (RepT.cells m).set o (x) = RepT.cells ({ m with replies := x } : RepT) := by subst ho; rw [RepT.eq]; refine ((RepT.sl m).set (off := 1942) 13 0 _ rfl rfl (by simp) (by decide)).trans ?_; simp only [RepT.cells, List.set_cons_succ, List.set_cons_zero]
end Api
end

section
namespace Api
open Go Leg Codec

def w64 (n : Int) : Int := IntKind.i64.wrap n
theorem w64_eq {n : Int} (h1 : -9223372036854775808 ≤ n) (h2 : n ≤ 9223372036854775807) : w64 n = n := wrap_i64 h1 h2
def keyB (key : Int) : Bool := decide (0 ≤ key ∧ key < 4)
theorem mach_lt {w : Int} (h : machB w = true) : w.toNat < 5 := by have : 0 ≤ w ∧ w < 5 := of_decide_eq_true h; omega
theorem key_lt {k : Int} (h : keyB k = true) : k.toNat < 4 := by have : 0 ≤ k ∧ k < 4 := of_decide_eq_true h; omega
def askB (key n : Int) : Bool := keyB key && decide (1 ≤ n) && okN n
def cellAt (x : RowT) (key : Int) : CellT := if h : keyB key = true then x.cells[key.toNat]'(key_lt h) else .zero
def putCell (x : RowT) (key : Int) (c : CellT) : RowT := if h : keyB key = true then { x with cells := x.cells.set key.toNat c (key_lt h) } else x
def moreR (x : RowT) (key n counts : Int) (c : CellT) : RowT × Int :=
  if counts > 1099511627776 - n then (.zero, 6) else ({ putCell x key c with version := w64 (x.version + 1) }, 0)
def rowInc (x : RowT) (key n : Int) : RowT × Int :=
  if askB key n then moreR x key n (cellAt x key).inn { cellAt x key with inn := w64 ((cellAt x key).inn + n) } else (.zero, 5)
def rowDec (x : RowT) (key n : Int) : RowT × Int :=
  if askB key n then moreR x key n (cellAt x key).out { cellAt x key with out := w64 ((cellAt x key).out + n) } else (.zero, 5)
def givenOf (c : CellT) (to : Int) : Int := if h : machB to = true then c.given[to.toNat]'(mach_lt h) else 0
def giveTo (c : CellT) (to v : Int) : CellT := if h : machB to = true then { c with given := c.given.set to.toNat v (mach_lt h) } else c
def sumG (c : CellT) : Int := c.given.toList.foldl (fun s g => w64 (s + g)) 0
def rowGive (x : RowT) (key n to : Int) : RowT × Int :=
  if machB to && askB key n then moreR x key n (sumG (cellAt x key)) (giveTo (cellAt x key) to (w64 (givenOf (cellAt x key) to + n))) else (.zero, 5)
def ownAt (x : RowT) (who : Int) (i : Nat) : Bool := decide ((i : Int) = who) || decide (0 < x.heir.toList.getD i 0)
def ownTo (x : RowT) (who : Int) (k : Nat) : List Int := ((List.range k).filter (ownAt x who)).map fun i => ((i : Nat) : Int)
def rowOwn (x : RowT) (who : Int) : List Int := ownTo x who 5
theorem ownTo_succ (x : RowT) (who : Int) (k : Nat) : ownTo x who (k + 1) = ownTo x who k ++ (if ownAt x who k then [((k : Nat) : Int)] else []) := by
  unfold ownTo
  rw [List.range_succ, List.filter_append, List.map_append]
  by_cases h : ownAt x who k = true <;> simp [h]
theorem ownAt_eq (x : RowT) (who : Int) {i : Nat} (h : i < 5) : ownAt x who i = (decide ((i : Int) = who) || decide (0 < x.heir[i])) := by simp [ownAt, h]
theorem ownTo_len (x : RowT) (who : Int) (k : Nat) : (ownTo x who k).length ≤ k := by
  unfold ownTo
  rw [List.length_map]
  exact Nat.le_trans (List.length_filter_le _ _) (by simp)
def heirAt (x : RowT) (of' : Int) : Int := if h : machB of' = true then x.heir[of'.toNat]'(mach_lt h) else 0
def leftAt (x : RowT) (of' key : Int) : CellT := if h : machB of' = true ∧ keyB key = true then (x.left[of'.toNat]'(mach_lt h.1))[key.toNat]'(key_lt h.2) else .zero
def rowCell (x : RowT) (who of' key : Int) : CellT × Int :=
  if machB who && machB of' && keyB key then (if of' = who then (cellAt x key, x.version) else if heirAt x of' > 0 then (leftAt x of' key, w64 (heirAt x of' - 1)) else (.zero, -1)) else (.zero, -1)
def witL (who : Int) : List Int := if machB who then [(who + 1) % 5, (who + 2) % 5] else []
/-! ### Books -/
def bookRow (b : BookT) (who : Int) : RowT := if h : machB who = true then b.rows[who.toNat]'(mach_lt h) else .zero
theorem bookRow_at (b : BookT) {k : Nat} (h : k < 5) : bookRow b ((k : Nat) : Int) = b.rows[k] := by rw [bookRow, dif_pos (show machB ((k : Nat) : Int) = true from decide_eq_true ⟨by omega, by omega⟩)]; rfl
def putRow (b : BookT) (who : Int) (x : RowT) : BookT := if h : machB who = true then { b with rows := b.rows.set who.toNat x (mach_lt h) } else b
def bookMerge (b : BookT) (who : Int) (x : RowT) : BookT × Bool :=
  if machB who && rightR x && decide (x.version > (bookRow b who).version) then (putRow b who x, true) else (b, false)
def bookStep (b : BookT) (of' key : Int) (s : CellT × Int) (i : Nat) : CellT × Int :=
  let c := rowCell (bookRow b i) i of' key
  if c.2 > s.2 then c else s
def bookTo (b : BookT) (of' key : Int) (k : Nat) : CellT × Int := (List.range k).foldl (bookStep b of' key) (.zero, -1)
def bookCell (b : BookT) (of' key : Int) : CellT := (bookTo b of' key 5).1
theorem bookTo_succ (b : BookT) (of' key : Int) (k : Nat) : bookTo b of' key (k + 1) = bookStep b of' key (bookTo b of' key k) k := by
  unfold bookTo; rw [List.range_succ, List.foldl_append]; rfl
def valueTo (b : BookT) (key : Int) (k : Nat) : Int := (List.range k).foldl (fun v (i : Nat) => w64 (v + w64 ((bookCell b i key).inn - (bookCell b i key).out))) 0
def bookValue (b : BookT) (key : Int) : Int := valueTo b key 5
theorem valueTo_succ (b : BookT) (key : Int) (k : Nat) : valueTo b key (k + 1) = w64 (valueTo b key k + w64 ((bookCell b k key).inn - (bookCell b k key).out)) := by
  unfold valueTo; rw [List.range_succ, List.foldl_append]; rfl
def rightsIn (b : BookT) (key of' : Int) (r : Int) (k : Nat) : Int := (List.range k).foldl (fun r (i : Nat) => w64 (r + w64 (givenOf (bookCell b i key) of' - givenOf (bookCell b of' key) i))) r
theorem rightsIn_succ (b : BookT) (key of' r : Int) (k : Nat) : rightsIn b key of' r (k + 1) = w64 (rightsIn b key of' r k + w64 (givenOf (bookCell b k key) of' - givenOf (bookCell b of' key) k)) := by
  unfold rightsIn; rw [List.range_succ, List.foldl_append]; rfl
def rightsStep (b : BookT) (key r of' : Int) : Int := rightsIn b key of' (w64 (r + w64 ((bookCell b of' key).inn - (bookCell b of' key).out))) 5
def bookRights (b : BookT) (who key : Int) : Int := if machB who then (rowOwn (bookRow b who) who).foldl (rightsStep b key) 0 else 0
theorem rowOwn_mem (x : RowT) (who : Int) : ∀ n ∈ rowOwn x who, 0 ≤ n ∧ n < 5 := by
  intro n hn
  simp only [rowOwn, ownTo, List.mem_map, List.mem_filter, List.mem_range] at hn
  obtain ⟨i, ⟨hi, _⟩, rfl⟩ := hn
  omega
theorem givenOf_at (c : CellT) {k : Nat} (h : k < 5) : givenOf c ((k : Nat) : Int) = c.given[k] := by rw [givenOf, dif_pos (show machB ((k : Nat) : Int) = true from decide_eq_true ⟨by omega, by omega⟩)]; rfl
/-! ### Mirrors -/
def mirRow (m : MirT) (who : Int) : RowT := if h : machB who = true then m.rows[who.toNat]'(mach_lt h) else .zero
def mirSealed (m : MirT) (who : Int) : Bool := if h : machB who = true then m.sealed[who.toNat]'(mach_lt h) else false
def mirTakes (m : MirT) (who : Int) (x : RowT) : Bool := machB who && !mirSealed m who && rightR x && decide (x.version > (mirRow m who).version)
def mirPut (m : MirT) (who : Int) (x : RowT) : MirT := if h : machB who = true then { m with rows := m.rows.set who.toNat x (mach_lt h) } else m
def mirKeep (m : MirT) (who : Int) (x : RowT) : MirT × Bool := if mirTakes m who x then (mirPut m who x, true) else (m, false)
def mirClose (m : MirT) (who : Int) : MirT := if h : machB who = true then { m with sealed := m.sealed.set who.toNat true (mach_lt h) } else m
end Api
end

section
namespace Leg
open Go Codec Api

theorem madeCells_one (v : Value) (n : Nat) : madeCells #[v] n = (List.replicate n v).toArray := by
  unfold madeCells
  apply Array.ext
  · simp
  · intro i h1 h2
    simp at h1
    simp [Nat.mod_one]
theorem u8s_rep (n : Nat) : u8s (List.replicate n 0) = List.replicate n (.int .u8 0) := by simp [u8s]
section
variable {P : Program} {w0 : World} {F : Hl} {n : Nat} {ops : Array Oper} {Q : QQ} {D : List Deferred} {L : List (Nat × Value)} {H : List HP} {o : Oper} {l : List Oper} {d : Nat} {S : World → Prop}
theorem TL.mono {H' : List HP} (m : ∀ h, sep H h → sep H' h) (h : TL P w0 F n ops Q l D L H') : TL P w0 F n ops Q l D L H := TL.weak (Sub.refl _) m h
theorem TC.mono {c : Code} {H' : List HP} (m : ∀ h, sep H h → sep H' h) (h : TC P w0 F n c Q D L H') : TC P w0 F n c Q D L H := TC.weak (Sub.refl _) m h
theorem TL.makeB {t e : TypeId} {x y : Operand} {k k' : IntKind} {a b : Int} (m c : Nat) (hw : Want n D ops o L) (ho : o.op = .makeSlice t x y) (hd : o.dst = some d) (hn : Nat.blt d n = true) (ht : P.underlying t = some (.slice e))
    (hi : (P.info? e).map (fun i => (i.zero, i.size, i.bytes)) = some (some (.int .u8 0), 1, 1)) (hx : evL L x = some (.int k a)) (hy : evL L y = some (.int k' b)) (ha : a = (m : Int)) (hb : b = (c : Int)) (h1 : m ≤ c) (h2 : c ≤ 281474976710656)
    (h : ∀ b, TL P w0 F n ops Q l D ((d, .slice (some ⟨b, 0, none⟩) m c) :: L) (blkA b (u8s (List.replicate c 0)) e :: H)) : TL P w0 F n ops Q (o :: l) D L H :=
  TL.step hw fun a w f sm q => by
    subst ha; subst hb
    obtain ⟨i, hie, hz0, hs, hb⟩ := info_parts hi
    have hr := run_make (P := P) w t e i (.int .u8 0) ht hie hz0 k k' (m : Int) (c : Int) (by omega) (by omega) (by rw [hb]; omega) (by omega)
    have e1 : madeCells (Value.cells (.int .u8 0)) ((c : Int).toNat * i.size) = (u8s (List.replicate c 0)).toArray := by
      rw [hs, Nat.mul_one, Int.toNat_natCast, u8s_rep]
      exact madeCells_one _ _
    rw [e1] at hr
    simp only [Int.toNat_natCast] at hr
    have r : (execOp a.eval o).run P w = .ok (.value (.slice (some ⟨w.heap.size, 0, none⟩) m c)) (w.alloc (.cells (u8s (List.replicate c 0)).toArray e)) := by
      simp only [execOp, ho, f.eval hx, f.eval hy, Sem.run_bind, hr, Result.andThen_ok, Sem.run_pure]
    unfold Oper.wp
    rw [r, Oper.upon_value, hd]
    exact h _ _ _ (f.put (lb hn) _) (sm.trans ⟨rfl, rfl, rfl, by simp⟩) (q.alloc _)

/-! ### Cuts -/
/-- x[lo:hi] -/
def cutLH : Value → Nat → Nat → Value
  | .slice a m c, lo, hi => .slice (if c = lo then a else a.map (·.add lo)) (hi - lo) (c - lo)
  | v, _, _ => v
theorem PV.sliceLH {t e : TypeId} {x y z : Operand} {a : Option Addr} {len cap lo hi : Nat} {k k' : IntKind} {i j : Int} (ho : o.op = .slice t x (some y) (some z) none) (ht : P.underlying t = some (.slice e)) (hs : (P.info? e).map (·.size) = some 1)
    (hx : evL L x = some (.slice a len cap)) (hy : evL L y = some (.int k i)) (hz : evL L z = some (.int k' j)) (hi' : i = (lo : Int)) (hj : j = (hi : Int)) (h1 : lo ≤ hi) (h2 : hi ≤ cap) : PV P n D L S o (cutLH (.slice a len cap) lo hi) :=
  fun b w g _ => by
    subst hi'; subst hj
    simp only [execOp, ho, g.eval hx, Option.map_some, Option.map_none, g.eval hy, g.eval hz, cutLH]
    by_cases q : cap = lo
    · have e2 : hi = lo := by omega
      subst e2
      simp [Instr.sliceAt, Instr.slice, run_underlying ht, Instr.sliceBounds, Instr.sliceBound, asIntOf, run_sizeL hs, q]
    · simp [Instr.sliceAt, Instr.slice, run_underlying ht, Instr.sliceBounds, Instr.sliceBound, asIntOf, h1, h2, run_sizeL hs, q]
theorem PV.sliceH {t e : TypeId} {x z : Operand} {a : Option Addr} {len cap hi : Nat} {k' : IntKind} {j : Int} (ho : o.op = .slice t x none (some z) none) (ht : P.underlying t = some (.slice e)) (hs : (P.info? e).map (·.size) = some 1)
    (hx : evL L x = some (.slice a len cap)) (hz : evL L z = some (.int k' j)) (hj : j = (hi : Int)) (h2 : hi ≤ cap) : PV P n D L S o (cutLH (.slice a len cap) 0 hi) :=
  fun b w g _ => by
    subst hj
    simp only [execOp, ho, g.eval hx, Option.map_some, Option.map_none, g.eval hz, cutLH]
    by_cases q : cap = 0
    · have e2 : hi = 0 := by omega
      subst e2
      simp [Instr.sliceAt, Instr.slice, run_underlying ht, Instr.sliceBounds, Instr.sliceBound, asIntOf, run_sizeL hs, q]
    · simp [Instr.sliceAt, Instr.slice, run_underlying ht, Instr.sliceBounds, Instr.sliceBound, asIntOf, h2, run_sizeL hs, q]
theorem PV.sliceL {t e : TypeId} {x y : Operand} {a : Option Addr} {len cap lo : Nat} {k : IntKind} {i : Int} (ho : o.op = .slice t x (some y) none none) (ht : P.underlying t = some (.slice e)) (hs : (P.info? e).map (·.size) = some 1)
    (hx : evL L x = some (.slice a len cap)) (hy : evL L y = some (.int k i)) (hi : i = (lo : Int)) (h1 : lo ≤ len) : PV P n D L S o (cutLH (.slice a len cap) lo len) :=
  fun b w g _ => by
    subst hi
    simp only [execOp, ho, g.eval hx, Option.map_some, Option.map_none, g.eval hy, cutLH]
    by_cases q : cap = lo
    · simp [Instr.sliceAt, Instr.slice, run_underlying ht, Instr.sliceBounds, Instr.sliceBound, asIntOf, h1, run_sizeL hs, q]
    · simp [Instr.sliceAt, Instr.slice, run_underlying ht, Instr.sliceBounds, Instr.sliceBound, asIntOf, h1, run_sizeL hs, q]
end
theorem IsW.form {v : Value} {bs : List UInt8} {F : Hl} (h : IsW v bs F) : ∃ a c, v = .slice a bs.length c ∧ bs.length ≤ c ∧ (bs.length = 0 ∨ c ≤ 9223372036854775807) := by
  rcases h with (⟨rfl, rfl⟩ | ⟨b, off, cap, cs, T, z, rfl, h1, h2, _⟩) | ⟨a, c, rfl, rfl⟩
  · exact ⟨_, _, rfl, Nat.le_refl _, .inl rfl⟩
  · exact ⟨_, _, rfl, h1, .inr h2⟩
  · exact ⟨_, _, rfl, Nat.zero_le _, .inl rfl⟩
theorem IsW.lt {v : Value} {bs : List UInt8} {F : Hl} (h : IsW v bs F) : bs.length ≤ 9223372036854775807 := by
  obtain ⟨a, c, _, h1, h2⟩ := h.form
  omega
theorem IsW.cut {v : Value} {bs : List UInt8} {F : Hl} (h : IsW v bs F) {lo hi : Nat} (h1 : lo ≤ hi) (h2 : hi ≤ bs.length) : IsW (cutLH v lo hi) ((bs.take hi).drop lo) F := by
  have hl : ((bs.take hi).drop lo).length = hi - lo := by simp; omega
  by_cases e : hi - lo = 0
  · obtain ⟨a, c, rfl, hc, _⟩ := h.form
    have e0 : (bs.take hi).drop lo = [] := List.eq_nil_of_length_eq_zero (by omega)
    rw [e0]
    simp only [cutLH, e]
    split
    · cases a with
      | some a => exact .inr ⟨_, _, rfl, rfl⟩
      | none =>
        rcases h with (⟨h, rfl⟩ | ⟨b, off, cap, cs, T, z, h, _⟩) | ⟨a, c, h, _⟩
        · injection h with _ _ h; subst h; exact .inl (.inl ⟨by simp, rfl⟩)
        · simp at h
        · simp at h
    · cases a with
      | some a => exact .inr ⟨_, _, rfl, rfl⟩
      | none =>
        rcases h with (⟨h, rfl⟩ | ⟨b, off, cap, cs, T, z, h, _⟩) | ⟨a, c, h, _⟩
        · injection h with _ _ h; subst h; exact .inl (.inl ⟨by simp, rfl⟩)
        · simp at h
        · simp at h
  · obtain ⟨b, off, cap, cs, T, z, rfl, hb, hcs, hc⟩ := h.at (j := 0) (by omega)
    rcases h.form with ⟨a, c, hv, _, hm⟩
    injection hv with _ _ hv
    subst hv
    refine .inl (.inr ⟨b, off + lo, cap - lo, cs, T, z, ?_, by omega, by omega, hb, fun j hj => ?_⟩)
    · simp only [cutLH, hl, if_neg (show ¬ cap = lo by omega), Option.map_some, addL]
    · rw [hl] at hj
      rw [Nat.add_assoc, hcs (lo + j) (by omega)]
      congr 2
      simp [List.getD_eq_getElem?_getD, List.getElem?_take, show lo + j < hi by omega]

/-! ### Bytes that are owned, wherever in their block -/
def subB (v : Value) (bs : List UInt8) (e : Nat) : HP := fun h =>
  (v = .slice none 0 0 ∧ bs = [] ∧ h = em) ∨ ∃ g off cap cur, v = .slice (some ⟨g, off, none⟩) bs.length cap ∧ h = sg g (.cells cur e (0, 0)) ∧ bs.length ≤ cap ∧ cap ≤ maxLen ∧ off + cap ≤ cur.size ∧ (cur.toList.drop off).take bs.length = u8s bs
theorem subB_of_own {v : Value} {bs : List UInt8} {e : Nat} {h : Hl} (x : ownB v bs e h) : subB v bs e h := by
  rcases x with ⟨_, ⟨h1, h2, h3⟩ | ⟨g, cap, cur, h1, h2, h3, h4, h5, h6⟩⟩
  · exact .inl ⟨h1, List.eq_nil_of_length_eq_zero h2, h3⟩
  · exact .inr ⟨g, 0, cap, cur, h1, h2, h3, h4, by omega, by simpa using h6⟩
section
variable {H : List HP} {F : Hl} {v : Value} {bs : List UInt8} {e : Nat}
theorem sep_sub (i : Nat) (hi : Nat.blt i H.length = true) (hH : H.getD i (fun _ => True) = ownB v bs e) {h : Hl} (s : sep H h) : sep (H.set i (subB v bs e)) h :=
  sep_put i (lb hi) (star_mono (sep_get i (lb hi) s) (fun _ x => subB_of_own (by rwa [hH] at x)) fun _ x => x)
theorem sep_ownCut {lo hi nn : Nat} {bs' : List UInt8} (i : Nat) (hi' : Nat.blt i H.length = true) (hH : H.getD i (fun _ => True) = ownB v bs e) {g cap : Nat} (hv : v = .slice (some ⟨g, 0, none⟩) nn cap) (h1 : lo ≤ hi) (h2 : hi ≤ bs.length) (h3 : lo < bs.length) (hb : (bs.take hi).drop lo = bs') {h : Hl} (s : sep H h) :
    sep (H.set i (subB (cutLH v lo hi) bs' e)) h := by
  subst hb
  have hl : ((bs.take hi).drop lo).length = hi - lo := by simp; omega
  refine sep_put i (lb hi') (star_mono (sep_get i (lb hi') s) (fun _ x => ?_) fun _ x => x)
  rw [hH] at x
  rcases x with ⟨_, ⟨h1, h2, _⟩ | ⟨g', cap', cur, h4, h5, h6, h7, h8, h9⟩⟩
  · rw [hv] at h1; simp at h1
  · rw [hv] at h4 ⊢
    simp only [Value.slice.injEq, Option.some.injEq, Addr.mk.injEq, and_true, true_and] at h4
    obtain ⟨rfl, rfl, rfl⟩ := h4
    refine .inr ⟨g, lo, cap - lo, cur, ?_, h5, by omega, by omega, by omega, ?_⟩
    · simp only [cutLH, hl, if_neg (show ¬ cap = lo by omega), Option.map_some, addL, Nat.zero_add]
    · rw [hl]
      rw [Nat.mul_one] at h9
      have e1 := congrArg (fun l : List Value => (l.take hi).drop lo) h9
      simp only [List.take_take, Nat.min_eq_left h2] at e1
      rw [← List.drop_take, e1]
      simp [u8s, List.map_take, List.map_drop]
theorem Sat.sub_form {w : World} (i : Nat) (s : Sat H F w) (hi : Nat.blt i H.length = true) (hH : H.getD i (fun _ => True) = subB v bs e) : (v = .slice none 0 0 ∧ bs = []) ∨ ∃ g off cap cur, v = .slice (some ⟨g, off, none⟩) bs.length cap ∧ w.heap[g]? = some (.cells cur e (0, 0)) ∧ bs.length ≤ cap ∧ cap ≤ maxLen ∧ off + cap ≤ cur.size ∧ (cur.toList.drop off).take bs.length = u8s bs := by
  obtain ⟨h, d, e', x⟩ := s
  obtain ⟨h1, h2, d', rfl, a, _⟩ := sep_get i (lb hi) x
  rw [hH] at a
  rcases a with ⟨x1, x2, _⟩ | ⟨g, off, cap, cur, x1, x2, x3⟩
  · exact .inl ⟨x1, x2⟩
  · refine .inr ⟨g, off, cap, cur, x1, ?_, x3⟩
    have : hp w g = some (.cells cur e (0, 0)) := by
      rw [e', jn_assoc]
      exact jn_some (by rw [x2]; simp [sg])
    exact this
theorem Sat.sub_len {w : World} (i : Nat) (s : Sat H F w) (hi : Nat.blt i H.length = true) (hH : H.getD i (fun _ => True) = subB v bs e) : SlLen v bs.length ∧ v.oneCell' = true := by
  rcases s.sub_form i hi hH with ⟨rfl, rfl⟩ | ⟨g, off, cap, cur, rfl, _⟩
  · exact ⟨⟨_, _, rfl⟩, rfl⟩
  · exact ⟨⟨_, _, rfl⟩, rfl⟩
theorem Src.sub (i : Nat) (hi : Nat.blt i H.length = true) (hH : H.getD i (fun _ => True) = subB v bs e) {w : World} (s : Sat H F w) : Src (Sat H F) v bs.length (u8s bs) 1 := by
  refine ⟨by simp [u8s], ?_⟩
  rcases s.sub_form i hi hH with ⟨rfl, rfl⟩ | ⟨g, off, cap, cur, rfl, _⟩
  · exact .inl ⟨rfl, rfl⟩
  · refine .inr ⟨⟨g, off, none⟩, cap, rfl, fun w s j u hj => ?_⟩
    rcases s.sub_form i hi hH with ⟨h1, _⟩ | ⟨g', off', cap', cur', h1, h2, h3, h4, h5, h6⟩
    · simp at h1
    · simp only [Value.slice.injEq, Option.some.injEq, Addr.mk.injEq, and_true, true_and] at h1
      obtain ⟨⟨rfl, rfl⟩, rfl⟩ := h1
      rw [addL]
      rw [← h6, List.getElem?_take] at hj
      split at hj
      · simp only [World.cell?, h2, Option.isSome_none, Bool.false_eq_true, if_false]
        simpa using hj
      · cases hj
end
theorem run_append_roomO {P : Program} (w : World) (t ty e : TypeId) (i : TypeInfo) (ht : P.underlying t = some (.slice e)) (hi : P.info? e = some i) (g off sLen sCap : Nat) (cur : Array Value) (hg : w.heap[g]? = some (.cells cur e (0, 0)))
    (a : Addr) (m c : Nat) (news : List Value) (hl : news.length = m * i.size) (hnews : ∀ j u, news[j]? = some u → w.cell? (a.add j) = some u) (h1 : ∀ u ∈ news, u.oneCell' = true)
    (hroom : sLen + m ≤ sCap) (hfit : off + sLen * i.size + news.length ≤ cur.size) :
    (Builtin.append_ #[t, t] ty #[.slice (some ⟨g, off, none⟩) sLen sCap, .slice (some a) m c]).run P w =
      .ok (.slice (some ⟨g, off, none⟩) (sLen + m) sCap) (w.setRow g (cur.toList.take (off + sLen * i.size) ++ news ++ cur.toList.drop (off + sLen * i.size + news.length)).toArray) := by
  have hf := run_firstCells_some (P := P) w i.size m a m c news hl hnews
  have hst := run_storeCells_at P g (off + sLen * i.size) e news 0 cur w hg (by simpa using hfit) h1
  simp only [Nat.add_zero] at hst
  simp [Builtin.append_, run_underlying ht, Go.sizeOf, typeInfo, hi, Builtin.lenOf, hroom, hf, Addr.add_lit, hst]
section
variable {P : Program} {w0 : World} {F : Hl} {n : Nat} {ops : Array Oper} {Q : QQ} {D : List Deferred} {L : List (Nat × Value)} {H : List HP} {o : Oper} {l : List Oper} {d : Nat} {S : World → Prop}
theorem Sat.sub_open {w : World} {k : Nat} {v : Value} {bs : List UInt8} {e : TypeId} (s : Sat H F w) (hk : Nat.blt k H.length = true) (hH : H.getD k (fun _ => True) = subB v bs e) :
    (v = .slice none 0 0 ∧ bs = [] ∧ Sat (H.set k (ownB (.slice none 0 0) [] e)) F w) ∨ ∃ g off cap cur, v = .slice (some ⟨g, off, none⟩) bs.length cap ∧ Sat (H.set k (obj g (.cells cur e (0, 0)))) F w ∧ bs.length ≤ cap ∧ cap ≤ maxLen ∧ off + cap ≤ cur.size ∧ (cur.toList.drop off).take bs.length = u8s bs := by
  obtain ⟨h, d, e', x⟩ := s
  obtain ⟨h1, h2, d', rfl, a, y⟩ := sep_get k (lb hk) x
  rw [hH] at a
  rcases a with ⟨x1, x2, x3⟩ | ⟨g, off, cap, cur, x1, x2, x3⟩
  · exact .inl ⟨x1, x2, _, d, e', sep_put k (lb hk) ⟨h1, h2, d', rfl, ⟨rfl, .inl ⟨rfl, rfl, x3⟩⟩, y⟩⟩
  · exact .inr ⟨g, off, cap, cur, x1, ⟨_, d, e', sep_put k (lb hk) ⟨h1, h2, d', rfl, x2, y⟩⟩, x3⟩
theorem Src.of_eq {S' : World → Prop} {x : Value} {m size : Nat} {news : List Value} (h : Src S x m news size) (hS : ∀ w, S' w → S w) : Src S' x m news size := ⟨h.1, h.2.imp id fun ⟨a, c, q3, q4⟩ => ⟨a, c, q3, fun w' s' => q4 w' (hS w' s')⟩⟩
theorem set_same {k : Nat} {q : HP} (hk : Nat.blt k H.length = true) (hH : H.getD k (fun _ => True) = q) : H.set k q = H := by
  rw [← hH, List.getD_eq_getElem?_getD, List.getElem?_eq_getElem (lb hk)]; exact List.set_getElem_self _
theorem run_appendS {w : World} {k : Nat} {v x : Value} {bs news : List UInt8} {t ty e : TypeId} (s : Sat H F w) (ht : P.underlying t = some (.slice e)) (hi : (P.info? e).map (fun i => (i.zero, i.size, i.bytes)) = some (some (.int .u8 0), 1, 1))
    (hk : Nat.blt k H.length = true) (hH : H.getD k (fun _ => True) = subB v bs e) (hx : Src (Sat H F) x news.length (u8s news) 1) (hb : bs.length + news.length ≤ 140737488355328) :
    ∃ v' w', (Builtin.append_ #[t, t] ty #[v, x]).run P w = .ok v' w' ∧ Same w w' ∧ Sat (H.set k (subB v' (bs ++ news) e)) F w' := by
  rcases s.sub_open hk hH with ⟨rfl, rfl, s1⟩ | ⟨g, off, cap, cur, rfl, s1, h3, h4, h5, h6⟩
  · have hx' : Src (Sat (H.set k (ownB (.slice none 0 0) [] e)) F) x news.length (u8s news) 1 := hx.of_eq fun w' s' => by
      have := s'.turn (q := subB (.slice none 0 0) [] e) k (by simpa using lb hk) fun h hh => by
        rw [getD_set (lb hk)] at hh; exact subB_of_own hh
      rwa [List.set_set, set_same hk hH] at this
    obtain ⟨v', w', r1, r2, r3⟩ := run_appendL (k := k) (nn := 0) (m := news.length) (v := .slice none 0 0) (xs := u8s []) (news := u8s news) (ty := ty) s1 ht hi rfl (by decide) (by simpa using lb hk) (getD_set (lb hk) _) hx' (u8s_one _) (by simp only [maxLen]; simp at hb; omega) (by simp at hb; omega)
    refine ⟨v', w', r1, r2, ?_⟩
    rw [List.set_set] at r3
    have := r3.turn (q := subB v' ([] ++ news) e) k (by simpa using lb hk) fun h hh => by
      rw [getD_set (lb hk)] at hh
      refine subB_of_own ?_
      rw [← u8s_append, Nat.zero_add, List.nil_append] at hh
      exact hh
    rwa [List.set_set] at this
  · obtain ⟨i, hie, hz0, hsz, hby⟩ := info_parts hi
    obtain ⟨hxl, hxx⟩ := hx
    have hg : w.heap[g]? = some (.cells cur e (0, 0)) := s1.block k (by simpa using lb hk) (getD_set (lb hk) _)
    by_cases hroom : bs.length + news.length ≤ cap
    · rcases hxx with ⟨rfl, hm⟩ | ⟨a0, c, rfl, hc⟩
      · have hn : news = [] := List.eq_nil_of_length_eq_zero hm
        subst hn
        refine ⟨_, w, ?_, Same.refl w, by rw [List.append_nil, set_same hk hH]; exact s⟩
        simp [Builtin.append_, run_underlying ht, Go.sizeOf, typeInfo, hie, Builtin.lenOf, Builtin.firstCells, loadCells, loadCellsFrom, storeCells, h3]
      · have hfit : off + bs.length * i.size + (u8s news).length ≤ cur.size := by rw [hsz, Nat.mul_one, u8s_length]; omega
        refine ⟨_, _, run_append_roomO (P := P) w t ty e i ht hie g off bs.length cap cur hg a0 news.length c (u8s news) (by rw [hsz, u8s_length, Nat.mul_one]) (fun j v hj => hc w s j v hj) (u8s_one _) hroom hfit, ⟨rfl, rfl, rfl, by simp⟩, ?_⟩
        have h2 := s1.write k (by simpa using lb hk) (getD_set (lb hk) _) (setRow_heap w g cur (cur.toList.take (off + bs.length * i.size) ++ u8s news ++ cur.toList.drop (off + bs.length * i.size + (u8s news).length)).toArray e _ hg) (fun j hj => setRow_other w g j _ hj)
        rw [List.set_set] at h2
        have h7 := h2.turn (q := subB (.slice (some ⟨g, off, none⟩) (bs.length + news.length) cap) (bs ++ news) e) k (by simpa using lb hk) (fun h hh => by
          rw [getD_set (lb hk)] at hh
          rw [hsz, Nat.mul_one, u8s_length] at hh
          refine .inr ⟨g, off, cap, _, by rw [List.length_append], hh, by rw [List.length_append]; exact hroom, h4, ?_, ?_⟩
          · simp only [List.size_toArray, List.length_append, List.length_take, List.length_drop, Array.length_toList, u8s_length]
            rw [hsz, Nat.mul_one, u8s_length] at hfit
            omega
          · simp only [List.append_assoc]
            rw [List.drop_append_of_le_length (by simp only [List.length_take, Array.length_toList]; rw [hsz, Nat.mul_one, u8s_length] at hfit; omega), List.drop_take, Nat.add_sub_cancel_left, h6, ← List.append_assoc, ← u8s_append]
            rw [List.take_append_of_le_length (by rw [u8s_length]; exact Nat.le_refl _), List.take_of_length_le (by rw [u8s_length]; exact Nat.le_refl _)])
        rwa [List.set_set] at h7
    · rcases hxx with ⟨rfl, hm⟩ | ⟨a0, c, rfl, hc⟩
      · omega
      · have holds : ∀ j u, (u8s bs)[j]? = some u → w.cell? ((⟨g, off, none⟩ : Addr).add j) = some u := fun j u hj => by
          rw [addL]
          rw [← h6, List.getElem?_take] at hj
          split at hj
          · simpa [World.cell?, hg] using hj
          · cases hj
        have hr := run_append_grow (P := P) w t ty e i _ ht hie hz0 ⟨g, off, none⟩ bs.length cap (u8s bs) (by rw [hsz, u8s_length, Nat.mul_one]) holds a0 news.length c (u8s news) (by rw [hsz, u8s_length, Nat.mul_one]) (fun j v hj => hc w s j v hj) (by omega) (by omega) (growslice_fits (by omega) (by rw [hby]; omega))
        refine ⟨_, _, hr, ⟨rfl, rfl, rfl, by simp⟩, Sat.swap k (lb hk) (s.drew.alloc _) fun h hh => ?_⟩
        have hge := grownCap_ge w (bs.length + news.length) cap e
        refine .inr ⟨w.heap.size, 0, _, _, by rw [List.length_append], hh, by rw [List.length_append]; exact hge, grownCap_le_maxLen w (bs.length + news.length) cap e (by simp only [maxLen]; omega), ?_, ?_⟩
        · simp only [Array.size_append, List.size_toArray, size_zeroCells, u8s_length, Nat.zero_add]
          have : (Value.cells (.int .u8 0)).size = 1 := rfl
          rw [this, Nat.mul_one]; omega
        · simp only [Array.toList_append, List.append_assoc, List.drop_zero]
          rw [← List.append_assoc, ← u8s_append, ← u8s_length (bs ++ news)]
          exact List.take_left
theorem TL.appendS {s x : Operand} {k : Nat} {v vx : Value} {bs news bs' : List UInt8} {t e : TypeId} (hw : Want n D ops o L)
    (ho : o.op = .call { callee := .builtin .append, args := #[s, x], argTypes := #[t, t] }) (hd : o.dst = some d) (hn : Nat.blt d n = true) (ht : P.underlying t = some (.slice e))
    (hi : (P.info? e).map (fun i => (i.zero, i.size, i.bytes)) = some (some (.int .u8 0), 1, 1)) (hs : evL L s = some v) (hx : evL L x = some vx)
    (hk : Nat.blt k H.length = true) (hH : H.getD k (fun _ => True) = subB v bs e) (hsrc : ∀ w, Sat H F w → Src (Sat H F) vx news.length (u8s news) 1) (hb : bs.length + news.length ≤ 140737488355328)
    (hxs : bs ++ news = bs') (h : ∀ v', v'.oneCell' = true → TL P w0 F n ops Q l D ((d, v') :: L) (H.set k (subB v' bs' e))) : TL P w0 F n ops Q (o :: l) D L H :=
  TL.step hw fun a w f sm q => by
    obtain ⟨v', w', hr, s', q'⟩ := run_appendS (ty := o.type) q ht hi hk hH (hsrc w q) hb
    unfold Oper.wp execOp
    simp only [ho, resolve, invoke, builtin, Sem.run_bind, Sem.run_pure, Result.andThen_ok, List.map_toArray, List.map_cons, List.map_nil, f.eval hs, f.eval hx, hr]
    rw [Oper.upon_value, hd]
    subst hxs
    have one : v'.oneCell' = true := (q'.sub_len k (by simpa using hk) (getD_set (lb hk) _)).2
    exact h v' one _ w' (f.put (lb hn) v') (sm.trans s') q'
theorem TL.subLen {v : Value} {bs : List UInt8} {e : Nat} (k : Nat) (hk : Nat.blt k H.length = true) (hH : H.getD k (fun _ => True) = subB v bs e)
    (h : SlLen v bs.length → v.oneCell' = true → TL P w0 F n ops Q l D L H) : TL P w0 F n ops Q l D L H := TL.fact (fun w m => m.sub_len k hk hH) fun ⟨h1, h2⟩ => h h1 h2
end

theorem fill_one {v : Value} {z : Array Value} (h : v.oneCell' = true) (hz : z.size = 1) : Instr.fill (fun i => some (i * 1, 1)) z [(0, v)] = some #[v] := by
  rw [Instr.fill, cells_one h]
  simp only [Nat.zero_mul, List.size_toArray, List.length_cons, List.length_nil, Nat.zero_add, hz, ne_eq, not_true_eq_false, decide_false, Bool.false_or]
  rw [if_neg (by simp)]
  have : (#[v].zipIdx.foldl (fun cs (c, j) => cs.setIfInBounds (0 + j) c) z) = #[v] := by
    match z, hz with
    | ⟨[x]⟩, _ => rfl
  simp only [Nat.zero_add] at this
  simp only [Instr.fill]
  rw [this]
theorem isBB_one {x : Value} {bs : List UInt8} {F : Hl} (hx : IsW x bs F) (i : Nat) {g T : Nat} {B : List HP} (hi : Nat.blt i B.length = true) (e : B.getD i (fun _ => True) = blkA g [x] T) : ∀ h, Dj h F → sep B h → IsBB (.slice (some ⟨g, 0, none⟩) 1 1) [bs] (jn h F) := fun h d s =>
  .inr (.inr ⟨g, 0, 1, [x], T, (0, 0), rfl, Nat.le_refl _, by decide, ro_piece i hi e h d s, fun j hj => by
    obtain rfl : j = 0 := by simpa using hj
    exact ⟨[x], rfl, rfl, x, rfl, hx.more d⟩⟩)
theorem isB_blkN (i n : Nat) {g T : Nat} {bs : List UInt8} {B : List HP} {F : Hl} (hn : bs.length = n) (hl : n ≤ 9223372036854775807) (hi : Nat.blt i B.length = true) (e : B.getD i (fun _ => True) = blkA g (u8s bs) T) : ∀ h, Dj h F → sep B h → IsB (.slice (some ⟨g, 0, none⟩) n n) bs (jn h F) := by
  subst hn; exact isB_blk i hl hi e

/-! ### Lists of slices of bytes -/
/-- Slices of bytes, each owned. -/
def bunch (us : List Value) (ls : List (List UInt8)) (e : Nat) : HP := fun h => us.length = ls.length ∧ sep (List.zipWith (fun u l => subB u l e) us ls) h
abbrev recsP (te e : Nat) (v : Value) (ls : List (List UInt8)) : HP := pack fun us : List Value => [own v ls.length us te 1, bunch us ls e]
theorem zip_concat {α β γ : Type} (f : α → β → γ) : ∀ (us : List α) (ls : List β) (u : α) (l : β), us.length = ls.length → List.zipWith f (us ++ [u]) (ls ++ [l]) = List.zipWith f us ls ++ [f u l]
  | [], [], _, _, _ => rfl
  | [], _ :: _, _, _, h => by simp at h
  | _ :: _, [], _, _, h => by simp at h
  | x :: us, y :: ls, u, l, h => by simp [zip_concat f us ls u l (by simpa using h)]
theorem bunch_add {us : List Value} {ls : List (List UInt8)} {e : Nat} {u : Value} {l : List UInt8} {H : List HP} {h : Hl} (s : sep (bunch us ls e :: subB u l e :: H) h) : sep (bunch (us ++ [u]) (ls ++ [l]) e :: H) h := by
  have t := star_assoc.2 s
  refine star_mono t (fun h' x => ?_) fun _ x => x
  obtain ⟨h1, h2, d, rfl, ⟨hl, a⟩, b⟩ := x
  refine ⟨by simp [hl], ?_⟩
  rw [zip_concat _ _ _ _ _ hl]
  exact (sep_append _ _).2 ⟨h1, h2, d, rfl, a, sep_single b⟩
theorem bunch_nil {e : Nat} {H : List HP} {h : Hl} (s : sep H h) : sep (bunch [] [] e :: H) h := ⟨em, h, Dj.em' h, (em_jn h).symm, ⟨rfl, trivial⟩, s⟩
theorem bunch_at : ∀ (us : List Value) (ls : List (List UInt8)) (e : Nat) (h : Hl), us.length = ls.length → sep (List.zipWith (fun u l => subB u l e) us ls) h → ∀ (j : Nat) (hj : j < ls.length), ∃ u, us[j]? = some u ∧ ∃ h1 h2, Dj h1 h2 ∧ h = jn h1 h2 ∧ subB u ls[j] e h1
  | [], [], _, _, _, _, j, hj => by simp at hj
  | [], _ :: _, _, _, h, _, _, _ => by simp at h
  | _ :: _, [], _, _, h, _, _, _ => by simp at h
  | u :: us, l :: ls, e, h, hl, s, 0, _ => by
    obtain ⟨h1, h2, d, rfl, a, _⟩ := s
    exact ⟨u, rfl, h1, h2, d, rfl, a⟩
  | u :: us, l :: ls, e, h, hl, s, j + 1, hj => by
    obtain ⟨h1, h2, d, rfl, _, b⟩ := s
    obtain ⟨u', e1, g1, g2, d', rfl, a⟩ := bunch_at us ls e h2 (by simpa using hl) b j (by simpa using hj)
    refine ⟨u', by simpa using e1, g1, jn h1 g2, ?_, ?_, a⟩
    · obtain ⟨q1, q2⟩ := Dj.jn_right.1 d
      exact Dj.jn_right.2 ⟨q1.symm, d'⟩
    · rw [jn_comm d, jn_assoc, jn_comm (Dj.jn_right.1 d).2]
theorem subB_isB {v : Value} {bs : List UInt8} {e : Nat} {h1 G : Hl} (a : subB v bs e h1) (hG : Le h1 G) : IsB v bs G := by
  rcases a with ⟨x1, x2, _⟩ | ⟨g, off, cap, cur, x1, x2, x3, x4, x5, x6⟩
  · exact .inl ⟨x1, x2⟩
  · refine .inr ⟨g, off, cap, cur.toList, e, (0, 0), x1, x3, by simpa [maxLen] using x4, hG _ _ (by rw [x2]; simp [sg]), fun j hj => ?_⟩
    have e1 := congrArg (fun l : List Value => l[j]?) x6
    simp only [List.getElem?_take, if_pos hj, List.getElem?_drop] at e1
    rw [e1]; simp [u8s, List.getD_eq_getElem?_getD, hj]
theorem sep_recsNil (te e : Nat) {H : List HP} {h : Hl} (s : sep H h) : sep (recsP te e (.slice none 0 0) [] :: H) h := sep_close (p := fun us : List Value => [own (.slice none 0 0) 0 us te 1, bunch us [] e]) [] (sep_ownNil te 1 (bunch_nil s))
theorem sep_recsAdd {te e : Nat} {v' u : Value} {us : List Value} {ls : List (List UInt8)} {l : List UInt8} {H : List HP} {h : Hl} (s : sep (own v' (ls.length + 1) (us ++ [u]) te 1 :: bunch us ls e :: subB u l e :: H) h) : sep (recsP te e v' (ls ++ [l]) :: H) h :=
  sep_close (p := fun us : List Value => [own v' (ls ++ [l]).length us te 1, bunch us (ls ++ [l]) e]) (us ++ [u]) (star_mono s (fun _ x => by simpa using x) fun _ x => bunch_add x)
section
variable {P : Program} {w0 : World} {F : Hl} {n : Nat} {ops : Array Oper} {Q : QQ} {D : List Deferred} {L : List (Nat × Value)} {H : List HP} {l : List Oper}
theorem TL.recsOpen {te e : Nat} {v : Value} {ls : List (List UInt8)} (h : ∀ us, TL P w0 F n ops Q l D L (own v ls.length us te 1 :: bunch us ls e :: H)) : TL P w0 F n ops Q l D L (recsP te e v ls :: H) :=
  TL.ex (fun _ s => sep_open s) h
theorem sep_recsLen {te e : Nat} {v : Value} {ls : List (List UInt8)} {h : Hl} (s : recsP te e v ls h) : SlLen v ls.length ∧ v.oneCell' = true := by
  obtain ⟨us, g1, g2, d2, rfl, a1, _⟩ := s
  rcases a1 with ⟨q0, ⟨q1, q2, _⟩ | ⟨g, cap, cur, q1, _⟩⟩
  · subst q1
    have : ls = [] := List.eq_nil_of_length_eq_zero q2
    subst this
    exact ⟨⟨_, _, rfl⟩, rfl⟩
  · subst q1; exact ⟨⟨_, _, rfl⟩, rfl⟩
theorem TL.recsLen {te e : Nat} {v : Value} {ls : List (List UInt8)} (k : Nat) (hk : Nat.blt k H.length = true) (hH : H.getD k (fun _ => True) = recsP te e v ls) (h : SlLen v ls.length → v.oneCell' = true → TL P w0 F n ops Q l D L H) : TL P w0 F n ops Q l D L H :=
  TL.fact (p := SlLen v ls.length ∧ v.oneCell' = true) (fun w ⟨h, d, e', x⟩ => by
    obtain ⟨h1, h2, d', rfl, a, _⟩ := sep_get k (lb hk) x
    rw [hH] at a
    exact sep_recsLen a) fun ⟨h1, h2⟩ => h h1 h2
end
end Leg
namespace Leg
open Go Codec Api
section
variable {P : Program} {w0 : World} {F : Hl} {n : Nat} {L : List (Nat × Value)} {H : List HP}
theorem TE.ret3 {fn : Func} {post : Ending → List HP → Prop} {t t' t'' : Nat} {v v' v'' : Value} (hr : fn.results = #[.tmp t, .tmp t', .tmp t'']) (e : lk L t = some v) (e' : lk L t' = some v') (e'' : lk L t'' = some v'') (h : post (.returned (.tuple #[v, v', v''])) H) :
    TE w0 F n (bodyPost P fn (postOf post w0 F)) .ret [] L H := fun a w f s m => by
  refine bodyPost_ret (results_tmp3 hr _ _ _) f.2.1 ⟨s, H, m, ?_⟩
  have h1 := f.eval (x := .tmp t) e
  have h2 := f.eval (x := .tmp t') e'
  have h3 := f.eval (x := .tmp t'') e''
  rw [show a.tmps.getD t undef = v from h1, show a.tmps.getD t' undef = v' from h2, show a.tmps.getD t'' undef = v'' from h3]; exact h
end
theorem u8s_at {l : List UInt8} {j : Nat} (h : j < l.length) : (u8s l)[j]? = some (.int .u8 (((l.getD j 0).toNat : Nat) : Int)) := by simp [u8s, List.getD_eq_getElem?_getD, h]
theorem cutLH_0 {a : Addr} {m c k : Nat} (hc : 0 < c) : cutLH (.slice (some a) m c) 0 k = .slice (some a) k c := by
  simp only [cutLH, if_neg (show ¬ c = 0 by omega), Option.map_some, Nat.sub_zero]
  rfl
end Leg
namespace Leg
open Go Codec Api
section
variable {P : Program} {w0 : World} {F : Hl} {n : Nat} {ops : Array Oper} {Q : QQ} {D : List Deferred} {L : List (Nat × Value)} {H : List HP} {o : Oper} {l : List Oper} {d : Nat} {S : World → Prop}
end
end Leg
end
