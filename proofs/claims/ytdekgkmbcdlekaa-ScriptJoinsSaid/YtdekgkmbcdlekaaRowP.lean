/-
  Packages num, row, view in plain words: numbers that may be, rows that may be, views and their changes.
-/
import Derived.Test.YtdekgkmbcdlekaaApiS
import Derived.Test.YtdekgkmbcdlekaaMsgP
namespace Api
open Go Leg Codec

def okN (n : Int) : Bool := decide (0 ≤ n ∧ n ≤ 1099511627776)
/-- num.Add: the sum, and what is wrong. -/
def addE : List Int → Int → Int × Int
  | [], s => (s, 0)
  | n :: l, s => if okN n then (if n > 1099511627776 - s then (0, 6) else addE l (s + n)) else (0, 5)
def okC (c : CellT) : Bool := okN c.inn && okN c.out && decide ((addE c.given.toList 0).2 = 0)
def okCs (v : Vector CellT 4) : Bool := decide (∀ k (h : k < 4), okC v[k] = true)
def hokR (h : Int) (l : Vector CellT 4) : Bool := decide (0 ≤ h) && okCs l && decide (h = 0 → flats l.toList = flats RowT.zero.left[0].toList)
def rightR (x : RowT) : Bool := decide (0 ≤ x.version) && okCs x.cells && decide (∀ j (h : j < 5), hokR x.heir[j] x.left[j] = true)
def machB (w : Int) : Bool := decide (0 ≤ w ∧ w < 5)
def bitB (m w : Int) : Bool := decide ((m.fdiv (2 ^ min w.toNat IntKind.i64.bits)) % 2 = 1)
def memb (v : ViewT) (w : Int) : Bool := machB w && bitB v.members w
def okH (v : ViewT) (h : Int) (i : Nat) : Bool := decide (h = 0) || (memb v (h - 1) && !memb v (i : Int))
def rightV (v : ViewT) : Bool := decide (1 ≤ v.epoch ∧ 1 ≤ v.members ∧ v.members < 32) && @decide (∀ (j : Nat) (h : j < 5), okH v (v.heirs[j]'h) j = true) (Nat.decidableBallLT 5 fun j h => okH v (v.heirs[j]'h) j = true)
def firstV : ViewT := ⟨1, 7, #v[0, 0, 0, 0, 0]⟩
def heirV (v : ViewT) (w : Int) : Option Int := if h : 0 ≤ w ∧ w < 5 then (if v.heirs[w.toNat] < 1 then none else some (v.heirs[w.toNat] - 1)) else none
def leaveH (c : ChangeT) (i : Nat) (h : Int) : Int := if (i : Int) = c.who ∨ h = c.who + 1 then c.heir + 1 else h
def Rng (v : ViewT) : Prop := ∀ (i : Nat) (h : i < 5), 0 ≤ v.heirs[i] ∧ v.heirs[i] ≤ 5
def leaveV (v : ViewT) (c : ChangeT) : Vector Int 5 := v.heirs.mapIdx (leaveH c)
def nextV (v : ViewT) (c : ChangeT) : ViewT × Int :=
  if !machB c.who || !machB c.heir then (ViewT.zero, 5)
  else if c.kind = 0 then
    if (heirV v c.who).isSome || memb v c.who then (ViewT.zero, 5)
    else (⟨IntKind.i64.wrap (v.epoch + 1), orI .i64 v.members (2 ^ c.who.toNat), v.heirs⟩, 0)
  else if c.kind = 1 then
    if !memb v c.who || !memb v c.heir || decide (c.heir = c.who) then (ViewT.zero, 5)
    else (⟨IntKind.i64.wrap (v.epoch + 1), andNotI .i64 v.members (2 ^ c.who.toNat), leaveV v c⟩, 0)
  else (ViewT.zero, 5)
def behindV (l : List ChangeT) : ViewT := l.foldl (fun v c => if (nextV v c).2 = 0 then (nextV v c).1 else v) firstV
theorem add_step {l : List Int} {k : Nat} {s : Int} (h : k < l.length) : addE (l.drop k) s = if okN (l.getD k 0) then (if l.getD k 0 > 1099511627776 - s then (0, 6) else addE (l.drop (k + 1)) (s + l.getD k 0)) else (0, 5) := by
  rw [List.drop_eq_getElem_cons h, addE]; simp [List.getD_eq_getElem?_getD, h]
theorem bit_one (x : Int) : andI .i64 x 1 = x % 2 := mask (k := 1) (by decide) x
theorem shl_one {w : Int} (h : 0 ≤ w ∧ w < 5) : IntKind.i64.wrap (1 * 2 ^ min w.toNat IntKind.i64.bits) = 2 ^ w.toNat := by
  obtain ⟨m, rfl⟩ := Int.eq_ofNat_of_zero_le h.1
  have : m < 5 := by omega
  match m, this with
  | 0, _ | 1, _ | 2, _ | 3, _ | 4, _ => rfl
end Api
namespace Leg
section
open Go
variable {P : Program} {n : Nat} {D : List Deferred} {L : List (Nat × Value)} {S : World → Prop} {o : Oper}
theorem ints_len {l : List Int} {n : Nat} (h : (Api.ints l).length = n) : l.length = n := by rwa [Api.ints_length] at h
theorem PV.neqAgg {t t' : TypeId} {x y : Operand} {a b : List Int} {m c : Nat} (hg : P.eqGuardType P.depth t = false) (hk : P.keyTypeAt m t = true) (hm : Nat.ble m 10000 = true) (hF : flatI P m t = some c) (ha : a.length = c) (hb : b.length = c)
    (hf : (Api.agI a).formed P t = true ∧ (Api.agI b).formed P t = true) (wa : WF a) (wb : WF b)
    (ho : o.op = .binOp .neq t x y t') (hx : evL L x = some (Api.agI a)) (hy : evL L y = some (Api.agI b)) : PV P n D L S o (.bool (decide (a ≠ b))) :=
  PV.bin ho hx hy fun w => by
    have hm' : m ≤ 10000 := Nat.le_of_ble_eq_true hm
    obtain ⟨r, hr, hi⟩ := run_equalIn_deep (10000 - m) m t hk w m m (Api.agI a) (Api.agI b) (litI a) (litI b) hf.1 hf.2 (by simpa [Api.agI, Value.cells] using keyLits_ints m t c hF a ha wa) (by simpa [Api.agI, Value.cells] using keyLits_ints m t c hF b hb wb)
    rw [show 10000 - m + m = 10000 by omega] at hr
    have e : r = decide (a = b) := by
      rw [Bool.eq_iff_iff, hi, decide_eq_true_iff]
      constructor
      · intro h
        have hj : Function.Injective (Lit.int IntKind.i64) := fun u v h => by injection h
        exact (List.map_inj_right fun u v h => hj h).1 h
      · rintro rfl; rfl
    subst e
    simp only [Api.agI] at hr ⊢
    rw [Sem.run_bind, run_eqGuard_agg w .neq t x y _ _ hg, Result.andThen_ok, run_neq_struct, hr]
    simp
theorem TE.retCT {w0 : World} {F : Hl} {H H' : List HP} {fn : Func} {post : Ending → List HP → Prop} {t t' ty e m b : Nat} {cs : List Value} {z : Nat × Nat} {dt : TypeDesc} {v' : Value} (hr : fn.results = #[.cell t ty, .tmp t']) (he : lk L t = some (.pointer (some ⟨b, 0, none⟩))) (e' : lk L t' = some v')
    (hu : P.underlying ty = some dt) (hp : plainT dt = false) (hm : (P.info? ty).map (·.size) = some m) (hR : Rd (Sat H F) b (.cells cs.toArray e z)) (hl : cs.length = m) (hk : ∀ h, sep H h → sep H' h)
    (h : post (.returned (.tuple #[.agg cs.toArray, v'])) H') : TE w0 F n (bodyPost P fn (postOf post w0 F)) .ret [] L H := fun a w f s q => by
  have h1 : a.tmps.getD t undef = .pointer (some ⟨b, 0, none⟩) := f.eval (x := .tmp t) he
  have h2 : a.tmps.getD t' undef = v' := f.eval (x := .tmp t') e'
  have h3 : (results fn a.tmps).run P w = .ok (.tuple #[.agg cs.toArray, v']) w := by
    have h1' : a.tmps[t]?.getD undef = .pointer (some ⟨b, 0, none⟩) := by simpa using h1
    have h2' : a.tmps[t']?.getD undef = v' := by simpa using h2
    simp [results, hr, h1', h2', asAddr, run_loadVar_row w b e ty cs.toArray z dt (hR w q) hu (by cases dt <;> simp [plainT] at hp ⊢) (by simp [hm, hl])]
  exact bodyPost_ret h3 f.2.1 ⟨s, H', q.mono hk, h⟩
theorem PV.andNot {t t' : TypeId} {x y : Operand} {k : IntKind} {a b r : Int} (ho : o.op = .binOp .andNot t x y t') (hx : evL L x = some (.int k a)) (hy : evL L y = some (.int k b)) (hr : andNotI k a b = r) : PV P n D L S o (.int k r) :=
  PV.bin ho hx hy (fun w => by rw [run_binI]; subst hr; simp [binOp, Op.intBits, andNotI])
end
end Leg
