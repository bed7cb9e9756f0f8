/-
  My own layer, third part: one law for each operation.
-/
import Derived.Test.YtdekgkmbcdlekaaLegB
namespace Leg
open Go

/-- Operands, one behind the other. -/
def evs (L : List (Nat × Value)) : List Operand → Option (List Value)
  | [] => some []
  | x :: xs => match evL L x with
    | none => none
    | some v => match evs L xs with
      | none => none
      | some vs => some (v :: vs)
def evp (L : List (Nat × Value)) : List (Nat × Operand) → Option (List (Nat × Value))
  | [] => some []
  | x :: xs => match evL L x.2 with
    | none => none
    | some v => match evp L xs with
      | none => none
      | some vs => some ((x.1, v) :: vs)
theorem Fr.evl {n : Nat} {D : List Deferred} {L : List (Nat × Value)} {a : Act} (g : Fr n D L a) : ∀ (l : List Operand) (q : List Value), evs L l = some q → l.map a.eval = q
  | [], q, e => by simp [evs] at e; simp [e]
  | x :: xs, q, e => by
    simp only [evs] at e
    split at e
    · cases e
    · rename_i v hv
      split at e
      · cases e
      · rename_i vs hvs
        cases e
        simp [g.evl xs vs hvs, g.eval hv]
theorem Fr.evpl {n : Nat} {D : List Deferred} {L : List (Nat × Value)} {a : Act} (g : Fr n D L a) : ∀ (l : List (Nat × Operand)) (q : List (Nat × Value)), evp L l = some q → l.map (fun p => (p.1, a.eval p.2)) = q
  | [], q, e => by simp [evp] at e; simp [e]
  | x :: xs, q, e => by
    simp only [evp] at e
    split at e
    · cases e
    · rename_i v hv
      split at e
      · cases e
      · rename_i vs hvs
        cases e
        simp [g.evpl xs vs hvs, g.eval hv]
theorem Fr.evals {n : Nat} {D : List Deferred} {L : List (Nat × Value)} {a : Act} (g : Fr n D L a) {xs : Array Operand} {vs : List Value} (hx : evs L xs.toList = some vs) : xs.map a.eval = vs.toArray := by
  rw [← g.evl _ _ hx, ← Array.toList_map]
theorem Fr.evparts {n : Nat} {D : List Deferred} {L : List (Nat × Value)} {a : Act} (g : Fr n D L a) {xs : Array (Nat × Operand)} {vs : List (Nat × Value)} (hx : evp L xs.toList = some vs) : (xs.map fun x => (x.1, a.eval x.2)).toList = vs := by
  rw [Array.toList_map]; exact g.evpl _ _ hx

/-! ### Runs -/
section
variable {P : Program} {w : World}

def plainT : TypeDesc → Bool
  | .struct _ => false
  | .array _ _ => false
  | _ => true
theorem run_isAggL {t : TypeId} {d : TypeDesc} (h : P.underlying t = some d) : (isAgg t).run P w = .ok (!plainT d) w := by
  unfold isAgg
  cases d <;> simp [run_underlying h, plainT]
theorem run_infoL {t : TypeId} {i : TypeInfo} (h : P.info? t = some i) : (typeInfo t).run P w = .ok i w := by simp [typeInfo, h]
theorem run_sizeL {t : TypeId} {s : Nat} (h : (P.info? t).map (·.size) = some s) : (Go.sizeOf t).run P w = .ok s w := by
  obtain ⟨i, hi, hs⟩ := Option.map_eq_some_iff.1 h
  simp [Go.sizeOf, run_infoL hi, hs]
theorem run_zeroL {t : TypeId} {v : Value} (h : (P.info? t).map (·.zero) = some (some v)) : (zeroValue t).run P w = .ok v w := by
  obtain ⟨i, hi, hs⟩ := Option.map_eq_some_iff.1 h
  simp [zeroValue, run_infoL hi, hs]
theorem cell_ofL {b j : Nat} {cs : List Value} {t : TypeId} {z : Nat × Nat} (h : w.heap[b]? = some (.cells cs.toArray t z)) : w.cell? ⟨b, j, none⟩ = cs[j]? := by
  simp [World.cell?, h]
theorem addL (b o n : Nat) : (⟨b, o, none⟩ : Addr).add n = ⟨b, o + n, none⟩ := Addr.add_mid b o n
theorem run_load1 {t : TypeId} {d : TypeDesc} (h : P.underlying t = some d) (hp : plainT d = true) {a : Addr} {v : Value} (hc : w.cell? a = some v) : (Instr.loadAt t (.pointer (some a))).run P w = .ok v w := by
  simp [Instr.loadAt, Instr.sureAddr, loadVar, run_isAggL h, hp, load, Sem.run, hc]
theorem run_loadN {t : TypeId} {d : TypeDesc} (h : P.underlying t = some d) (hp : plainT d = false) {b o m : Nat} (hm : (P.info? t).map (·.size) = some m) {vs : List Value} (hl : vs.length = m)
    (hc : ∀ j v, vs[j]? = some v → w.cell? ⟨b, o + j, none⟩ = some v) : (Instr.loadAt t (.pointer (some ⟨b, o, none⟩))).run P w = .ok (.agg vs.toArray) w := by
  subst hl
  have := run_loadCells_list (P := P) (w := w) ⟨b, o, none⟩ vs (fun j v e => by rw [addL]; exact hc j v e)
  simp [Instr.loadAt, Instr.sureAddr, loadVar, run_isAggL h, hp, run_sizeL hm, this]
end

theorem wrap_i64 {x : Int} (h1 : -9223372036854775808 ≤ x) (h2 : x ≤ 9223372036854775807) : IntKind.i64.wrap x = x := IntWalk.i64_in x ⟨h1, h2⟩
theorem wrap_u8 {x : Int} (h1 : 0 ≤ x) (h2 : x ≤ 255) : IntKind.u8.wrap x = x := by
  simp only [IntKind.wrap, IntKind.signed, IntKind.bits]; simp; omega
theorem wrap_u32 {x : Int} (h1 : 0 ≤ x) (h2 : x ≤ 4294967295) : IntKind.u32.wrap x = x := by
  simp only [IntKind.wrap, IntKind.signed, IntKind.bits]; simp; omega
theorem wrap_u64 {x : Int} (h1 : 0 ≤ x) (h2 : x ≤ 18446744073709551615) : IntKind.u64.wrap x = x := by
  simp only [IntKind.wrap, IntKind.signed, IntKind.bits]; simp; omega

theorem lb {a b : Nat} (h : Nat.blt a b = true) : a < b := by simpa [Nat.blt_eq] using h
theorem lbe {a b : Nat} (h : Nat.ble a b = true) : a ≤ b := Nat.le_of_ble_eq_true h
theorem lz {a b : Int} (h : decide (a ≤ b) = true) : a ≤ b := of_decide_eq_true h
theorem ll {a b : Int} (h : decide (a < b) = true) : a < b := of_decide_eq_true h
theorem Sub.refl (L : List (Nat × Value)) : Sub L L := fun _ _ h => h
/-- Pieces by their places: each place is counted among those that are left. -/
def selR (H : List HP) : List Nat → List HP
  | [] => H
  | i :: is => H.getD i (fun _ => True) :: selR (H.eraseIdx i) is
def okR : Nat → List Nat → Bool
  | _, [] => true
  | m, i :: is => Nat.blt i m && okR (m - 1) is
theorem sep_selR : ∀ (is : List Nat) {H : List HP} {h : Hl}, okR H.length is = true → sep H h → sep (selR H is) h
  | [], _, _, _, s => s
  | i :: is, H, h, k, s => by
    simp only [okR, Bool.and_eq_true] at k
    have hi := lb k.1
    exact star_mono (sep_get i hi s) (fun _ x => x) fun _ x => sep_selR is (by rw [List.length_eraseIdx, if_pos hi]; exact k.2) x
theorem sep_take : ∀ (m : Nat) {H : List HP} {h : Hl}, sep H h → sep (H.take m) h
  | 0, _, _, _ => trivial
  | _ + 1, [], _, s => s
  | m + 1, _ :: _, _, s => star_mono s (fun _ x => x) fun _ x => sep_take m x
/-- Only the pieces at these places are kept. -/
theorem sep_keep (is : List Nat) {H : List HP} {h : Hl} (k : okR H.length is = true) (s : sep H h) : sep ((selR H is).take is.length) h := sep_take _ (sep_selR is k s)

/-- Endings. -/
def Ret (p : Value → List HP → Prop) : Ending → List HP → Prop
  | .returned v, H => p v H
  | _, _ => False
def RetP (p : Value → List HP → Prop) (q : List PanicEntry → List HP → Prop) : Ending → List HP → Prop
  | .returned v, H => p v H
  | .panicked c, H => q c H
  | .outgrown, _ => False

/-- What a block is known to hold, as long as the pieces are these. -/
def Rd (S : World → Prop) (b : Nat) (o : Obj) : Prop := ∀ w, S w → w.heap[b]? = some o
theorem Rd.own {H : List HP} {F : Hl} {b : Nat} {o : Obj} (i : Nat) (hi : Nat.blt i H.length = true) (e : H.getD i (fun _ => True) = obj b o) : Rd (Sat H F) b o := fun _ s => s.block i (lb hi) e
theorem Rd.ro {H : List HP} {F : Hl} {b : Nat} {o : Obj} (e : F b = some o) : Rd (Sat H F) b o := fun _ s => s.frame e
/-- The operation yields v, whatever world of S there is, and leaves it. -/
def PV (P : Program) (n : Nat) (D : List Deferred) (L : List (Nat × Value)) (S : World → Prop) (o : Oper) (v : Value) : Prop :=
  ∀ a w, Fr n D L a → S w → (execOp a.eval o).run P w = .ok (.value v) w

abbrev blkA (b : Nat) (cs : List Value) (t : TypeId) : HP := obj b (.cells cs.toArray t (0, 0))
abbrev cellsO (cs : List Value) (t : TypeId) (z : Nat × Nat := (0, 0)) : Obj := .cells cs.toArray t z
/-- A list with a stretch written anew. -/
def wr (cs : List Value) (o : Nat) (vs : List Value) : List Value := cs.take o ++ vs ++ cs.drop (o + vs.length)

section
variable {P : Program} {w0 : World} {F : Hl} {n : Nat} {ops : Array Oper} {Q : QQ} {D : List Deferred} {L : List (Nat × Value)} {H : List HP} {o : Oper} {l : List Oper} {d : Nat} {S : World → Prop}

/-- An operation that only yields. -/
theorem TL.v {v : Value} (hw : Want n D ops o L) (hd : o.dst = some d) (hn : Nat.blt d n = true) (h1 : PV P n D L (Sat H F) o v) (h : TL P w0 F n ops Q l D ((d, v) :: L) H) : TL P w0 F n ops Q (o :: l) D L H :=
  TL.val hw hd (lb hn) h1 h

theorem PV.move {x : Operand} {v : Value} (ho : o.op = .move x) (hx : evL L x = some v) : PV P n D L S o (v) :=
  fun a w f _ => by simp [execOp, ho, f.eval hx]
theorem PV.assign {x : Operand} {v : Value} (ho : o.op = .assign x) (hx : evL L x = some v) : PV P n D L S o (v) :=
  fun a w f _ => by simp [execOp, ho, f.eval hx]
theorem PV.pick {c x y : Operand} {b : Bool} {v : Value} (ho : o.op = .pick c x y) (hc : evL L c = some (.bool b)) (hx : evL L (bif b then x else y) = some v) : PV P n D L S o (v) :=
  fun a w f _ => by
    cases b
    · have := f.eval hx; simp at this; simp [execOp, ho, f.eval hc, asBool, this]
    · have := f.eval hx; simp at this; simp [execOp, ho, f.eval hc, asBool, this]
/-- A binary operation, its run told. -/
theorem PV.bin {op : BinOp} {t t' : TypeId} {x y : Operand} {u u' v : Value} (ho : o.op = .binOp op t x y t') (hx : evL L x = some u) (hy : evL L y = some u')
    (hr : ∀ w, (do eqGuard op t x y u u'; binOp op t u u' : Sem Value).run P w = .ok v w) : PV P n D L S o (v) :=
  fun a w f _ => by
    have := hr w
    simp only [execOp, ho, f.eval hx, f.eval hy, Sem.run_bind] at this ⊢
    rw [this]; simp

theorem run_binI {op : BinOp} {t : TypeId} {x y : Operand} {k k' : IntKind} {a b : Int} {w : World} :
    (do eqGuard op t x y (.int k a) (.int k' b); binOp op t (.int k a) (.int k' b) : Sem Value).run P w = (binOp op t (.int k a) (.int k' b)).run P w := by
  simp only [Sem.run_bind, eqGuard]
  split <;> simp

theorem PV.add {t t' : TypeId} {x y : Operand} {k : IntKind} {a b r : Int} (ho : o.op = .binOp .add t x y t') (hx : evL L x = some (.int k a)) (hy : evL L y = some (.int k b)) (hr : k.wrap (a + b) = r) : PV P n D L S o (.int k r) :=
  PV.bin ho hx hy (fun w => by rw [run_binI]; subst hr; simp [binOp, Op.intArith])
theorem PV.sub {t t' : TypeId} {x y : Operand} {k : IntKind} {a b r : Int} (ho : o.op = .binOp .sub t x y t') (hx : evL L x = some (.int k a)) (hy : evL L y = some (.int k b)) (hr : k.wrap (a - b) = r) : PV P n D L S o (.int k r) :=
  PV.bin ho hx hy (fun w => by rw [run_binI]; subst hr; simp [binOp, Op.intArith])
theorem PV.mul {t t' : TypeId} {x y : Operand} {k : IntKind} {a b r : Int} (ho : o.op = .binOp .mul t x y t') (hx : evL L x = some (.int k a)) (hy : evL L y = some (.int k b)) (hr : k.wrap (a * b) = r) : PV P n D L S o (.int k r) :=
  PV.bin ho hx hy (fun w => by rw [run_binI]; subst hr; simp [binOp, Op.intArith])
theorem PV.quo {t t' : TypeId} {x y : Operand} {k : IntKind} {a b r : Int} (ho : o.op = .binOp .quo t x y t') (hx : evL L x = some (.int k a)) (hy : evL L y = some (.int k b)) (hb : b ≠ 0) (hr : k.wrap (a.tdiv b) = r) : PV P n D L S o (.int k r) :=
  PV.bin ho hx hy (fun w => by rw [run_binI]; subst hr; simp [binOp, Op.intDiv, hb])
theorem PV.rem {t t' : TypeId} {x y : Operand} {k : IntKind} {a b r : Int} (ho : o.op = .binOp .rem t x y t') (hx : evL L x = some (.int k a)) (hy : evL L y = some (.int k b)) (hb : b ≠ 0) (hr : a.tmod b = r) : PV P n D L S o (.int k r) :=
  PV.bin ho hx hy (fun w => by rw [run_binI]; subst hr; simp [binOp, Op.intDiv, hb])
/-- The bits of two numbers. -/
def andI (k : IntKind) (a b : Int) : Int := k.wrap (BitVec.ofInt k.bits a &&& BitVec.ofInt k.bits b).toNat
def orI (k : IntKind) (a b : Int) : Int := k.wrap (BitVec.ofInt k.bits a ||| BitVec.ofInt k.bits b).toNat
def xorI (k : IntKind) (a b : Int) : Int := k.wrap (BitVec.ofInt k.bits a ^^^ BitVec.ofInt k.bits b).toNat
def andNotI (k : IntKind) (a b : Int) : Int := k.wrap (BitVec.ofInt k.bits a &&& ~~~BitVec.ofInt k.bits b).toNat
theorem PV.and {t t' : TypeId} {x y : Operand} {k : IntKind} {a b r : Int} (ho : o.op = .binOp .and t x y t') (hx : evL L x = some (.int k a)) (hy : evL L y = some (.int k b)) (hr : andI k a b = r) : PV P n D L S o (.int k r) :=
  PV.bin ho hx hy (fun w => by rw [run_binI]; subst hr; simp [binOp, Op.intBits, andI])
theorem PV.or {t t' : TypeId} {x y : Operand} {k : IntKind} {a b r : Int} (ho : o.op = .binOp .or t x y t') (hx : evL L x = some (.int k a)) (hy : evL L y = some (.int k b)) (hr : orI k a b = r) : PV P n D L S o (.int k r) :=
  PV.bin ho hx hy (fun w => by rw [run_binI]; subst hr; simp [binOp, Op.intBits, orI])
theorem PV.xor {t t' : TypeId} {x y : Operand} {k : IntKind} {a b r : Int} (ho : o.op = .binOp .xor t x y t') (hx : evL L x = some (.int k a)) (hy : evL L y = some (.int k b)) (hr : xorI k a b = r) : PV P n D L S o (.int k r) :=
  PV.bin ho hx hy (fun w => by rw [run_binI]; subst hr; simp [binOp, Op.intBits, xorI])
theorem PV.shl {t t' : TypeId} {x y : Operand} {k k' : IntKind} {a b r : Int} (ho : o.op = .binOp .shl t x y t') (hx : evL L x = some (.int k a)) (hy : evL L y = some (.int k' b)) (hb : 0 ≤ b) (hr : k.wrap (a * 2 ^ min b.toNat k.bits) = r) : PV P n D L S o (.int k r) :=
  PV.bin ho hx hy (fun w => by rw [run_binI]; subst hr; simp [binOp, Op.shift, show ¬ b < 0 by omega])
theorem PV.shr {t t' : TypeId} {x y : Operand} {k k' : IntKind} {a b r : Int} (ho : o.op = .binOp .shr t x y t') (hx : evL L x = some (.int k a)) (hy : evL L y = some (.int k' b)) (hb : 0 ≤ b) (hr : a.fdiv (2 ^ min b.toNat k.bits) = r) : PV P n D L S o (.int k r) :=
  PV.bin ho hx hy (fun w => by rw [run_binI]; subst hr; simp [binOp, Op.shift, show ¬ b < 0 by omega])
/-- Comparisons: the answer as a Bool of the proposition. -/
theorem PV.lss {t t' : TypeId} {x y : Operand} {k : IntKind} {a b : Int} (ho : o.op = .binOp .lss t x y t') (hx : evL L x = some (.int k a)) (hy : evL L y = some (.int k b)) : PV P n D L S o (.bool (decide (a < b))) :=
  PV.bin ho hx hy (fun w => by rw [run_binI]; simp [binOp, Op.intCmp])
theorem PV.leq {t t' : TypeId} {x y : Operand} {k : IntKind} {a b : Int} (ho : o.op = .binOp .leq t x y t') (hx : evL L x = some (.int k a)) (hy : evL L y = some (.int k b)) : PV P n D L S o (.bool (decide (a ≤ b))) :=
  PV.bin ho hx hy (fun w => by rw [run_binI]; simp [binOp, Op.intCmp])
theorem PV.gtr {t t' : TypeId} {x y : Operand} {k : IntKind} {a b : Int} (ho : o.op = .binOp .gtr t x y t') (hx : evL L x = some (.int k a)) (hy : evL L y = some (.int k b)) : PV P n D L S o (.bool (decide (b < a))) :=
  PV.bin ho hx hy (fun w => by rw [run_binI]; simp [binOp, Op.intCmp])
theorem PV.geq {t t' : TypeId} {x y : Operand} {k : IntKind} {a b : Int} (ho : o.op = .binOp .geq t x y t') (hx : evL L x = some (.int k a)) (hy : evL L y = some (.int k b)) : PV P n D L S o (.bool (decide (b ≤ a))) :=
  PV.bin ho hx hy (fun w => by rw [run_binI]; simp [binOp, Op.intCmp])
theorem PV.eql {t t' : TypeId} {x y : Operand} {k : IntKind} {a b : Int} (ho : o.op = .binOp .eql t x y t') (hx : evL L x = some (.int k a)) (hy : evL L y = some (.int k b)) : PV P n D L S o (.bool (decide (a = b))) :=
  PV.bin ho hx hy (fun w => by rw [run_binI]; simp [binOp, Op.intCmp]; by_cases q : a = b <;> simp [q])
theorem PV.neq {t t' : TypeId} {x y : Operand} {k : IntKind} {a b : Int} (ho : o.op = .binOp .neq t x y t') (hx : evL L x = some (.int k a)) (hy : evL L y = some (.int k b)) : PV P n D L S o (.bool (decide (a ≠ b))) :=
  PV.bin ho hx hy (fun w => by rw [run_binI]; simp [binOp, Op.intCmp]; by_cases q : a = b <;> simp [q])
theorem PV.not {t : TypeId} {x : Operand} {b r : Bool} (ho : o.op = .unOp .not t x) (hx : evL L x = some (.bool b)) (hr : (!b) = r) : PV P n D L S o (.bool r) :=
  fun a w f _ => by subst hr; simp [execOp, ho, f.eval hx, Op.unary]
theorem PV.neg {t : TypeId} {x : Operand} {k : IntKind} {a r : Int} (ho : o.op = .unOp .neg t x) (hx : evL L x = some (.int k a)) (hr : k.wrap (0 - a) = r) : PV P n D L S o (.int k r) :=
  fun a w f _ => by subst hr; simp [execOp, ho, f.eval hx, Op.unary, Op.intArith]
theorem PV.com {t : TypeId} {x : Operand} {k : IntKind} {a r : Int} (ho : o.op = .unOp .xor t x) (hx : evL L x = some (.int k a)) (hr : xorI k (if k.signed then -1 else k.max) a = r) : PV P n D L S o (.int k r) :=
  fun a w f _ => by subst hr; simp [execOp, ho, f.eval hx, Op.unary, Op.intBits, xorI]
/-- A number turned into another kind. -/
theorem PV.convI {s t : TypeId} {x : Operand} {ds : TypeDesc} {k k' : IntKind} {a r : Int} (ho : o.op = .convert s t x) (hs : P.underlying s = some ds) (ht : P.underlying t = some (.int k))
    (hx : evL L x = some (.int k' a)) (hr : k.wrap a = r) : PV P n D L S o (.int k r) :=
  fun b w f _ => by
    subst hr
    simp [execOp, ho, f.eval hx, convert, run_underlying hs, run_underlying ht, Conv.intToInt]
theorem TL.dec {p : Prop} [Decidable p] (ht : p → TL P w0 F n ops Q l D ((d, .bool true) :: L) H) (hf : ¬ p → TL P w0 F n ops Q l D ((d, .bool false) :: L) H) : TL P w0 F n ops Q l D ((d, .bool (decide p)) :: L) H := by
  by_cases q : p
  · rw [decide_eq_true q]; exact ht q
  · rw [decide_eq_false q]; exact hf q
theorem TL.decB {b : Bool} (ht : b = true → TL P w0 F n ops Q l D ((d, .bool true) :: L) H) (hf : b = false → TL P w0 F n ops Q l D ((d, .bool false) :: L) H) : TL P w0 F n ops Q l D ((d, .bool b) :: L) H := by
  cases b
  · exact hf rfl
  · exact ht rfl
theorem PV.nilCheck {x : Operand} {a : Addr} (ho : o.op = .nilCheck x) (hx : evL L x = some (.pointer (some a))) : PV P n D L S o (.pointer (some a)) :=
  fun b w f _ => by simp [execOp, ho, f.eval hx]

/-! ### Memory -/

theorem TL.alloc {t : TypeId} {z : Value} (hw : Want n D ops o L) (ho : o.op = .alloc t) (hd : o.dst = some d) (hn : Nat.blt d n = true) (hz : (P.info? t).map (·.zero) = some (some z))
    (h : ∀ b, TL P w0 F n ops Q l D ((d, .pointer (some ⟨b, 0, none⟩)) :: L) (obj b (.cells z.cells t) :: H)) : TL P w0 F n ops Q (o :: l) D L H :=
  TL.step hw fun a w f s m => by
    unfold Oper.wp
    have r : (execOp a.eval o).run P w = .ok (.value (.pointer (some ⟨w.heap.size, 0, none⟩))) (w.alloc (.cells z.cells t)) := by
      simp [execOp, ho, Instr.alloc, run_zeroL hz, newVar, newRow, newObj, Sem.run]
    rw [r, Oper.upon_value, hd]
    exact h _ _ _ (f.put (lb hn) _) (s.trans ⟨rfl, rfl, rfl, by simp⟩) (m.alloc _)
theorem TL.box {t : TypeId} {x : Operand} {v : Value} (hw : Want n D ops o L) (ho : o.op = .box t x) (hd : o.dst = some d) (hn : Nat.blt d n = true) (hx : evL L x = some v)
    (h : ∀ b, TL P w0 F n ops Q l D ((d, .pointer (some ⟨b, 0, none⟩)) :: L) (obj b (.cells v.cells t) :: H)) : TL P w0 F n ops Q (o :: l) D L H :=
  TL.step hw fun a w f s m => by
    unfold Oper.wp
    have r : (execOp a.eval o).run P w = .ok (.value (.pointer (some ⟨w.heap.size, 0, none⟩))) (w.alloc (.cells v.cells t)) := by
      simp [execOp, ho, f.eval hx, Instr.box, newVar, newRow, newObj, Sem.run]
    rw [r, Oper.upon_value, hd]
    exact h _ _ _ (f.put (lb hn) _) (s.trans ⟨rfl, rfl, rfl, by simp⟩) (m.alloc _)
theorem PV.load1 {t e : TypeId} {x : Operand} {dt : TypeDesc} {b j : Nat} {cs : List Value} {z : Nat × Nat} {v : Value} (ho : o.op = .load t x) 
    (ht : P.underlying t = some dt) (hp : plainT dt = true) (hx : evL L x = some (.pointer (some ⟨b, j, none⟩))) (hR : Rd S b (.cells cs.toArray e z)) (hc : cs[j]? = some v) : PV P n D L S o (v) :=
  fun a w f m => by
    simp [execOp, ho, f.eval hx, run_load1 ht hp (show w.cell? ⟨b, j, none⟩ = some v by rw [cell_ofL (hR w m)]; exact hc)]
theorem PV.loadN {t e : TypeId} {x : Operand} {dt : TypeDesc} {b j m : Nat} {cs vs : List Value} {z : Nat × Nat} (ho : o.op = .load t x) 
    (ht : P.underlying t = some dt) (hp : plainT dt = false) (hm : (P.info? t).map (·.size) = some m) (hx : evL L x = some (.pointer (some ⟨b, j, none⟩))) (hR : Rd S b (.cells cs.toArray e z))
    (hl : vs.length = m) (hc : (cs.drop j).take m = vs) : PV P n D L S o (.agg vs.toArray) :=
  fun a w f s => by
    have := run_loadN (P := P) (w := w) ht hp (b := b) (o := j) hm hl (fun i v e => by
      rw [cell_ofL (hR w s)]
      subst hc
      rw [List.getElem?_take] at e
      split at e
      · simpa using e
      · cases e)
    simp [execOp, ho, f.eval hx, this]

theorem run_storeL {w : World} {t e : TypeId} {b j : Nat} {cs : List Value} {v : Value} {vs : List Value} (hv : v.cells = vs.toArray) (hs : (P.info? t).map (·.size) = some vs.length) (h1 : ∀ u ∈ vs, u.oneCell' = true)
    (hb : w.heap[b]? = some (.cells cs.toArray e (0, 0))) (hl : j + vs.length ≤ cs.length) :
    (Instr.storeAt t (.pointer (some ⟨b, j, none⟩)) v).run P w = .ok () (w.setRow b (wr cs j vs).toArray) := by
  have := run_storeCells_at P b j e vs 0 cs.toArray w hb (by simpa using hl) h1
  simp only [Nat.add_zero] at this
  simp [Instr.storeAt, Instr.sureAddr, storeVar, run_sizeL hs, hv, this, wr]
theorem TL.store {H' : List HP} {t e : TypeId} {x y : Operand} {b j i : Nat} {cs cs' : List Value} {v : Value} {vs : List Value} (hw : Want n D ops o L) (ho : o.op = .store t x y) (hd : o.dst = none)
    (hx : evL L x = some (.pointer (some ⟨b, j, none⟩))) (hy : evL L y = some v) (hv : v.cells = vs.toArray) (hs : (P.info? t).map (·.size) = some vs.length) (h1 : ∀ u ∈ vs, u.oneCell' = true)
    (hi : Nat.blt i H.length = true) (hH : H.getD i (fun _ => True) = blkA b cs e) (hl : j + vs.length ≤ cs.length) (hcs : wr cs j vs = cs') (hH' : H.set i (blkA b cs' e) = H')
    (h : TL P w0 F n ops Q l D L H') : TL P w0 F n ops Q (o :: l) D L H :=
  TL.eff hw hd (fun a w f _ m => by
    have hb := m.block i (lb hi) hH
    refine ⟨w.setRow b (wr cs j vs).toArray, by simp [execOp, ho, f.eval hx, f.eval hy, run_storeL hv hs h1 hb hl], ⟨rfl, rfl, rfl, by simp⟩, ?_⟩
    subst hcs; subst hH'
    exact m.write i (lb hi) hH (setRow_heap w b cs.toArray _ e _ hb) (fun k hk => setRow_other w b k _ hk)) h
/-- One cell. -/
theorem TL.store1 {H' : List HP} {t e : TypeId} {x y : Operand} {b j i : Nat} {cs cs' : List Value} {v : Value} (hw : Want n D ops o L) (ho : o.op = .store t x y) (hd : o.dst = none)
    (hx : evL L x = some (.pointer (some ⟨b, j, none⟩))) (hy : evL L y = some v) (h1 : v.oneCell' = true) (hs : (P.info? t).map (·.size) = some 1)
    (hi : Nat.blt i H.length = true) (hH : H.getD i (fun _ => True) = blkA b cs e) (hl : j < cs.length) (hcs : cs.set j v = cs') (hH' : H.set i (blkA b cs' e) = H')
    (h : TL P w0 F n ops Q l D L H') : TL P w0 F n ops Q (o :: l) D L H :=
  TL.store (vs := [v]) hw ho hd hx hy (by cases v <;> simp [Value.cells, Value.oneCell'] at h1 ⊢) hs (by simpa using h1) hi hH (by simp; omega)
    (by rw [← hcs, wr, List.set_eq_take_append_cons_drop, if_pos hl]; simp) hH' h

theorem fieldPlaceL {w : World} {b j : Nat} {f : Field} {m : Nat} (hs : (P.info? f.type).map (·.size) = some (m + 1)) : (fieldPlace ⟨b, j, none⟩ f).run P w = .ok ⟨b, j + f.offset, none⟩ w := by
  simp [fieldPlace, run_sizeL hs, addL]
theorem PV.fieldAddr {t : TypeId} {x : Operand} {i b j r m : Nat} {fs : Array Field} {f : Field} (ho : o.op = .fieldAddr t x i) (ht : P.underlying t = some (.struct fs)) (hf : fs[i]? = some f)
    (hs : (P.info? f.type).map (·.size) = some (m + 1)) (hx : evL L x = some (.pointer (some ⟨b, j, none⟩))) (hr : j + f.offset = r) : PV P n D L S o (.pointer (some ⟨b, r, none⟩)) :=
  fun a w g _ => by
    subst hr
    simp [execOp, ho, g.eval hx, Instr.fieldAt, run_underlying ht, hf, Instr.sureAddr, fieldPlaceL hs]
theorem PV.indexArr {t e : TypeId} {x y : Operand} {b j len s r : Nat} {k : IntKind} {i : Int} (ho : o.op = .indexAddr t x y) (ht : P.underlying t = some (.array len e))
    (hs : (P.info? e).map (·.size) = some s) (hx : evL L x = some (.pointer (some ⟨b, j, none⟩))) (hy : evL L y = some (.int k i)) (h0 : 0 ≤ i) (h1 : i < len) (hr : j + i.toNat * s = r) : PV P n D L S o (.pointer (some ⟨b, r, none⟩)) :=
  fun a w g _ => by
    subst hr
    simp [execOp, ho, g.eval hx, g.eval hy, Instr.indexAt, asIntOf, run_underlying ht, Instr.sureAddr, h0, h1, run_sizeL hs, addL]
theorem PV.indexSl {t e : TypeId} {x y : Operand} {b j len cap s r : Nat} {k : IntKind} {i : Int} (ho : o.op = .indexAddr t x y) (ht : P.underlying t = some (.slice e))
    (hs : (P.info? e).map (·.size) = some s) (hx : evL L x = some (.slice (some ⟨b, j, none⟩) len cap)) (hy : evL L y = some (.int k i)) (h0 : 0 ≤ i) (h1 : i < len) (hr : j + i.toNat * s = r) : PV P n D L S o (.pointer (some ⟨b, r, none⟩)) :=
  fun a w g _ => by
    subst hr
    simp [execOp, ho, g.eval hx, g.eval hy, Instr.indexAt, asIntOf, run_underlying ht, h0, h1, run_sizeL hs, addL]
theorem PV.lenSl {t : TypeId} {e : TypeId} {x : Operand} {a : Option Addr} {len cap : Nat} (ho : o.op = .call { callee := .builtin .len, args := #[x], argTypes := #[t] }) (ht : P.underlying t = some (.slice e))
    (hx : evL L x = some (.slice a len cap)) : PV P n D L S o (.int .i64 len) :=
  fun b w g _ => by
    simp [execOp, ho, resolve, g.eval hx, invoke, builtin, Builtin.len_, run_underlying ht, goInt]
theorem PV.build {t : TypeId} {parts : Array (Nat × Operand)} {ps : List (Nat × Value)} {cells : Array Value} (ho : o.op = .build t parts) 
    (hx : evp L parts.toList = some ps) (hb : P.built t ps = some cells) : PV P n D L S o (.agg cells) :=
  fun a w f _ => by
    have e : (parts.map fun x => (x.1, a.eval x.2)).toList = ps := f.evparts hx
    have := run_build (P := P) w t (parts.map fun x => (x.1, a.eval x.2)) cells (by rw [e]; exact hb)
    simp [execOp, ho, this]
theorem cells_one {v : Value} (h : v.oneCell' = true) : v.cells = #[v] := by cases v <;> simp [Value.cells, Value.oneCell'] at h ⊢
theorem PV.mkIface {t : TypeId} {x : Operand} {v : Value} {dt : TypeDesc} (ho : o.op = .makeInterface t x) (ht : P.underlying t = some dt) (hc : (match dt with | .interface _ => false | _ => true) = true) (hx : evL L x = some v) : PV P n D L S o (.iface t v) :=
  fun a w f _ => by
    cases dt <;> simp_all [execOp, f.eval hx, Instr.makeInterface, run_underlying ht]
theorem TL.panicOp {x : Operand} {t : TypeId} {v : Value} (hw : Want n D ops o L) (ho : o.op = .panic x) (hx : evL L x = some (.iface t v))
    (h : TE w0 F n Q (.panic [{ v := .iface t v, recovered := false }]) D L H) : TL P w0 F n ops Q (o :: l) D L H :=
  TL.panic hw (fun a w f _ m => ⟨w, by simp [execOp, ho, f.eval hx, Instr.panic, goPanic], Same.refl w, m⟩) h
/-- x[lo:] -/
def cutLo (a : Addr) (c k : Nat) : Addr := if c = k then a else a.add k
theorem PV.mkFunc {f : Fn} {xs : Array Operand} {vs : List Value} (ho : o.op = .makeFunc f #[] xs) (hx : evs L xs.toList = some vs) : PV P n D L S o (.func f #[] vs.toArray) := fun a w g _ => by
  have e : xs.map a.eval = vs.toArray := g.evals hx
  simp [execOp, ho, Instr.makeFunc, e]
theorem PV.sliceLo {t e : TypeId} {x y : Operand} {a : Addr} {len cap k : Nat} {kk : IntKind} {v : Value} {i : Int} (ho : o.op = .slice t x (some y) none none) (ht : P.underlying t = some (.slice e))
    (hs : (P.info? e).map (·.size) = some 1) (hx : evL L x = some (.slice (some a) len cap)) (hy : evL L y = some (.int kk i)) (hk : i = (k : Int)) (h1 : k ≤ len) (hv : .slice (some (cutLo a cap k)) (len - k) (cap - k) = v) : PV P n D L S o (v) :=
  fun b w g _ => by
    subst hk; subst hv
    simp only [execOp, ho, g.eval hx, Option.map_some, Option.map_none, g.eval hy]
    by_cases q : cap = k
    · simp [Instr.sliceAt, Instr.slice, run_underlying ht, Instr.sliceBounds, Instr.sliceBound, asIntOf, h1, run_sizeL hs, cutLo, q]
    · simp [Instr.sliceAt, Instr.slice, run_underlying ht, Instr.sliceBounds, Instr.sliceBound, asIntOf, h1, run_sizeL hs, cutLo, q]

/-- A call of a function by its number. -/
def Named (P : Program) (f : FuncId) : Prop := ∃ fn, P.funcs[f]? = some fn ∧ (fn.name == "runtime.NumGoroutine") = false ∧ fn.body.isNone = false
theorem run_callFunc {f : FuncId} (hf : Named P f) (args : Array Value) (w : World) : (callFunc f args).run P w = .ok (.enter f args) w := by
  obtain ⟨fn, h1, h2, h3⟩ := hf
  have h2' : fn.name ≠ "runtime.NumGoroutine" := by simpa using h2
  have h3' : fn.body ≠ none := by intro q; rw [q] at h3; cases h3
  simp [callFunc, h1, h2', h3']
theorem TL.call {f : FuncId} {xs : Array Operand} {ts : Array TypeId} {vs : List Value} {R : Hl → Prop} {A B : List HP} {post : Ending → List HP → Prop} (hw : Want n D ops o L)
    (ho : o.op = .call { callee := .value (.func f), args := xs, argTypes := ts }) (hd : o.dst = some d) (hn : Nat.blt d n = true) (hf : Named P f) (hx : evs L xs.toList = some vs)
    (sp : Does P f vs.toArray R A post) (hp : ∀ h, sep H h → sep (A ++ B) h) (hR : ∀ g, Dj g F → sep B g → R (jn g F))
    (hout : ∀ H', ¬ post .outgrown H')
    (hpan : ∀ c H', post (.panicked c) H' → TE w0 F n Q (.panic c) D L (H' ++ B))
    (hret : ∀ v H', post (.returned v) H' → TL P w0 F n ops Q l D ((d, v) :: L) (H' ++ B)) : TL P w0 F n ops Q (o :: l) D L H :=
  TL.callw hw (fun a w g => by
      have e : xs.map a.eval = vs.toArray := g.evals hx
      simp [execOp, ho, resolve, Act.eval, Deferred.ofValue, invoke, e, run_callFunc hf])
    sp hp hR (fun v H' q a g w s m => by rw [hd]; exact hret v H' q _ w (g.put (lb hn) v) s m) hpan hout
theorem TL.callR {f : FuncId} {xs : Array Operand} {ts : Array TypeId} {vs : List Value} {R : Hl → Prop} {A B : List HP} {p : Value → List HP → Prop} (hw : Want n D ops o L)
    (ho : o.op = .call { callee := .value (.func f), args := xs, argTypes := ts }) (hd : o.dst = some d) (hn : Nat.blt d n = true) (hf : Named P f) (hx : evs L xs.toList = some vs)
    (sp : Does P f vs.toArray R A (Ret p)) (hp : ∀ h, sep H h → sep (A ++ B) h) (hR : ∀ g, Dj g F → sep B g → R (jn g F))
    (hret : ∀ v H', p v H' → TL P w0 F n ops Q l D ((d, v) :: L) (H' ++ B)) : TL P w0 F n ops Q (o :: l) D L H :=
  TL.call hw ho hd hn hf hx sp hp hR (fun _ h => h) (fun _ _ h => h.elim) hret
theorem TL.callP {f : FuncId} {xs : Array Operand} {ts : Array TypeId} {vs : List Value} {R : Hl → Prop} {A B : List HP} {p : Value → List HP → Prop} {q : List PanicEntry → List HP → Prop} (hw : Want n D ops o L)
    (ho : o.op = .call { callee := .value (.func f), args := xs, argTypes := ts }) (hd : o.dst = some d) (hn : Nat.blt d n = true) (hf : Named P f) (hx : evs L xs.toList = some vs)
    (sp : Does P f vs.toArray R A (RetP p q)) (hp : ∀ h, sep H h → sep (A ++ B) h) (hR : ∀ g, Dj g F → sep B g → R (jn g F))
    (hpan : ∀ c H', q c H' → TE w0 F n Q (.panic c) D L (H' ++ B))
    (hret : ∀ v H', p v H' → TL P w0 F n ops Q l D ((d, v) :: L) (H' ++ B)) : TL P w0 F n ops Q (o :: l) D L H :=
  TL.call hw ho hd hn hf hx sp hp hR (fun _ h => h) hpan hret
/-- What is to be known of what lies besides is known of it. -/
theorem ro_frame {b : Nat} {o : Obj} (e : F b = some o) {B : List HP} : ∀ g, Dj g F → sep B g → jn g F b = some o := fun _ d _ => Le.right d b o e
theorem ro_piece (i : Nat) {b : Nat} {o : Obj} {B : List HP} (hi : Nat.blt i B.length = true) (e : B.getD i (fun _ => True) = obj b o) : ∀ g, Dj g F → sep B g → jn g F b = some o := fun _ _ s => by
  obtain ⟨h1, h2, _, rfl, a, _⟩ := sep_get i (lb hi) s
  rw [e] at a
  exact jn_some (jn_some (by rw [a]; simp [sg]))
end
end Leg
