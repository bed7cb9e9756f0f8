/-
  My own layer, second part: frames as short lists, and one law for each form of the code.
-/
import Derived.Test.YtdekgkmbcdlekaaLegA
namespace Leg
open Go

/-! ### Frames -/

/-- What a slot is known to hold: the first entry counts. -/
def lk : List (Nat × Value) → Nat → Option Value
  | [], _ => none
  | (k, v) :: r, t => bif Nat.beq k t then some v else lk r t

def evL (L : List (Nat × Value)) : Operand → Option Value
  | .tmp t => lk L t
  | .const v => some v
  | .global g => some (.pointer (some ⟨g, 0, none⟩))
  | .func f => some (.func (.func f) #[] #[])

def Fr (n : Nat) (D : List Deferred) (L : List (Nat × Value)) (a : Act) : Prop :=
  a.tmps.size = n ∧ a.defers = D ∧ ∀ t v, lk L t = some v → a.tmps[t]? = some v

theorem Fr.eval {n : Nat} {D : List Deferred} {L : List (Nat × Value)} {a : Act} (h : Fr n D L a) {x : Operand} {v : Value} (e : evL L x = some v) : a.eval x = v := by
  cases x with
  | tmp t =>
    have := h.2.2 t v e
    show a.tmps.getD t undef = v
    rw [Array.getD_eq_getD_getElem?, this]; rfl
  | const u => exact Option.some.inj e
  | global g => exact Option.some.inj e
  | func f => exact Option.some.inj e

theorem Fr.put {n : Nat} {D : List Deferred} {L : List (Nat × Value)} {a : Act} (h : Fr n D L a) {d : Nat} (hd : d < n) (v : Value) : Fr n D ((d, v) :: L) (a.put (some d) v) := by
  obtain ⟨h1, h2, h3⟩ := h
  refine ⟨by simpa [Act.put] using h1, h2, fun t u e => ?_⟩
  show (a.tmps.setIfInBounds d v)[t]? = some u
  rw [Array.getElem?_setIfInBounds]
  by_cases k : d = t
  · subst k
    have e' : some v = some u := by simpa [lk] using e
    rw [if_pos rfl, if_pos (by omega), e']
  · have b : Nat.beq d t = false := by
      cases hb : Nat.beq d t
      · rfl
      · exact absurd (Nat.eq_of_beq_eq_true hb) k
    rw [if_neg k]
    exact h3 t u (by simpa [lk, b] using e)

/-- A frame is known by less. -/
def Sub (L L' : List (Nat × Value)) : Prop := ∀ t v, lk L' t = some v → lk L t = some v
theorem Sub.nil (L : List (Nat × Value)) : Sub L [] := fun _ _ e => by cases e
theorem Sub.cons {L L' : List (Nat × Value)} {t : Nat} {u v : Value} (e : lk L t = some u) (q : u = v) (s : Sub L L') : Sub L ((t, v) :: L') := fun k x h => by
  by_cases b : Nat.beq t k = true
  · have : v = x := by simpa [lk, b] using h
    have kt := Nat.eq_of_beq_eq_true b
    subst kt; subst this; subst q; exact e
  · exact s k x (by simpa [lk, b] using h)
theorem Sub.r {L L' : List (Nat × Value)} {t : Nat} {u : Value} (s : Sub L L') (e : lk L t = some u := by rfl) : Sub L ((t, u) :: L') := Sub.cons e rfl s
theorem Fr.sub {n : Nat} {D : List Deferred} {L L' : List (Nat × Value)} {a : Act} (h : Fr n D L a) (s : Sub L L') : Fr n D L' a :=
  ⟨h.1, h.2.1, fun t v e => h.2.2 t v (s t v e)⟩

/-! ### What is to be shown of code -/

abbrev QQ := Exit → Act → World → Prop

section
variable (P : Program) (w0 : World) (F : Hl) (n : Nat)

/-- The code leads to Q from every frame and world that are known so. -/
def TC (c : Code) (Q : QQ) (D : List Deferred) (L : List (Nat × Value)) (H : List HP) : Prop :=
  ∀ a w, Fr n D L a → Same w0 w → Sat H F w → c.wp P Q a w
/-- What is left of a list of operations does. -/
def TL (ops : Array Oper) (Q : QQ) (l : List Oper) (D : List Deferred) (L : List (Nat × Value)) (H : List HP) : Prop :=
  ∀ a w, Fr n D L a → Same w0 w → Sat H F w → wpList P ops Q l a w
/-- An exit does. -/
def TE (Q : QQ) (e : Exit) (D : List Deferred) (L : List (Nat × Value)) (H : List HP) : Prop :=
  ∀ a w, Fr n D L a → Same w0 w → Sat H F w → Q e a w
end

/-- Code that is laid aside. -/
def Hold (P : Program) (y : Code) (Q : QQ) (K : Act → World → Prop) : Prop := ∀ a w, y.wp P Q a w → K a w

section
variable {P : Program} {w0 : World} {F : Hl} {n : Nat} {ops : Array Oper} {Q : QQ} {D : List Deferred} {L : List (Nat × Value)} {H : List HP}

theorem TC.seq {x y : Code} (h : ∀ K, Hold P y Q K → TC P w0 F n x (Exit.then K Q) D L H) : TC P w0 F n (x.seq y) Q D L H :=
  fun a w f s m => wp_seq_k fun K hK => h K hK a w f s m
theorem TC.region {id : Nat} {l : List Oper} (h : TL P w0 F n l.toArray Q l D L H) : TC P w0 F n (.region id l.toArray false) Q D L H :=
  fun a w f s m => wp_region_lit (h a w f s m)
theorem TC.skip (h : TE w0 F n Q .normal D L H) : TC P w0 F n .skip Q D L H := fun a w f s m => wp_skip (h a w f s m)
theorem TC.exit {id : Nat} (h : TE w0 F n Q (.exit id) D L H) : TC P w0 F n (.exit id) Q D L H := fun a w f s m => wp_exit (h a w f s m)
theorem TC.ret (h : TE w0 F n Q .ret D L H) : TC P w0 F n .ret Q D L H := fun a w f s m => wp_ret (h a w f s m)
theorem TC.block {id : Nat} {c : Code} (h : TC P w0 F n c (Exit.inBlock id Q) D L H) : TC P w0 F n (.block id c) Q D L H := fun a w f s m => wp_block (h a w f s m)
theorem TC.yes {c : Operand} {x y : Code} (e : evL L c = some (.bool true)) (h : TC P w0 F n x Q D L H) : TC P w0 F n (.cond c x y) Q D L H :=
  fun a w f s m => wp_cond_true (f.eval e) (h a w f s m)
theorem TC.no {c : Operand} {x y : Code} (e : evL L c = some (.bool false)) (h : TC P w0 F n y Q D L H) : TC P w0 F n (.cond c x y) Q D L H :=
  fun a w f s m => wp_cond_false (f.eval e) (h a w f s m)
theorem TC.cond {c : Operand} {x y : Code} {b : Bool} (e : evL L c = some (.bool b)) (ht : b = true → TC P w0 F n x Q D L H) (hf : b = false → TC P w0 F n y Q D L H) : TC P w0 F n (.cond c x y) Q D L H :=
  fun a w f s m => wp_cond_split (f.eval e) (fun h => ht h a w f s m) (fun h => hf h a w f s m)
/-- A test that is told by a proposition. -/
theorem TC.condp {c : Operand} {x y : Code} {b : Bool} (p : Prop) (hp : b = true ↔ p) (e : evL L c = some (.bool b)) (ht : p → TC P w0 F n x Q D L H) (hf : ¬ p → TC P w0 F n y Q D L H) : TC P w0 F n (.cond c x y) Q D L H :=
  TC.cond e (fun h => ht (hp.1 h)) (fun h => hf fun q => by rw [hp.2 q] at h; cases h)

theorem TL.nil (h : TE w0 F n Q .normal D L H) : TL P w0 F n ops Q [] D L H := fun a w f s m => wpList_nil (h a w f s m)

theorem TE.next {y : Code} {K : Act → World → Prop} (hK : Hold P y Q K) (h : TC P w0 F n y Q D L H) : TE w0 F n (Exit.then K Q) .normal D L H :=
  fun a w f s m => hK a w (h a w f s m)
theorem TE.pass {K : Act → World → Prop} {id : Nat} (h : TE w0 F n Q (.exit id) D L H) : TE w0 F n (Exit.then K Q) (.exit id) D L H := h
theorem TE.passRet {K : Act → World → Prop} (h : TE w0 F n Q .ret D L H) : TE w0 F n (Exit.then K Q) .ret D L H := h
theorem TE.passPanic {K : Act → World → Prop} {c : List PanicEntry} (h : TE w0 F n Q (.panic c) D L H) : TE w0 F n (Exit.then K Q) (.panic c) D L H := h
theorem TE.hit {id : Nat} (h : TE w0 F n Q .normal D L H) : TE w0 F n (Exit.inBlock id Q) (.exit id) D L H := fun a w f s m => by
  show if id = id then _ else _
  rw [if_pos rfl]; exact h a w f s m
theorem TE.miss {id k : Nat} (e : k ≠ id) (h : TE w0 F n Q (.exit k) D L H) : TE w0 F n (Exit.inBlock id Q) (.exit k) D L H := fun a w f s m => by
  show if k = id then _ else _
  rw [if_neg e]; exact h a w f s m
theorem TE.blockEnd {id : Nat} (h : TE w0 F n Q .normal D L H) : TE w0 F n (Exit.inBlock id Q) .normal D L H := h
theorem TE.blockRet {id : Nat} (h : TE w0 F n Q .ret D L H) : TE w0 F n (Exit.inBlock id Q) .ret D L H := h
theorem TE.blockPanic {id : Nat} {c : List PanicEntry} (h : TE w0 F n Q (.panic c) D L H) : TE w0 F n (Exit.inBlock id Q) (.panic c) D L H := h

/-- Less is known; pieces are read otherwise. -/
theorem TC.weak {c : Code} {L' : List (Nat × Value)} {H' : List HP} (s : Sub L L') (m : ∀ h, sep H h → sep H' h) (h : TC P w0 F n c Q D L' H') : TC P w0 F n c Q D L H :=
  fun a w f s' m' => h a w (f.sub s) s' (m'.mono m)
theorem TE.weak {e : Exit} {L' : List (Nat × Value)} {H' : List HP} (s : Sub L L') (m : ∀ h, sep H h → sep H' h) (h : TE w0 F n Q e D L' H') : TE w0 F n Q e D L H :=
  fun a w f s' m' => h a w (f.sub s) s' (m'.mono m)
theorem TL.weak {l : List Oper} {L' : List (Nat × Value)} {H' : List HP} (s : Sub L L') (m : ∀ h, sep H h → sep H' h) (h : TL P w0 F n ops Q l D L' H') : TL P w0 F n ops Q l D L H :=
  fun a w f s' m' => h a w (f.sub s) s' (m'.mono m)
/-- Pieces that hide something are opened. -/
theorem TC.ex {c : Code} {α : Sort _} {H' : α → List HP} (m : ∀ h, sep H h → ∃ x, sep (H' x) h) (h : ∀ x, TC P w0 F n c Q D L (H' x)) : TC P w0 F n c Q D L H :=
  fun a w f s ⟨g, d, e, t⟩ => let ⟨x, t'⟩ := m g t; h x a w f s ⟨g, d, e, t'⟩
theorem TL.ex {l : List Oper} {α : Sort _} {H' : α → List HP} (m : ∀ h, sep H h → ∃ x, sep (H' x) h) (h : ∀ x, TL P w0 F n ops Q l D L (H' x)) : TL P w0 F n ops Q l D L H :=
  fun a w f s ⟨g, d, e, t⟩ => let ⟨x, t'⟩ := m g t; h x a w f s ⟨g, d, e, t'⟩
theorem TE.ex {e : Exit} {α : Sort _} {H' : α → List HP} (m : ∀ h, sep H h → ∃ x, sep (H' x) h) (h : ∀ x, TE w0 F n Q e D L (H' x)) : TE w0 F n Q e D L H :=
  fun a w f s ⟨g, d, e', t⟩ => let ⟨x, t'⟩ := m g t; h x a w f s ⟨g, d, e', t'⟩

/-- A loop: what is known at its head hangs on x; each round lowers the measure. -/
def Head {α : Type} (w0 : World) (F : Hl) (n : Nat) (D : List Deferred) (Inv : α → Prop) (Lf : α → List (Nat × Value)) (Hf : α → List HP) (x : α) (a : Act) (w : World) : Prop :=
  Inv x ∧ Fr n D (Lf x) a ∧ Same w0 w ∧ Sat (Hf x) F w
def Round {α : Type} (w0 : World) (F : Hl) (n : Nat) (D : List Deferred) (Inv : α → Prop) (Lf : α → List (Nat × Value)) (Hf : α → List HP) (μ : α → Nat) (m : Nat) (a : Act) (w : World) : Prop :=
  ∃ x, μ x < m ∧ Head w0 F n D Inv Lf Hf x a w
theorem TC.loop {α : Type} {c : Code} (Inv : α → Prop) (Lf : α → List (Nat × Value)) (Hf : α → List HP) (μ : α → Nat) (x0 : α)
    (hi : Inv x0) (hs : Sub L (Lf x0)) (hm : ∀ h, sep H h → sep (Hf x0) h)
    (body : ∀ x, Inv x → TC P w0 F n c (Exit.then (Round w0 F n D Inv Lf Hf μ (μ x)) Q) D (Lf x) (Hf x)) : TC P w0 F n (.loop c) Q D L H := by
  intro a w f s m
  refine wp_loop_ghost (fun k a w => ∃ x, μ x = k ∧ Head w0 F n D Inv Lf Hf x a w) (μ x0) ⟨x0, rfl, hi, f.sub hs, s, m.mono hm⟩ ?_
  rintro k a w ⟨x, rfl, hx, f, s, m⟩
  refine wp_mono (body x hx a w f s m) ?_
  intro e a' w' q
  cases e with
  | normal => obtain ⟨y, hy, r⟩ := q; exact ⟨μ y, hy, y, rfl, r⟩
  | exit id => exact q
  | goto l => exact q
  | ret => exact q
  | panic ch => exact q
  | outgrown => exact q
theorem TE.round {α : Type} {Inv : α → Prop} {Lf : α → List (Nat × Value)} {Hf : α → List HP} {μ : α → Nat} {m : Nat} (x : α)
    (hi : Inv x) (hμ : μ x < m) (hs : Sub L (Lf x)) (hm : ∀ h, sep H h → sep (Hf x) h) : TE w0 F n (Exit.then (Round w0 F n D Inv Lf Hf μ m) Q) .normal D L H :=
  fun _ _ f s t => ⟨x, hμ, hi, f.sub hs, s, t.mono hm⟩

/-! ### Calls -/

/-- What a call does: from the pieces H (and knowing R of what lies besides) to an ending and pieces of which 'post' is known. -/
def Does (P : Program) (f : FuncId) (args : Array Value) (R : Hl → Prop) (H : List HP) (post : Ending → List HP → Prop) : Prop :=
  ∀ w F, R F → Sat H F w → Calls P f args w fun e w' => Same w w' ∧ ∃ H', Sat H' F w' ∧ post e H'

theorem Does.mono {f : FuncId} {args : Array Value} {R : Hl → Prop} {H : List HP} {post post' : Ending → List HP → Prop} (s : Does P f args R H post) (h : ∀ e H, post e H → post' e H) : Does P f args R H post' :=
  fun w F r m => (s w F r m).mono fun _ _ ⟨a, H', b, c⟩ => ⟨a, H', b, h _ _ c⟩

def postOf (post : Ending → List HP → Prop) (w0 : World) (F : Hl) (e : Ending) (w' : World) : Prop := Same w0 w' ∧ ∃ H', Sat H' F w' ∧ post e H'

theorem getElem?_args (args : Array Value) (m t : Nat) (v : Value) (h : args[t]? = some v) : (args ++ Array.replicate m undef)[t]? = some v := by
  rw [Array.getElem?_append]
  have := (Array.getElem?_eq_some_iff.1 h).1
  rw [if_pos this]; exact h

/-- A body's frame at its beginning. -/
def frame0 : Nat → List Value → List (Nat × Value)
  | _, [] => []
  | i, v :: vs => (i, v) :: frame0 (i + 1) vs
theorem lk_frame0 : ∀ (vs : List Value) (i t : Nat) (v : Value), lk (frame0 i vs) t = some v → i ≤ t ∧ vs[t - i]? = some v
  | [], _, _, _, h => by cases h
  | u :: us, i, t, v, h => by
    by_cases b : Nat.beq i t = true
    · have := Nat.eq_of_beq_eq_true b
      subst this
      have e : u = v := by simpa [frame0, lk, b] using h
      simp [e]
    · have h' : lk (frame0 (i + 1) us) t = some v := by simpa [frame0, lk, b] using h
      obtain ⟨h1, h2⟩ := lk_frame0 us (i + 1) t v h'
      refine ⟨by omega, ?_⟩
      rw [show t - i = (t - (i + 1)) + 1 by omega]
      simpa using h2

theorem Does.body {f : FuncId} {fn : Func} {c : Code} {vs : List Value} {R : Hl → Prop} {H : List HP} {post : Ending → List HP → Prop}
    (hf : P.funcs[f]? = some fn) (hb : fn.body = some c) (hm : fn.ntmps = n) (hl : Nat.ble vs.length n = true)
    (h : ∀ w0 F, R F → TC P w0 F n c (bodyPost P fn (postOf post w0 F)) [] (frame0 0 vs) H) : Does P f vs.toArray R H post := by
  intro w F r m
  subst hm
  have hn : vs.length ≤ fn.ntmps := Nat.le_of_ble_eq_true hl
  refine calls_of_wp hf hb (h w F r _ w ⟨?_, rfl, fun t v e => ?_⟩ (Same.refl w) m)
  · simp; omega
  · obtain ⟨_, h2⟩ := lk_frame0 vs 0 t v e
    exact getElem?_args _ _ _ _ (by simpa using h2)

theorem TE.ret1 {fn : Func} {post : Ending → List HP → Prop} {t : Nat} {v : Value} (hr : fn.results = #[.tmp t]) (e : lk L t = some v) (h : post (.returned v) H) :
    TE w0 F n (bodyPost P fn (postOf post w0 F)) .ret [] L H := fun a w f s m => by
  refine bodyPost_ret (results_tmp hr _ _ _) f.2.1 ⟨s, H, m, ?_⟩
  have := f.eval (x := .tmp t) e
  rw [show a.tmps.getD t undef = v from this]; exact h
theorem TE.ret2 {fn : Func} {post : Ending → List HP → Prop} {t t' : Nat} {v v' : Value} (hr : fn.results = #[.tmp t, .tmp t']) (e : lk L t = some v) (e' : lk L t' = some v') (h : post (.returned (.tuple #[v, v'])) H) :
    TE w0 F n (bodyPost P fn (postOf post w0 F)) .ret [] L H := fun a w f s m => by
  refine bodyPost_ret (results_tmp2 hr _ _ _) f.2.1 ⟨s, H, m, ?_⟩
  have h1 := f.eval (x := .tmp t) e
  have h2 := f.eval (x := .tmp t') e'
  rw [show a.tmps.getD t undef = v from h1, show a.tmps.getD t' undef = v' from h2]; exact h
theorem TE.ret0 {fn : Func} {post : Ending → List HP → Prop} (hr : fn.results = #[]) (h : post (.returned (.tuple #[])) H) :
    TE w0 F n (bodyPost P fn (postOf post w0 F)) .ret [] L H := fun _ _ f s m => bodyPost_ret (results_none hr _ _ _) f.2.1 ⟨s, H, m, h⟩
theorem TE.end0 {fn : Func} {post : Ending → List HP → Prop} (hr : fn.results = #[]) (h : post (.returned (.tuple #[])) H) :
    TE w0 F n (bodyPost P fn (postOf post w0 F)) .normal [] L H := fun _ _ f s m => bodyPost_end (results_none hr _ _ _) f.2.1 ⟨s, H, m, h⟩
theorem TE.panicked {fn : Func} {post : Ending → List HP → Prop} {c : List PanicEntry} (h : post (.panicked c) H) :
    TE w0 F n (bodyPost P fn (postOf post w0 F)) (.panic c) [] L H := fun _ _ f s m => ⟨f.2.1, s, H, m, h⟩

/-! ### Operations -/

/-- The operation is wanted. -/
def Want (n : Nat) (D : List Deferred) (ops : Array Oper) (o : Oper) (L : List (Nat × Value)) : Prop := ∀ a, Fr n D L a → Region.wanted o (yielded ops a.tmps) = true
theorem Want.plain {o : Oper} (h : o.guard = none) : Want n D ops o L := fun _ _ => by simp [Region.wanted, h]
theorem Want.met {o : Oper} {j d : Nat} {b : Bool} (h : o.guard = some (j, b)) (hd : (ops[j]?).bind (·.dst) = some d) (e : lk L d = some (.bool b)) : Want n D ops o L := fun a f => by
  simp [Region.wanted, h, yielded, hd, f.2.2 d _ e]

theorem TL.step {o : Oper} {l : List Oper} (hw : Want n D ops o L) (h : ∀ a w, Fr n D L a → Same w0 w → Sat H F w → o.wp P a w (wpList P ops Q l) Q) : TL P w0 F n ops Q (o :: l) D L H := fun a w f s m => by
  unfold wpList
  rw [if_pos (hw a f)]
  exact .inl (h a w f s m)
theorem TL.unmet {o : Oper} {l : List Oper} {j d : Nat} {b : Bool} (hg : o.guard = some (j, !b)) (hd : (ops[j]?).bind (·.dst) = some d) (e : lk L d = some (.bool b)) {d' : Nat} (ho : o.dst = some d') (hn : d' < n)
    (h : TL P w0 F n ops Q l D ((d', undef) :: L) H) : TL P w0 F n ops Q (o :: l) D L H := fun a w f s m => by
  unfold wpList
  have : Region.wanted o (yielded ops a.tmps) = false := by
    simp [Region.wanted, hg, yielded, hd, f.2.2 d _ e]
  rw [this, ho]
  simpa using h _ w (f.put hn undef) s m
theorem TL.unmetU {o : Oper} {l : List Oper} {j d : Nat} {b : Bool} (hg : o.guard = some (j, b)) (hd : (ops[j]?).bind (·.dst) = some d) (e : lk L d = some undef) {d' : Nat} (ho : o.dst = some d') (hn : d' < n)
    (h : TL P w0 F n ops Q l D ((d', undef) :: L) H) : TL P w0 F n ops Q (o :: l) D L H := fun a w f s m => by
  unfold wpList
  have : Region.wanted o (yielded ops a.tmps) = false := by
    simp [Region.wanted, hg, yielded, hd, f.2.2 d _ e, undef]
  rw [this, ho]
  simpa using h _ w (f.put hn undef) s m
theorem TL.unmetU0 {o : Oper} {l : List Oper} {j d : Nat} {b : Bool} (hg : o.guard = some (j, b)) (hd : (ops[j]?).bind (·.dst) = some d) (e : lk L d = some undef) (ho : o.dst = none)
    (h : TL P w0 F n ops Q l D L H) : TL P w0 F n ops Q (o :: l) D L H := fun a w f s m => by
  unfold wpList
  have : Region.wanted o (yielded ops a.tmps) = false := by
    simp [Region.wanted, hg, yielded, hd, f.2.2 d _ e, undef]
  rw [this, ho]
  simpa [Act.put] using h _ w f s m
theorem TL.unmet0 {o : Oper} {l : List Oper} {j d : Nat} {b : Bool} (hg : o.guard = some (j, !b)) (hd : (ops[j]?).bind (·.dst) = some d) (e : lk L d = some (.bool b)) (ho : o.dst = none)
    (h : TL P w0 F n ops Q l D L H) : TL P w0 F n ops Q (o :: l) D L H := fun a w f s m => by
  unfold wpList
  have : Region.wanted o (yielded ops a.tmps) = false := by
    simp [Region.wanted, hg, yielded, hd, f.2.2 d _ e]
  rw [this, ho]
  simpa [Act.put] using h _ w f s m

/-- An operation that yields a value; the world may turn. -/
theorem TL.valw {o : Oper} {l : List Oper} {d : Nat} {v : Value} {H' : List HP} (hw : Want n D ops o L) (hd : o.dst = some d) (hn : d < n)
    (hr : ∀ a w, Fr n D L a → Same w0 w → Sat H F w → ∃ w', (execOp a.eval o).run P w = .ok (.value v) w' ∧ Same w w' ∧ Sat H' F w')
    (h : TL P w0 F n ops Q l D ((d, v) :: L) H') : TL P w0 F n ops Q (o :: l) D L H :=
  TL.step hw fun a w f s m => by
    obtain ⟨w', r, s', m'⟩ := hr a w f s m
    unfold Oper.wp
    rw [r, Oper.upon_value, hd]
    exact h _ w' (f.put hn v) (s.trans s') m'
/-- An operation that yields a value of the frame and the pieces alone. -/
theorem TL.val {o : Oper} {l : List Oper} {d : Nat} {v : Value} (hw : Want n D ops o L) (hd : o.dst = some d) (hn : d < n)
    (hr : ∀ a w, Fr n D L a → Sat H F w → (execOp a.eval o).run P w = .ok (.value v) w)
    (h : TL P w0 F n ops Q l D ((d, v) :: L) H) : TL P w0 F n ops Q (o :: l) D L H :=
  TL.valw hw hd hn (fun a w f _ m => ⟨w, hr a w f m, Same.refl w, m⟩) h
/-- An operation that yields nothing. -/
theorem TL.eff {o : Oper} {l : List Oper} {H' : List HP} (hw : Want n D ops o L) (hd : o.dst = none)
    (hr : ∀ a w, Fr n D L a → Same w0 w → Sat H F w → ∃ w', (execOp a.eval o).run P w = .ok .skip w' ∧ Same w w' ∧ Sat H' F w')
    (h : TL P w0 F n ops Q l D L H') : TL P w0 F n ops Q (o :: l) D L H :=
  TL.step hw fun a w f s m => by
    obtain ⟨w', r, s', m'⟩ := hr a w f s m
    unfold Oper.wp
    rw [r, Oper.upon_skip, hd]
    exact h _ w' f (s.trans s') m'
/-- An operation that panics. -/
theorem TL.panic {o : Oper} {l : List Oper} {v : Value} {H' : List HP} (hw : Want n D ops o L)
    (hr : ∀ a w, Fr n D L a → Same w0 w → Sat H F w → ∃ w', (execOp a.eval o).run P w = .halt (.panic v) w' ∧ Same w w' ∧ Sat H' F w')
    (h : TE w0 F n Q (.panic [{ v, recovered := false }]) D L H') : TL P w0 F n ops Q (o :: l) D L H :=
  TL.step hw fun a w f s m => by
    obtain ⟨w', r, s', m'⟩ := hr a w f s m
    unfold Oper.wp
    rw [r, Oper.upon_panic]
    exact h a w' f (s.trans s') m'
/-- A call. 'A': the pieces that it takes; 'B': those that stay. -/
theorem TL.callw {o : Oper} {l : List Oper} {f : FuncId} {args : Array Value} {R : Hl → Prop} {A B : List HP} {post : Ending → List HP → Prop} (hw : Want n D ops o L)
    (hr : ∀ a w, Fr n D L a → (execOp a.eval o).run P w = .ok (.enter f args) w)
    (sp : Does P f args R A post) (hp : ∀ h, sep H h → sep (A ++ B) h) (hR : ∀ g, Dj g F → sep B g → R (jn g F))
    (hret : ∀ v H', post (.returned v) H' → ∀ a, Fr n D L a → ∀ w, Same w0 w → Sat (H' ++ B) F w → wpList P ops Q l (a.put o.dst v) w)
    (hpan : ∀ c H', post (.panicked c) H' → TE w0 F n Q (.panic c) D L (H' ++ B))
    (hout : ∀ H', ¬ post .outgrown H') : TL P w0 F n ops Q (o :: l) D L H :=
  TL.step hw fun a w fr s m => by
    unfold Oper.wp
    rw [hr a w fr, Oper.upon_enter]
    obtain ⟨g, d, b, m'⟩ := Sat.split (m.mono hp)
    refine (sp w _ (hR g d b) m').mono ?_
    rintro e w' ⟨s', H', m'', q⟩
    cases e with
    | returned v => exact hret v H' q a fr w' (s.trans s') (m''.merge d b)
    | panicked c => exact hpan c H' q a w' fr (s.trans s') (m''.merge d b)
    | outgrown => exact (hout H' q).elim
end

end Leg
