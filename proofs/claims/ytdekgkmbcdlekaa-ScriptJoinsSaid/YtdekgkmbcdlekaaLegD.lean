/-
  My own layer, fourth part: a region whose order Go leaves open.
-/
import Derived.Test.YtdekgkmbcdlekaaLegC
import Derived.LoopN
namespace Leg
open Go

section
variable {P : Program} {w0 : World} {F : Hl} {n : Nat} {ops : Array Oper} {Q : QQ} {D : List Deferred} {L : List (Nat × Value)} {H : List HP} {S : World → Prop}

/-- What is left of the region leads to Q, in whatever order; S holds all along. -/
def TD (P : Program) (w0 : World) (F : Hl) (n : Nat) (ops : Array Oper) (Q : QQ) (S : World → Prop) (fuel : Nat) (listed : Array Bool) (D : List Deferred) (L : List (Nat × Value)) (H : List HP) : Prop :=
  ∀ a w, Fr n D L a → Same w0 w → Sat H F w → S w → wpAnyH P .any ops Q S fuel listed a w

theorem TC.draw {id m : Nat} {l : List Oper} (S : World → Prop) (hm : P.follows .mixedOrders = true) (hl : l.toArray.size = m) (hS : ∀ w, Sat H F w → S w)
    (h : TD P w0 F n l.toArray Q S m (Array.replicate m false) D L H) : TC P w0 F n (.region id l.toArray true) Q D L H := fun a w f s t => by
  subst hl
  exact wp_region_held hm (h a w.drew f (s.trans ⟨rfl, rfl, rfl, Nat.le_refl _⟩) t.drew (hS _ t.drew))
theorem TD.take {i d fuel : Nat} {listed : Array Bool} {o : Oper} {v : Value} (hi : ops[i]? = some o) (hs : Region.noSelect ops = true) (hf : Region.free .any ops listed i = true) (hr : (Region.ready .any ops listed).contains i = true)
    (hQ : ∀ c a v w, Q (.panic c) (a.put o.dst v) w → Q (.panic c) a w) (hw : Want n D ops o L) (hd : o.dst = some d) (hn : Nat.blt d n = true) (h1 : PV P n D L S o v)
    (h : TD P w0 F n ops Q S fuel (listed.setIfInBounds i true) D ((d, v) :: L) H) : TD P w0 F n ops Q S (fuel + 1) listed D L H := fun a w f s t hS => by
  refine wpAnyH_take (v := v) hi hs hf hr (fun c a w => hQ c a v w) (.inl ⟨hw a f, fun w' q => h1 a w' f q⟩) hS ?_
  rw [hd]
  exact h _ w (f.put (lb hn) v) s t hS
/-- An operation whose guard says no. -/
theorem TD.takeNot {i d fuel j e : Nat} {b : Bool} {listed : Array Bool} {o : Oper} (hi : ops[i]? = some o) (hs : Region.noSelect ops = true) (hf : Region.free .any ops listed i = true) (hr : (Region.ready .any ops listed).contains i = true)
    (hQ : ∀ c a v w, Q (.panic c) (a.put o.dst v) w → Q (.panic c) a w) (hg : o.guard = some (j, !b)) (hj : (ops[j]?).bind (·.dst) = some e) (he : lk L e = some (.bool b)) (hd : o.dst = some d) (hn : Nat.blt d n = true)
    (h : TD P w0 F n ops Q S fuel (listed.setIfInBounds i true) D ((d, undef) :: L) H) : TD P w0 F n ops Q S (fuel + 1) listed D L H := fun a w f s t hS => by
  refine wpAnyH_take (v := undef) hi hs hf hr (fun c a w => hQ c a undef w) (.inr ⟨?_, rfl⟩) hS ?_
  · simp [Region.wanted, hg, yielded, hj, f.2.2 e _ he]
  rw [hd]
  exact h _ w (f.put (lb hn) _) s t hS
theorem TD.done {fuel : Nat} {listed : Array Bool} (hr : Region.ready .any ops listed = []) (h : TE w0 F n Q .normal D L H) : TD P w0 F n ops Q S fuel listed D L H :=
  fun a w f s t _ => wpAnyH_done hr (h a w f s t) fuel

theorem TD.dec {fuel d : Nat} {listed : Array Bool} {p : Prop} [Decidable p] (ht : p → TD P w0 F n ops Q S fuel listed D ((d, .bool true) :: L) H) (hf : ¬ p → TD P w0 F n ops Q S fuel listed D ((d, .bool false) :: L) H) : TD P w0 F n ops Q S fuel listed D ((d, .bool (decide p)) :: L) H := by
  by_cases q : p
  · rw [decide_eq_true q]; exact ht q
  · rw [decide_eq_false q]; exact hf q
theorem TD.decB {fuel d : Nat} {listed : Array Bool} {b : Bool} (ht : b = true → TD P w0 F n ops Q S fuel listed D ((d, .bool true) :: L) H) (hf : b = false → TD P w0 F n ops Q S fuel listed D ((d, .bool false) :: L) H) : TD P w0 F n ops Q S fuel listed D ((d, .bool b) :: L) H := by
  cases b
  · exact hf rfl
  · exact ht rfl

/-- What follows behind an operation of the region. -/
def Kd (P : Program) (ops : Array Oper) (Q : QQ) (S : World → Prop) (fuel : Nat) (listed : Array Bool) (i : Nat) : Act → World → Prop :=
  fun a' w' => S w' ∧ wpAnyH P .any ops Q S fuel (listed.setIfInBounds i true) a' w'

theorem wpOp_of_list {i : Nat} {o : Oper} {K : Act → World → Prop} {a : Act} {w : World} (hi : ops[i]? = some o) (h : wpList P ops (Exit.then K Q) [o] a w) : wpOp P ops Q i K a w := by
  unfold wpOp
  simp only [hi]
  unfold wpList at h
  split
  · rename_i hw
    rw [if_pos hw] at h
    refine h.imp (fun x => ?_) id
    unfold Oper.wp at x ⊢
    generalize (execOp a.eval o).run P w = r at x
    cases r with
    | ok nx w' => cases nx <;> first | exact x | (refine Calls.mono x fun e w'' he => ?_; cases e <;> exact he)
    | halt ht w' => cases ht <;> exact x
  · rename_i hw
    rw [if_neg hw] at h
    exact h

/-- Each of these may come up next. -/
def AllT (P : Program) (w0 : World) (F : Hl) (n : Nat) (ops : Array Oper) (Q : QQ) (S : World → Prop) (fuel : Nat) (listed : Array Bool) (D : List Deferred) (L : List (Nat × Value)) (H : List HP) (rs : List Nat) : Prop :=
  ∀ i ∈ rs, ∃ o, ops[i]? = some o ∧ TL P w0 F n ops (Exit.then (Kd P ops Q S fuel listed i) Q) [o] D L H
theorem AllT.nil {fuel : Nat} {listed : Array Bool} : AllT P w0 F n ops Q S fuel listed D L H [] := fun _ h => by cases h
theorem AllT.cons {fuel : Nat} {listed : Array Bool} {i : Nat} {rs : List Nat} {o : Oper} (hi : ops[i]? = some o) (h : TL P w0 F n ops (Exit.then (Kd P ops Q S fuel listed i) Q) [o] D L H) (r : AllT P w0 F n ops Q S fuel listed D L H rs) :
    AllT P w0 F n ops Q S fuel listed D L H (i :: rs) := fun j hj => by
  rcases List.mem_cons.1 hj with rfl | hj
  · exact ⟨o, hi, h⟩
  · exact r j hj
theorem TD.all {fuel : Nat} {listed : Array Bool} (rs : List Nat) (hr : Region.ready .any ops listed = rs) (hne : rs.isEmpty = false) (h : AllT P w0 F n ops Q S fuel listed D L H rs) : TD P w0 F n ops Q S (fuel + 1) listed D L H :=
  fun a w f s t _ => wpAnyH_all hr (by intro q; rw [q] at hne; cases hne) fun i hi => by
    obtain ⟨o, ho, g⟩ := h i hi
    exact wpOp_of_list ho (g a w f s t)
/-- Behind it. -/
theorem TE.draw {fuel i : Nat} {listed : Array Bool} (hS : ∀ w, Sat H F w → S w) (h : TD P w0 F n ops Q S fuel (listed.setIfInBounds i true) D L H) : TE w0 F n (Exit.then (Kd P ops Q S fuel listed i) Q) .normal D L H :=
  fun a w f s t => ⟨hS w t, h a w f s t (hS w t)⟩

/-! ### Loops that go round a known number of times -/
theorem TC.unroll {c : Code} (m : Nat) (h : TC P w0 F n c (Exit.then (Code.rounds P c Q m) Q) D L H) : TC P w0 F n (.loop c) Q D L H :=
  fun a w f s t => wp_loop_rounds (m + 1) (h a w f s t)
theorem TE.again {c : Code} {m : Nat} (h : TC P w0 F n c (Exit.then (Code.rounds P c Q m) Q) D L H) : TE w0 F n (Exit.then (Code.rounds P c Q (m + 1)) Q) .normal D L H :=
  fun a w f s t => h a w f s t

/-! ### Results that lie in memory -/
theorem TE.retC {H' : List HP} {fn : Func} {post : Ending → List HP → Prop} {t ty e m b : Nat} {cs : List Value} {z : Nat × Nat} {dt : TypeDesc} (hr : fn.results = #[.cell t ty]) (he : lk L t = some (.pointer (some ⟨b, 0, none⟩)))
    (hu : P.underlying ty = some dt) (hp : plainT dt = false) (hm : (P.info? ty).map (·.size) = some m) (hR : Rd (Sat H F) b (.cells cs.toArray e z)) (hl : cs.length = m) (hk : ∀ h, sep H h → sep H' h)
    (h : post (.returned (.agg cs.toArray)) H') : TE w0 F n (bodyPost P fn (postOf post w0 F)) .ret [] L H := fun a w f s q => by
  refine bodyPost_ret (results_cell_row hr a.tmps w b e cs.toArray z dt (by have := f.eval (x := .tmp t) he; exact this) (hR w q) hu (by cases dt <;> simp [plainT] at hp ⊢) (by simp [hm, hl])) f.2.1 ⟨s, H', q.mono hk, h⟩
theorem TE.retC1 {H' : List HP} {fn : Func} {post : Ending → List HP → Prop} {t ty e b : Nat} {cs : List Value} {z : Nat × Nat} {dt : TypeDesc} {v : Value} (hr : fn.results = #[.cell t ty]) (he : lk L t = some (.pointer (some ⟨b, 0, none⟩)))
    (hu : P.underlying ty = some dt) (hp : plainT dt = true) (hR : Rd (Sat H F) b (.cells cs.toArray e z)) (hc : cs[0]? = some v) (hk : ∀ h, sep H h → sep H' h)
    (h : post (.returned v) H') : TE w0 F n (bodyPost P fn (postOf post w0 F)) .ret [] L H := fun a w f s q => by
  have h1 : a.tmps.getD t undef = .pointer (some ⟨b, 0, none⟩) := f.eval (x := .tmp t) he
  have h2 : (results fn a.tmps).run P w = .ok v w := by
    have h1' : a.tmps[t]?.getD undef = .pointer (some ⟨b, 0, none⟩) := by simpa using h1
    have hc' : w.cell? ⟨b, 0, none⟩ = some v := by rw [cell_ofL (hR w q)]; exact hc
    simp [results, hr, h1', asAddr, loadVar, run_isAggL hu, hp, load, Sem.run, hc']
  exact bodyPost_ret h2 f.2.1 ⟨s, H', q.mono hk, h⟩

/-- Contracts, otherwise told. -/
theorem Does.of {f : FuncId} {args : Array Value} {R : Hl → Prop} {A : List HP} {post : Ending → List HP → Prop} (h : ∀ F, R F → ∃ R' : Hl → Prop, R' F ∧ Does P f args R' A post) : Does P f args R A post :=
  fun w F r m => let ⟨_, r', d⟩ := h F r; d w F r' m
theorem IsMono {R : Hl → Prop} (hR : ∀ F g, R F → Dj g F → R (jn g F)) {G : Hl} (h : R G) {B : List HP} : ∀ g, Dj g G → sep B g → R (jn g G) := fun g d _ => hR G g h d

/-- The conditions that a region's S is made of. -/
theorem Rd.left {b : Nat} {o : Obj} {S' : World → Prop} : Rd (fun w => w.heap[b]? = some o ∧ S' w) b o := fun _ h => h.1
theorem Rd.right {b : Nat} {o : Obj} {T S' : World → Prop} (h : Rd S' b o) : Rd (fun w => T w ∧ S' w) b o := fun _ k => h _ k.2
end
end Leg
