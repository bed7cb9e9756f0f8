/-
  My own layer, sixth part: deferred calls, recover, calls of function values, interface values.
-/
import Derived.Test.YtdekgkmbcdlekaaLegE
import Derived.Recover
namespace Leg
open Go

section
variable {P : Program} {w0 : World} {F : Hl} {n : Nat} {ops : Array Oper} {Q : QQ} {D : List Deferred} {L : List (Nat × Value)} {H : List HP} {o : Oper} {l : List Oper} {d : Nat} {S : World → Prop}

/-- What a deferred call does, to memory and to the way in which its caller is leaving. -/
def DoesD (P : Program) (f : FuncId) (args : Array Value) (u : FrameMode) (R : Hl → Prop) (H : List HP) (post : Ending → FrameMode → List HP → Prop) : Prop :=
  ∀ w F, R F → Sat H F w → CallsD P f args u w fun e u' w' => Same w w' ∧ ∃ H', Sat H' F w' ∧ post e u' H'
def postS (P : Program) (fn : Func) (c0 : Frame) (cs : List Frame) (post : Ending → FrameMode → List HP → Prop) (w0 : World) (F : Hl) (u' : FrameMode) : QQ := fun e a w =>
  bodyPostS P fn c0 cs (fun e u w' => Same w0 w' ∧ ∃ H', Sat H' F w' ∧ post e u H') e a ({ c0 with mode := u' } :: cs) w

/-- A deferred function whose first statement asks what was thrown. -/
theorem DoesD.recover2 {f : FuncId} {fn : Func} {id d0 d1 : Nat} {o0 o1 : Oper} {rest : Code} {vs : List Value} {u u' : FrameMode} {rv : Value} {R : Hl → Prop} {post : Ending → FrameMode → List HP → Prop}
    (hf : P.funcs[f]? = some fn) (hb : fn.body = some (.seq (.region id #[o0, o1] false) rest)) (hm : fn.ntmps = n) (hl : Nat.ble vs.length n = true)
    (h0 : o0.op = .call { callee := .builtin .recover, args := #[], argTypes := #[] }) (hg0 : o0.guard = none) (hd0 : o0.dst = some d0) (hn0 : Nat.blt d0 n = true)
    (h1 : o1.op = .assign (.tmp d0)) (hg1 : o1.guard = none) (hd1 : o1.dst = some d1) (hn1 : Nat.blt d1 n = true)
    (hrec : ∀ (c0 : Frame) (cs : List Frame), c0.mode = u → (match recoverD (c0 :: cs) with | some (v, cs') => (v, cs') | none => (Value.nilIface, c0 :: cs)) = (rv, { c0 with mode := u' } :: cs))
    (h : ∀ w0 F c0 cs, R F → TC P w0 F n rest (postS P fn c0 cs post w0 F u') [] ((d1, rv) :: (d0, rv) :: frame0 0 vs) H) : DoesD P f vs.toArray u R H post := by
  intro w F r m
  refine callsD_of_wpS hf hb fun c0 cs hu => ?_
  refine wpS_seq ?_
  refine wpS_region ?_
  subst hm
  have hn : vs.length ≤ fn.ntmps := Nat.le_of_ble_eq_true hl
  have fr : Fr fn.ntmps [] (frame0 0 vs) { tmps := vs.toArray ++ Array.replicate (fn.ntmps - vs.toArray.size) undef, defers := [] } := ⟨by simp; omega, rfl, fun t v e => by
    obtain ⟨_, h2⟩ := lk_frame0 vs 0 t v e
    exact getElem?_args _ _ _ _ (by simpa using h2)⟩
  generalize hA : ({ tmps := vs.toArray ++ Array.replicate (fn.ntmps - vs.toArray.size) undef, defers := [] } : Act) = A at fr ⊢
  have hr := hrec c0 cs hu
  have e0 : (execOp A.eval o0).run P w = .ok .recover w := by simp [execOp, h0, resolve, invoke, builtin]
  have main : (fun (a : Act) (cs' : List Frame) => wpOpsS P #[o0, o1] (Exit.thenS (rest.wpS P (bodyPostS P fn c0 cs fun e u w' => Same w w' ∧ ∃ H', Sat H' F w' ∧ post e u H')) (bodyPostS P fn c0 cs fun e u w' => Same w w' ∧ ∃ H', Sat H' F w' ∧ post e u H')) [1] a cs' w) (A.put (some d0) rv) ({ c0 with mode := u' } :: cs) := by
    have f1 := fr.put (lb hn0) rv
    have e1 : (execOp (A.put (some d0) rv).eval o1).run P w = .ok (.value rv) w := by
      have := f1.eval (x := .tmp d0) (v := rv) (by simp [evL, lk])
      simp [execOp, h1, this]
    simp only [wpOpsS, show (#[o0, o1] : Array Oper)[1]? = some o1 from rfl]
    rw [if_pos (by simp [Region.wanted, hg1])]
    rw [e1]
    simp only [Oper.upon, hd1]
    exact wpS_of_wp (h w F c0 cs r _ w (f1.put (lb hn1) rv) (Same.refl w) m)
  show wpOpsS P #[o0, o1] _ [0, 1] A (c0 :: cs) w
  rw [wpOpsS]
  simp only [show (#[o0, o1] : Array Oper)[0]? = some o0 from rfl]
  rw [if_pos (by simp [Region.wanted, hg0])]
  rw [e0]
  simp only [hd0]
  split at hr
  · rename_i v cs' hh
    simp only [hh]
    cases hr
    exact main
  · rename_i hh
    simp only [hh]
    injection hr with hr1 hr2
    subst hr1
    rw [hr2]
    exact main
theorem TE.retS0 {fn : Func} {c0 : Frame} {cs : List Frame} {post : Ending → FrameMode → List HP → Prop} {u' : FrameMode} (hr : fn.results = #[]) (h : post (.returned (.tuple #[])) u' H) : TE w0 F n (postS P fn c0 cs post w0 F u') .ret [] L H :=
  fun a w f s m => ⟨f.2.1, u', rfl, _, results_none hr _ _ _, s, H, m, h⟩
theorem TE.endS0 {fn : Func} {c0 : Frame} {cs : List Frame} {post : Ending → FrameMode → List HP → Prop} {u' : FrameMode} (hr : fn.results = #[]) (h : post (.returned (.tuple #[])) u' H) : TE w0 F n (postS P fn c0 cs post w0 F u') .normal [] L H :=
  fun a w f s m => ⟨f.2.1, u', rfl, _, results_none hr _ _ _, s, H, m, h⟩

theorem TL.deferFn {x : Operand} {fv : Fn} {cap : Array Value} (hw : Want n D ops o L) (ho : o.op = .defer { callee := .value x, args := #[], argTypes := #[] }) (hd : o.dst = none) (hx : evL L x = some (.func fv #[] cap))
    (h : TL P w0 F n ops Q l ({ target := .fn fv cap, args := #[] } :: D) L H) : TL P w0 F n ops Q (o :: l) D L H :=
  TL.step hw fun a w f s m => by
    unfold Oper.wp
    have r : (execOp a.eval o).run P w = .ok (.defer { target := .fn fv cap, args := #[] }) w := by simp [execOp, ho, resolve, f.eval hx, Deferred.ofValue]
    rw [r, Oper.upon_defer, hd]
    exact h _ w ⟨f.1, by simp [Act.put, f.2.1], f.2.2⟩ s m

/-- A body with deferred calls. -/
theorem Does.bodyD {f : FuncId} {fn : Func} {c : Code} {vs : List Value} {R : Hl → Prop} {post : Ending → List HP → Prop}
    (hf : P.funcs[f]? = some fn) (hb : fn.body = some c) (hm : fn.ntmps = n) (hl : Nat.ble vs.length n = true)
    (h : ∀ w0 F, R F → TC P w0 F n c (bodyPostD P fn (postOf post w0 F)) [] (frame0 0 vs) H) : Does P f vs.toArray R H post := by
  intro w F r m
  subst hm
  have hn : vs.length ≤ fn.ntmps := Nat.le_of_ble_eq_true hl
  refine calls_of_wp_defers hf hb (h w F r _ w ⟨?_, rfl, fun t v e => ?_⟩ (Same.refl w) m)
  · simp; omega
  · obtain ⟨_, h2⟩ := lk_frame0 vs 0 t v e
    exact getElem?_args _ _ _ _ (by simpa using h2)

/-- One deferred call is left; behind it the function hands back a cell. -/
theorem leaves_one {fn : Func} {post : Ending → List HP → Prop} {f : FuncId} {cap : Array Value} {u : FrameMode} {R : Hl → Prop} {A B H' : List HP} {p : List HP → Prop} {t ty b e : Nat} {dt : TypeDesc} {a : Act} {w : World}
    (fr : Fr n [{ target := .fn (.func f) cap, args := #[] }] L a) (sm : Same w0 w) (m : Sat H F w) (hu : u ≠ .run) (hf : Named P f)
    (sp : DoesD P f cap u R A (fun e u' H => e = .returned (.tuple #[]) ∧ settle u' = .returning ∧ p H)) (hp : ∀ h, sep H h → sep (A ++ B) h) (hR : ∀ g, Dj g F → sep B g → R (jn g F))
    (hr : fn.results = #[.cell t ty]) (he : lk L t = some (.pointer (some ⟨b, 0, none⟩))) (ht : P.underlying ty = some dt) (hpl : plainT dt = true)
    (hpost : ∀ H1, p H1 → ∃ (cs : List Value) (v : Value), Rd (Sat (H1 ++ B) F) b (.cells cs.toArray e (0, 0)) ∧ cs[0]? = some v ∧ (∀ h, sep (H1 ++ B) h → sep H' h) ∧ post (.returned v) H') :
    Leaves P fn a.tmps (postOf post w0 F) a.defers u w := by
  rw [fr.2.1]
  refine leaves_cons (f := f) (args := cap) hu (by simp [invoke, run_callFunc hf]) ?_
  obtain ⟨g, dg, sb, m'⟩ := Sat.split (m.mono hp)
  refine (sp w _ (hR g dg sb) m').mono ?_
  rintro e u' w' ⟨s', H1, m1, rfl, h2, h3⟩
  obtain ⟨cs, v, q1, q2, q3, q4⟩ := hpost H1 h3
  have m2 := m1.merge dg sb
  show Leaves P fn a.tmps _ [] (settle u') w'
  rw [h2]
  have h1 : a.tmps.getD t undef = .pointer (some ⟨b, 0, none⟩) := fr.eval (x := .tmp t) he
  have h1' : a.tmps[t]?.getD undef = .pointer (some ⟨b, 0, none⟩) := by simpa using h1
  have hc' : w'.cell? ⟨b, 0, none⟩ = some v := by rw [cell_ofL (q1 w' m2)]; exact q2
  exact ⟨v, by simp [results, hr, h1', asAddr, loadVar, run_isAggL ht, hpl, load, Sem.run, hc'], sm.trans s', H', m2.mono q3, q4⟩

/-! ### Function values, interface values -/
/-- A call of a function value. -/
theorem TL.callv {x : Operand} {f : FuncId} {cap : List Value} {xs : Array Operand} {ts : Array TypeId} {vs : List Value} {R : Hl → Prop} {A B : List HP} {post : Ending → List HP → Prop} (hw : Want n D ops o L)
    (ho : o.op = .call { callee := .value x, args := xs, argTypes := ts }) (hd : o.dst = some d) (hn : Nat.blt d n = true) (hxf : evL L x = some (.func (.func f) #[] cap.toArray)) (hf : Named P f) (hx : evs L xs.toList = some vs)
    (sp : Does P f (vs ++ cap).toArray R A post) (hp : ∀ h, sep H h → sep (A ++ B) h) (hR : ∀ g, Dj g F → sep B g → R (jn g F))
    (hout : ∀ H', ¬ post .outgrown H')
    (hpan : ∀ c H', post (.panicked c) H' → TE w0 F n Q (.panic c) D L (H' ++ B))
    (hret : ∀ v H', post (.returned v) H' → TL P w0 F n ops Q l D ((d, v) :: L) (H' ++ B)) : TL P w0 F n ops Q (o :: l) D L H :=
  TL.callw hw (fun a w g => by
      have e : xs.map a.eval = vs.toArray := g.evals hx
      simp [execOp, ho, resolve, g.eval hxf, Deferred.ofValue, invoke, e, run_callFunc hf])
    sp hp hR (fun v H' q a g w s m => by rw [hd]; exact hret v H' q _ w (g.put (lb hn) v) s m) hpan hout
theorem TL.callRv {x : Operand} {f : FuncId} {cap : List Value} {xs : Array Operand} {ts : Array TypeId} {vs : List Value} {R : Hl → Prop} {A B : List HP} {p : Value → List HP → Prop} (hw : Want n D ops o L)
    (ho : o.op = .call { callee := .value x, args := xs, argTypes := ts }) (hd : o.dst = some d) (hn : Nat.blt d n = true) (hxf : evL L x = some (.func (.func f) #[] cap.toArray)) (hf : Named P f) (hx : evs L xs.toList = some vs)
    (sp : Does P f (vs ++ cap).toArray R A (Ret p)) (hp : ∀ h, sep H h → sep (A ++ B) h) (hR : ∀ g, Dj g F → sep B g → R (jn g F))
    (hret : ∀ v H', p v H' → TL P w0 F n ops Q l D ((d, v) :: L) (H' ++ B)) : TL P w0 F n ops Q (o :: l) D L H :=
  TL.callv hw ho hd hn hxf hf hx sp hp hR (fun _ h => h) (fun _ _ h => h.elim) hret
theorem TL.callPv {x : Operand} {f : FuncId} {cap : List Value} {xs : Array Operand} {ts : Array TypeId} {vs : List Value} {R : Hl → Prop} {A B : List HP} {p : Value → List HP → Prop} {q : List PanicEntry → List HP → Prop} (hw : Want n D ops o L)
    (ho : o.op = .call { callee := .value x, args := xs, argTypes := ts }) (hd : o.dst = some d) (hn : Nat.blt d n = true) (hxf : evL L x = some (.func (.func f) #[] cap.toArray)) (hf : Named P f) (hx : evs L xs.toList = some vs)
    (sp : Does P f (vs ++ cap).toArray R A (RetP p q)) (hp : ∀ h, sep H h → sep (A ++ B) h) (hR : ∀ g, Dj g F → sep B g → R (jn g F))
    (hpan : ∀ c H', q c H' → TE w0 F n Q (.panic c) D L (H' ++ B))
    (hret : ∀ v H', p v H' → TL P w0 F n ops Q l D ((d, v) :: L) (H' ++ B)) : TL P w0 F n ops Q (o :: l) D L H :=
  TL.callv hw ho hd hn hxf hf hx sp hp hR (fun _ h => h) hpan hret

theorem eqIn_ifaceNil {w : World} (k : Nat) {t u : TypeId} {v : Value} {ms : Array (String × TypeId)} (ht : P.underlying t = some (.interface ms)) : (Op.equalIn (k + 1) t (.iface u v) .nilIface).run P w = .ok false w := by
  simp [Op.equalIn, run_underlying ht]
theorem eqIn_nilNil {w : World} (k : Nat) {t : TypeId} {ms : Array (String × TypeId)} (ht : P.underlying t = some (.interface ms)) : (Op.equalIn (k + 1) t .nilIface .nilIface).run P w = .ok true w := by
  simp [Op.equalIn, run_underlying ht]
theorem eqIn_funcNil {w : World} (k : Nat) {t : TypeId} {f : Fn} {c e : Array Value} {ps rs : Array TypeId} {vr : Bool} (ht : P.underlying t = some (.func ps rs vr)) : (Op.equalIn (k + 1) t (.func f c e) .nilFunc).run P w = .ok false w := by
  simp [Op.equalIn, run_underlying ht]
theorem PV.ifaceNil {t t' u : TypeId} {x : Operand} {v : Value} {ms : Array (String × TypeId)} (ho : o.op = .binOp .eql t x (.const .nilIface) t') (ht : P.underlying t = some (.interface ms)) (hx : evL L x = some (.iface u v)) : PV P n D L S o (.bool false) :=
  PV.bin ho hx rfl fun w => by
    have := eqIn_ifaceNil (P := P) (w := w) 9999 (u := u) (v := v) ht
    simp [eqGuard, binOp, Op.equal, Op.maxDepth, this]
theorem PV.nilNil {t t' : TypeId} {x : Operand} {ms : Array (String × TypeId)} (ho : o.op = .binOp .eql t x (.const .nilIface) t') (ht : P.underlying t = some (.interface ms)) (hx : evL L x = some .nilIface) : PV P n D L S o (.bool true) :=
  PV.bin ho hx rfl fun w => by
    have := eqIn_nilNil (P := P) (w := w) 9999 ht
    simp [eqGuard, binOp, Op.equal, Op.maxDepth, this]
theorem PV.funcNeqNil {t t' : TypeId} {x : Operand} {f : Fn} {c e : Array Value} {ps rs : Array TypeId} {vr : Bool} (ho : o.op = .binOp .neq t x (.const .nilFunc) t') (ht : P.underlying t = some (.func ps rs vr)) (hx : evL L x = some (.func f c e)) : PV P n D L S o (.bool true) :=
  PV.bin ho hx rfl fun w => by
    have := eqIn_funcNil (P := P) (w := w) 9999 (f := f) (c := c) (e := e) ht
    simp [eqGuard, binOp, Op.equal, Op.maxDepth, this]
theorem PV.assert {t u : TypeId} {x : Operand} {v : Value} {dt : TypeDesc} (ho : o.op = .typeAssert x t u true) (ht : P.underlying u = some dt) (hc : (match dt with | .interface _ => false | _ => true) = true) (hx : evL L x = some (.iface u v)) : PV P n D L S o (.tuple #[v, .bool true]) := fun a w g _ => by
  cases dt <;> simp_all [execOp, g.eval hx, Instr.typeAssert, run_underlying ht]
theorem PV.extract {x : Operand} {i : Nat} {vs : List Value} {v : Value} (ho : o.op = .extract x i) (hx : evL L x = some (.tuple vs.toArray)) (hv : vs[i]? = some v) : PV P n D L S o v := fun a w g _ => by
  simp [execOp, ho, g.eval hx, Instr.extract, hv]

/-- Nothing is owned by a nil slice: that can be had for nothing. -/
theorem TL.ownNil (e : Nat) (h : True → TL P w0 F n ops Q l D L (ownB (.slice none 0 0) [] e :: H)) : TL P w0 F n ops Q l D L H := fun a w f s m =>
  h trivial a w f s (m.mono fun g x => ⟨em, g, Dj.em' g, (em_jn g).symm, ⟨rfl, .inl ⟨rfl, rfl, rfl⟩⟩, x⟩)
/-- An owned slice is opened. -/
theorem TL.openOwn {v : Value} {nn e size : Nat} {xs : List Value} (k : Nat) (hk : Nat.blt k H.length = true) (hH : H.getD k (fun _ => True) = own v nn xs e size) (hpos : Nat.blt 0 nn = true)
    (h : ∀ g cap cur, v = .slice (some ⟨g, 0, none⟩) nn cap → nn ≤ cap → cap ≤ maxLen → cur.length = cap * size → cur.take (nn * size) = xs → TL P w0 F n ops Q l D L (H.set k (blkA g cur e))) : TL P w0 F n ops Q l D L H := fun a w f s m => by
  rcases m.own_form (lb hk) hH with ⟨_, h0, _⟩ | ⟨g, cap, rfl⟩
  · subst h0; cases hpos
  · obtain ⟨cur, m', h1, h2, h3, h4⟩ := m.own_open (lb hk) hH
    exact h g cap cur.toList rfl h1 h2 (by simpa using h3) (by simpa using h4) a w f s (by simpa using m')
/-! ### Contracts turned -/
/-- A list of pieces as one. -/
def all (H : List HP) : HP := fun h => sep H h
theorem sep_all {H : List HP} {h : Hl} (s : sep H h) : sep [all H] h := ⟨h, em, Dj.em h, (jn_em h).symm, s, trivial⟩
theorem sep_single {p : HP} {h : Hl} (x : p h) : sep [p] h := ⟨h, em, Dj.em h, (jn_em h).symm, x, trivial⟩
theorem all_sep {H : List HP} {h : Hl} (s : sep [all H] h) : sep H h := by
  obtain ⟨h1, h2, d, rfl, a, _⟩ := s
  exact sep_more H a d
theorem sep_cons {p : HP} {H H' : List HP} {h : Hl} (s : sep (p :: H) h) (f : ∀ h, sep H h → sep H' h) : sep (p :: H') h := star_mono s (fun _ x => x) f
theorem sep_head {p q : HP} {H : List HP} {h : Hl} (s : sep (p :: H) h) (f : ∀ h, p h → q h) : sep (q :: H) h := star_mono s f fun _ x => x
theorem Does.conv {f : FuncId} {args : Array Value} {R : Hl → Prop} {A A' : List HP} {post post' : Ending → List HP → Prop} (s : Does P f args R A post) (hA : ∀ h, sep A' h → sep A h)
    (hpost : ∀ e H F w, post e H → Sat H F w → ∃ H', Sat H' F w ∧ post' e H') : Does P f args R A' post' := fun w F r m =>
  (s w F r (m.mono hA)).mono fun e w' ⟨a, H', b, c⟩ => let ⟨H2, m2, c2⟩ := hpost e H' F w' c b; ⟨a, H2, m2, c2⟩
theorem Does.weakR {f : FuncId} {args : Array Value} {R R' : Hl → Prop} {A : List HP} {post : Ending → List HP → Prop} (s : Does P f args R A post) (h : ∀ F, R' F → R F) : Does P f args R' A post := fun w F r m => s w F (h F r) m

/-- All that lies besides is there. -/
def Frm (F : Hl) (w : World) : Prop := ∀ b o, F b = some o → w.heap[b]? = some o
theorem Frm.of {w : World} (s : Sat H F w) : Frm F w := fun _ _ e => s.frame e
theorem Rd.frm {b : Nat} {o : Obj} {S' : World → Prop} (e : F b = some o) : Rd (fun w => Frm F w ∧ S' w) b o := fun _ h => h.1 b o e

/-- How many elements a slice has. -/
def SlLen (v : Value) (m : Nat) : Prop := ∃ a c, v = .slice a m c
theorem PV.lenV {t : TypeId} {e : TypeId} {x : Operand} {v : Value} {m : Nat} (ho : o.op = .call { callee := .builtin .len, args := #[x], argTypes := #[t] }) (ht : P.underlying t = some (.slice e)) (hx : evL L x = some v) (hv : SlLen v m) :
    PV P n D L S o (.int .i64 m) := fun b w g _ => by
  obtain ⟨a, c, rfl⟩ := hv
  simp [execOp, ho, resolve, g.eval hx, invoke, builtin, Builtin.len_, run_underlying ht, goInt]
end
end Leg
