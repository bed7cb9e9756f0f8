/-
  Owned slices read without opening them; bytes that come in from outside; packages of pieces.
-/
import Derived.Test.YtdekgkmbcdlekaaLegN
namespace Leg
open Go Codec Api

/-- The first cells of a block are known. -/
def RdX (S : World → Prop) (b : Nat) (xs : List Value) : Prop := ∀ w, S w → ∀ j v, xs[j]? = some v → w.cell? ⟨b, j, none⟩ = some v
theorem RdX.own {H : List HP} {F : Hl} {g cap n : Nat} {xs : List Value} {e size : Nat} (i : Nat) (hi : Nat.blt i H.length = true) {v : Value} (hv : v = .slice (some ⟨g, 0, none⟩) n cap) (hH : H.getD i (fun _ => True) = Leg.own v n xs e size) : RdX (Sat H F) g xs := fun w s j u h => by
  subst hv
  obtain ⟨cur, h1, _, _, _, h2⟩ := s.own_block (lb hi) hH
  subst h2
  rw [List.getElem?_take] at h
  split at h
  · simpa [World.cell?, h1] using h
  · cases h
theorem RdX.frm {S : World → Prop} {F : Hl} {b : Nat} {cs : List Value} {T : TypeId} {z : Nat × Nat} (e : F b = some (.cells (List.toArray cs) T z)) (hS : ∀ w, S w → Frm F w) : RdX S b cs := fun w s j u h => by
  rw [cell_ofL (hS w s b _ e)]; exact h
section
variable {P : Program} {w0 : World} {F : Hl} {n : Nat} {ops : Array Oper} {Q : QQ} {D : List Deferred} {L : List (Nat × Value)} {H : List HP} {o : Oper} {l : List Oper} {d : Nat} {S : World → Prop}
theorem PV.load1X {t : TypeId} {x : Operand} {dt : TypeDesc} {b j : Nat} {xs : List Value} {v : Value} (ho : o.op = .load t x)
    (ht : P.underlying t = some dt) (hp : plainT dt = true) (hx : evL L x = some (.pointer (some ⟨b, j, none⟩))) (hR : RdX S b xs) (hc : xs[j]? = some v) : PV P n D L S o (v) :=
  fun a w f m => by
    simp [execOp, ho, f.eval hx, run_load1 ht hp (hR w m j v hc)]
theorem PV.loadNX {t : TypeId} {x : Operand} {dt : TypeDesc} {b j m : Nat} {xs vs : List Value} (ho : o.op = .load t x)
    (ht : P.underlying t = some dt) (hp : plainT dt = false) (hm : (P.info? t).map (·.size) = some m) (hx : evL L x = some (.pointer (some ⟨b, j, none⟩))) (hR : RdX S b xs)
    (hl : vs.length = m) (hc : (xs.drop j).take m = vs) : PV P n D L S o (.agg vs.toArray) :=
  fun a w f s => by
    have := run_loadN (P := P) (w := w) ht hp (b := b) (o := j) hm hl (fun i v e => by
      subst hc
      rw [List.getElem?_take] at e
      split at e
      · exact hR w s _ v (by simpa using e)
      · cases e)
    simp [execOp, ho, f.eval hx, this]
/-- An index into a slice whose form is known. -/
theorem PV.indexSlV {t e : TypeId} {x y : Operand} {v : Value} {b j len cap s r : Nat} {k : IntKind} {i : Int} (hv : v = .slice (some ⟨b, j, none⟩) len cap) (ho : o.op = .indexAddr t x y) (ht : P.underlying t = some (.slice e))
    (hs : (P.info? e).map (·.size) = some s) (hx : evL L x = some v) (hy : evL L y = some (.int k i)) (h0 : 0 ≤ i) (h1 : i < len) (hr : j + i.toNat * s = r) : PV P n D L S o (.pointer (some ⟨b, r, none⟩)) :=
  PV.indexSl ho ht hs (by rw [← hv]; exact hx) hy h0 h1 hr
/-- The form of an owned slice that is not empty. -/
theorem Sat.own_at {w : World} {v : Value} {nn e size : Nat} {xs : List Value} (i : Nat) (s : Sat H F w) (hi : Nat.blt i H.length = true) (hH : H.getD i (fun _ => True) = own v nn xs e size) (hpos : 0 < nn) :
    ∃ g cap, v = .slice (some ⟨g, 0, none⟩) nn cap ∧ (nn ≤ cap ∧ cap ≤ 9223372036854775807) := by
  rcases s.own_form (lb hi) hH with ⟨_, h0, _⟩ | ⟨g, cap, rfl⟩
  · omega
  · obtain ⟨_, _, h1, h2, _⟩ := s.own_block (lb hi) hH
    exact ⟨g, cap, rfl, h1, by simpa [maxLen] using h2⟩
theorem TC.ownAt {c : Code} {v : Value} {nn e size : Nat} {xs : List Value} (i : Nat) (hi : Nat.blt i H.length = true) (hH : H.getD i (fun _ => True) = own v nn xs e size) (hpos : 0 < nn)
    (h : ∀ g cap, v = .slice (some ⟨g, 0, none⟩) nn cap → nn ≤ cap ∧ cap ≤ 9223372036854775807 → TC P w0 F n c Q D L H) : TC P w0 F n c Q D L H := fun a w f s m =>
  let ⟨g, cap, hv, hc⟩ := m.own_at i hi hH hpos; h g cap hv hc a w f s m
theorem TL.ownAt {v : Value} {nn e size : Nat} {xs : List Value} (i : Nat) (hi : Nat.blt i H.length = true) (hH : H.getD i (fun _ => True) = own v nn xs e size) (hpos : 0 < nn)
    (h : ∀ g cap, v = .slice (some ⟨g, 0, none⟩) nn cap → nn ≤ cap ∧ cap ≤ 9223372036854775807 → TL P w0 F n ops Q l D L H) : TL P w0 F n ops Q l D L H := fun a w f s m =>
  let ⟨g, cap, hv, hc⟩ := m.own_at i hi hH hpos; h g cap hv hc a w f s m
theorem TC.ownLen {c : Code} {v : Value} {nn e size : Nat} {xs : List Value} (k : Nat) (hk : Nat.blt k H.length = true) (hH : H.getD k (fun _ => True) = own v nn xs e size)
    (h : SlLen v nn → v.oneCell' = true → TC P w0 F n c Q D L H) : TC P w0 F n c Q D L H := fun a w f s m => by
  rcases m.own_form (lb hk) hH with ⟨rfl, rfl, _⟩ | ⟨g, cap, rfl⟩
  · exact h ⟨_, _, rfl⟩ rfl a w f s m
  · exact h ⟨_, _, rfl⟩ rfl a w f s m
/-- A slice's first elements, whatever its form. -/
theorem TL.fact {p : Prop} (hp : ∀ w, Sat H F w → p) (h : p → TL P w0 F n ops Q l D L H) : TL P w0 F n ops Q l D L H := fun a w f s m => h (hp w m) a w f s m
theorem TC.fact {c : Code} {p : Prop} (hp : ∀ w, Sat H F w → p) (h : p → TC P w0 F n c Q D L H) : TC P w0 F n c Q D L H := fun a w f s m => h (hp w m) a w f s m
end

/-! ### Bytes that come in -/
/-- A slice's value holds these bytes; one without bytes may have any address. -/
def IsW (v : Value) (bs : List UInt8) (F : Hl) : Prop := IsB v bs F ∨ ∃ a c, v = .slice (some a) 0 c ∧ bs = []
theorem IsB.w {v : Value} {bs : List UInt8} {F : Hl} (h : IsB v bs F) : IsW v bs F := .inl h
theorem IsW.more {v : Value} {bs : List UInt8} {F g : Hl} (h : IsW v bs F) (d : Dj g F) : IsW v bs (jn g F) := h.imp (fun x => x.more d) id
theorem IsW.len {v : Value} {bs : List UInt8} {F : Hl} (h : IsW v bs F) : SlLen v bs.length := by
  rcases h with h | ⟨a, c, rfl, rfl⟩
  · exact h.len
  · exact ⟨_, _, rfl⟩
theorem IsW.one {v : Value} {bs : List UInt8} {F : Hl} (h : IsW v bs F) : v.oneCell' = true := by
  rcases h with h | ⟨a, c, rfl, rfl⟩
  · exact h.one
  · rfl
theorem IsW.src {v : Value} {bs : List UInt8} {F : Hl} (h : IsW v bs F) {S : World → Prop} (hS : ∀ w, S w → Frm F w) : Src S v bs.length (u8s bs) 1 := by
  rcases h with h | ⟨a, c, rfl, rfl⟩
  · exact h.src hS
  · exact ⟨rfl, .inr ⟨a, c, rfl, fun w s j u hj => by simp [u8s] at hj⟩⟩
/-- The byte at a place. -/
theorem IsW.at {v : Value} {bs : List UInt8} {F : Hl} (h : IsW v bs F) {j : Nat} (hj : j < bs.length) :
    ∃ b off cap cs T z, v = .slice (some ⟨b, off, none⟩) bs.length cap ∧ F b = some (.cells (List.toArray cs) T z) ∧ (∀ j, j < bs.length → cs[off + j]? = some (.int .u8 ((bs.getD j 0).toNat : Nat))) ∧ bs.length ≤ cap := by
  rcases h with (⟨_, rfl⟩ | ⟨b, off, cap, cs, T, z, h0, h1, h2, h3, h4⟩) | ⟨a, c, rfl, rfl⟩
  · simp at hj
  · exact ⟨b, off, cap, cs, T, z, h0, h3, h4, h1⟩
  · simp at hj

/-! ### Packages of pieces -/
/-- Some pieces as one, of which some things are hidden. -/
def pack {α : Type} (p : α → List HP) : HP := fun h => ∃ x, sep (p x) h
theorem sep_open {α : Type} {p : α → List HP} {H : List HP} {h : Hl} (s : sep (pack p :: H) h) : ∃ x, sep (p x ++ H) h := by
  obtain ⟨h1, h2, d, rfl, ⟨x, a⟩, b⟩ := s
  exact ⟨x, (sep_append _ _).2 ⟨h1, h2, d, rfl, a, b⟩⟩
theorem sep_close {α : Type} {p : α → List HP} {H : List HP} {h : Hl} (x : α) (s : sep (p x ++ H) h) : sep (pack p :: H) h :=
  star_mono ((sep_append _ _).1 s) (fun _ a => ⟨x, a⟩) fun _ b => b
section
variable {P : Program}
/-- A contract whose pieces hide something. -/
theorem Does.pack {α : Type} {f : FuncId} {args : Array Value} {R : Hl → Prop} {p : α → List HP} {B : List HP} {post : Ending → List HP → Prop} (s : ∀ x, Does P f args R (p x ++ B) post) : Does P f args R (Leg.pack p :: B) post := fun w F r ⟨h, d, e, t⟩ =>
  let ⟨x, t'⟩ := sep_open t; s x w F r ⟨h, d, e, t'⟩
theorem Does.ex {α : Sort _} {f : FuncId} {args : Array Value} {R : Hl → Prop} {A : List HP} {A' : α → List HP} {post : Ending → List HP → Prop} (m : ∀ h, sep A h → ∃ x, sep (A' x) h) (s : ∀ x, Does P f args R (A' x) post) : Does P f args R A post := fun w F r ⟨h, d, e, t⟩ =>
  let ⟨x, t'⟩ := m h t; s x w F r ⟨h, d, e, t'⟩
/-- What it hands back is put up anew. -/
theorem Does.fold {f : FuncId} {args : Array Value} {R : Hl → Prop} {A : List HP} {post post' : Ending → List HP → Prop} (s : Does P f args R A post)
    (hpost : ∀ e H, post e H → ∃ H', (∀ h, sep H h → sep H' h) ∧ post' e H') : Does P f args R A post' :=
  s.conv (fun _ h => h) fun e H F w c m => let ⟨H', h1, h2⟩ := hpost e H c; ⟨H', m.mono h1, h2⟩
/-- A contract, used where more pieces lie. -/
theorem Does.withinR {f : FuncId} {args : Array Value} {R : Hl → Prop} {A B C : List HP} {p p' : Value → List HP → Prop} (s : Does P f args R A (Ret p)) (hR : ∀ F g, R F → Dj g F → R (jn g F)) (hA : ∀ h, sep C h → sep (A ++ B) h)
    (hp : ∀ v H, p v H → ∃ H', (∀ h, sep (H ++ B) h → sep H' h) ∧ p' v H') : Does P f args R C (Ret p') := fun w F r m => by
  obtain ⟨g, d, b, m'⟩ := Sat.split (m.mono hA)
  refine (s w _ (hR F g r d) m').mono ?_
  rintro e w' ⟨s', H', m'', q⟩
  cases e with
  | returned v => obtain ⟨H2, h1, h2⟩ := hp v H' q; exact ⟨s', H2, (m''.merge d b).mono h1, h2⟩
  | panicked c => exact q.elim
  | outgrown => exact q.elim
/-- Pieces that a call leaves alone. -/
theorem Does.frame {f : FuncId} {args : Array Value} {R : Hl → Prop} {A B : List HP} {post : Ending → List HP → Prop} (s : Does P f args R A post) (hR : ∀ F g, R F → Dj g F → R (jn g F)) : Does P f args R (A ++ B) (fun e H => ∃ H', H = H' ++ B ∧ post e H') := fun w F r m => by
  obtain ⟨g, d, b, m'⟩ := Sat.split m
  refine (s w _ (hR F g r d) m').mono ?_
  rintro e w' ⟨s', H', m'', q⟩
  exact ⟨s', _, m''.merge d b, H', rfl, q⟩
end
end Leg
namespace Leg
open Go Codec Api
section
variable {P : Program} {n : Nat} {D : List Deferred} {L : List (Nat × Value)} {S : World → Prop} {o : Oper}
theorem PV.to {v v' : Value} (h : PV P n D L S o v) (e : v = v') : PV P n D L S o v' := e ▸ h
/-- The first elements of an array. -/
theorem PV.sliceArrHi {t e len : Nat} {x y : Operand} {b j s k : Nat} {kk : IntKind} {i : Int} (ho : o.op = .slice t x none (some y) none) (ht : P.underlying t = some (.array len e)) (hs : (P.info? e).map (·.size) = some s) (hx : evL L x = some (.pointer (some ⟨b, j, none⟩)))
    (hy : evL L y = some (.int kk i)) (hk : i = (k : Int)) (h1 : k ≤ len) (hl : Nat.blt 0 len = true) : PV P n D L S o (.slice (some ⟨b, j, none⟩) k len) := fun a w g _ => by
  subst hk
  have h0 : ¬ len = 0 := by have := lb hl; omega
  simp [execOp, ho, g.eval hx, g.eval hy, Instr.sliceAt, run_underlying ht, Instr.sureAddr, Instr.sliceBounds, Instr.sliceBound, asIntOf, h1, run_sizeL hs, addL]
end
/-- What a world knows of a map, of the first cells of a block. -/
def Hm (m : Nat) (kv : List (Int × Value)) (w : World) : Prop := ∃ es clock, w.heap[m]? = some (.map (List.toArray es) clock) ∧ pairs es = keyed kv
def Hx (b : Nat) (xs : List Value) (w : World) : Prop := ∀ j v, xs[j]? = some v → w.cell? ⟨b, j, none⟩ = some v
theorem sep_ownNil (e size : Nat) {H : List HP} {h : Hl} (s : sep H h) : sep (own (.slice none 0 0) 0 [] e size :: H) h :=
  ⟨em, h, Dj.em' h, (em_jn h).symm, ⟨by simp, .inl ⟨rfl, rfl, rfl⟩⟩, s⟩
end Leg
namespace Leg
open Go Codec Api
/-! ### Lists that come in, of whatever elements -/
/-- A slice whose elements (each of so many cells) tell the list's elements. -/
def IsL {α : Type} (size : Nat) (E : List Value → α → Hl → Prop) (v : Value) (l : List α) (F : Hl) : Prop :=
  (v = .slice none 0 0 ∧ l = []) ∨ (∃ a c, v = .slice (some a) 0 c ∧ l = []) ∨
  ∃ b off cap cs T z, v = .slice (some ⟨b, off, none⟩) l.length cap ∧ l.length ≤ cap ∧ cap ≤ 9223372036854775807 ∧ F b = some (.cells (List.toArray cs) T z) ∧
    ∀ j (h : j < l.length), ∃ us, us.length = size ∧ (cs.drop (off + j * size)).take size = us ∧ E us l[j] F
section
variable {α : Type} {size : Nat} {E : List Value → α → Hl → Prop} {v : Value} {l : List α} {F g : Hl}
theorem IsL.len (h : IsL size E v l F) : SlLen v l.length := by
  rcases h with ⟨rfl, rfl⟩ | ⟨a, c, rfl, rfl⟩ | ⟨b, off, cap, cs, T, z, rfl, _⟩ <;> exact ⟨_, _, rfl⟩
theorem IsL.one (h : IsL size E v l F) : v.oneCell' = true := by
  rcases h with ⟨rfl, rfl⟩ | ⟨a, c, rfl, rfl⟩ | ⟨b, off, cap, cs, T, z, rfl, _⟩ <;> rfl
theorem IsL.more (hE : ∀ us x F g, E us x F → Dj g F → E us x (jn g F)) (h : IsL size E v l F) (d : Dj g F) : IsL size E v l (jn g F) := by
  rcases h with h | h | ⟨b, off, cap, cs, T, z, h0, h1, h2, h3, h4⟩
  · exact .inl h
  · exact .inr (.inl h)
  · exact .inr (.inr ⟨b, off, cap, cs, T, z, h0, h1, h2, Le.right d _ _ h3, fun j hj => let ⟨us, e1, e2, e3⟩ := h4 j hj; ⟨us, e1, e2, hE _ _ _ _ e3 d⟩⟩)
theorem IsL.at (h : IsL size E v l F) {j : Nat} (hj : j < l.length) :
    ∃ b off cap cs T z us, v = .slice (some ⟨b, off, none⟩) l.length cap ∧ (l.length ≤ cap ∧ cap ≤ 9223372036854775807) ∧ F b = some (.cells (List.toArray cs) T z) ∧ us.length = size ∧ (cs.drop (off + j * size)).take size = us ∧ E us l[j] F := by
  rcases h with ⟨_, rfl⟩ | ⟨a, c, _, rfl⟩ | ⟨b, off, cap, cs, T, z, h0, h1, h2, h3, h4⟩
  · simp at hj
  · simp at hj
  · obtain ⟨us, e1, e2, e3⟩ := h4 j hj
    exact ⟨b, off, cap, cs, T, z, us, h0, ⟨h1, h2⟩, h3, e1, e2, e3⟩
end
/-- A cell out of a stretch. -/
theorem stretch_get {cs us : List Value} {o n j : Nat} {v : Value} (h : (cs.drop o).take n = us) (hj : us[j]? = some v) : cs[o + j]? = some v := by
  subst h
  rw [List.getElem?_take] at hj
  split at hj
  · simpa using hj
  · cases hj
/-- Slices of bytes as elements; slices of such. -/
def EB (us : List Value) (bs : List UInt8) (F : Hl) : Prop := ∃ u, us = [u] ∧ IsW u bs F
theorem EB.more (us : List Value) (x : List UInt8) (F g : Hl) (h : EB us x F) (d : Dj g F) : EB us x (jn g F) := let ⟨u, e, i⟩ := h; ⟨u, e, i.more d⟩
abbrev IsBB (v : Value) (l : List (List UInt8)) (F : Hl) : Prop := IsL 1 EB v l F
def EBB (us : List Value) (l : List (List UInt8)) (F : Hl) : Prop := ∃ u, us = [u] ∧ IsBB u l F
theorem EBB.more (us : List Value) (x : List (List UInt8)) (F g : Hl) (h : EBB us x F) (d : Dj g F) : EBB us x (jn g F) := let ⟨u, e, i⟩ := h; ⟨u, e, IsL.more EB.more i d⟩
/-- Elements that are numbers. -/
def EN (us : List Value) (x : List Int) (_ : Hl) : Prop := us = ints x ∧ ∀ n ∈ x, (Lit.int .i64 n).wf = true
theorem EN.more (us : List Value) (x : List Int) (F g : Hl) (h : EN us x F) (_ : Dj g F) : EN us x (jn g F) := h
end Leg
namespace Leg
open Go Codec Api
/-- A piece whose cells are just these bytes, lent to be read. -/
theorem isB_blk (i : Nat) {g T : Nat} {bs : List UInt8} {B : List HP} {F : Hl} (hl : bs.length ≤ 9223372036854775807) (hi : Nat.blt i B.length = true) (e : B.getD i (fun _ => True) = blkA g (u8s bs) T) : ∀ h, Dj h F → sep B h → IsB (.slice (some ⟨g, 0, none⟩) bs.length bs.length) bs (jn h F) := fun h d s =>
  .inr ⟨g, 0, bs.length, u8s bs, T, (0, 0), rfl, Nat.le_refl _, hl, ro_piece i hi e h d s, fun j hj => by simp [u8s, List.getD_eq_getElem?_getD, hj]⟩
section
variable {P : Program} {n : Nat} {D : List Deferred} {L : List (Nat × Value)} {S : World → Prop} {o : Oper}
theorem PV.ptrNil {t t' : TypeId} {x y : Operand} {a : Addr} (ho : o.op = .binOp .eql t x y t') (ht : P.underlying t = some (.pointer (P.pointee t))) (hx : evL L x = some (.pointer (some a))) (hy : evL L y = some (.pointer none)) : PV P n D L S o (.bool false) :=
  PV.bin ho hx hy fun w => by
    have := run_eql_pointer_nil (P := P) w t (some a) ht
    simpa [eqGuard] using this
theorem PV.nilPtrNil {t t' : TypeId} {x y : Operand} (ho : o.op = .binOp .eql t x y t') (ht : P.underlying t = some (.pointer (P.pointee t))) (hx : evL L x = some (.pointer none)) (hy : evL L y = some (.pointer none)) : PV P n D L S o (.bool true) :=
  PV.bin ho hx hy fun w => by
    have := run_eql_pointer_nil (P := P) w t none ht
    simpa [eqGuard] using this
theorem PV.ptrNotNil {t t' : TypeId} {x y : Operand} {a : Addr} (ho : o.op = .binOp .neq t x y t') (ht : P.underlying t = some (.pointer (P.pointee t))) (hx : evL L x = some (.pointer (some a))) (hy : evL L y = some (.pointer none)) : PV P n D L S o (.bool true) :=
  PV.bin ho hx hy fun w => by
    have := run_neq_pointer_nil (P := P) w t (some a) ht
    simpa [eqGuard] using this
theorem PV.nilPtrNotNil {t t' : TypeId} {x y : Operand} (ho : o.op = .binOp .neq t x y t') (ht : P.underlying t = some (.pointer (P.pointee t))) (hx : evL L x = some (.pointer none)) (hy : evL L y = some (.pointer none)) : PV P n D L S o (.bool false) :=
  PV.bin ho hx hy fun w => by
    have := run_neq_pointer_nil (P := P) w t none ht
    simpa [eqGuard] using this
end
end Leg
namespace Leg
open Go Codec Api
section
variable {P : Program} {n : Nat} {D : List Deferred} {L : List (Nat × Value)} {S : World → Prop} {o : Oper}
theorem PV.neqBo {t t' : TypeId} {x y : Operand} {a b : Bool} (ho : o.op = .binOp .neq t x y t') (hu : P.underlying t = some .bool) (hx : evL L x = some (.bool a)) (hy : evL L y = some (.bool b)) : PV P n D L S o (.bool (a != b)) :=
  PV.bin ho hx hy fun w => by
    have e : (Op.equal t (.bool a) (.bool b)).run P w = .ok (a == b) w := by
      exact run_eqB 9999 hu
    simp [eqGuard, binOp, e, bne]
end
end Leg
namespace Leg
open Go
section
variable {P : Program} {w0 : World} {F : Hl} {n : Nat} {Q : QQ} {D : List Deferred} {L : List (Nat × Value)} {H : List HP}
/-- Ways that meet: what follows is shown once. -/
theorem TC.cut {α : Type} {c : Code} {K : Act → World → Prop} (Inv : α → Prop) (Lf : α → List (Nat × Value)) (Hf : α → List HP) (tail : ∀ x, Inv x → TE w0 F n (Exit.then K Q) .normal D (Lf x) (Hf x))
    (main : (∀ x, Inv x → TE w0 F n (Exit.then K Q) .normal D (Lf x) (Hf x)) → TC P w0 F n c (Exit.then K Q) D L H) : TC P w0 F n c (Exit.then K Q) D L H := main tail
end
end Leg
