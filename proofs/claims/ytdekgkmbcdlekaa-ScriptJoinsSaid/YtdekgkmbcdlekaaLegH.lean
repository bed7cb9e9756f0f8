/-
  Drawn regions whose condition grows; masks; numbers that come in as a slice.
-/
import Derived.Test.YtdekgkmbcdlekaaLegG
import Derived.Test.YtdekgkmbcdlekaaCodecW
namespace Leg
open Go Codec Api

theorem wpAnyH_more {P : Program} {md : Region.Mode} {ops : Array Oper} {Q : QQ} {S S' : World → Prop} (h : ∀ w, S' w → S w) : ∀ (fuel : Nat) (listed : Array Bool) (a : Act) (w : World), wpAnyH P md ops Q S' fuel listed a w → wpAnyH P md ops Q S fuel listed a w
  | 0, _, _, _, x => x
  | fuel + 1, _, _, _, x => ⟨x.1, fun i hi => wpOp_mono (fun a' w' x' => ⟨h _ x'.1, wpAnyH_more h fuel _ a' w' x'.2⟩) (x.2 i hi)⟩
/-- The bytes of a slice, in a world. -/
def Hb (v : Value) (bs : List UInt8) (w : World) : Prop :=
  (v = .slice none 0 0 ∧ bs = []) ∨ ∃ g cap, v = .slice (some ⟨g, 0, none⟩) bs.length cap ∧ ∀ j u, (u8s bs)[j]? = some u → w.cell? ⟨g, 0 + j, none⟩ = some u
theorem Sat.hb {H : List HP} {F : Hl} {w : World} {v : Value} {bs : List UInt8} {e : Nat} (i : Nat) (s : Sat H F w) (hi : Nat.blt i H.length = true) (hH : H.getD i (fun _ => True) = ownB v bs e) : Hb v bs w := by
  have h := Src.own i hi hH s
  rcases h.2 with ⟨h1, h2⟩ | ⟨a, c, h1, h2⟩
  · exact .inl ⟨h1, List.eq_nil_of_length_eq_zero h2⟩
  · rcases s.own_form (lb hi) hH with ⟨h3, h4, _⟩ | ⟨g, cap, h3⟩
    · exact .inl ⟨h3, List.eq_nil_of_length_eq_zero h4⟩
    · rw [h1] at h3
      injection h3 with h5 h6 h7
      injection h5 with h8
      subst h8
      exact .inr ⟨g, c, h1, fun j u hj => by have := h2 w s j u hj; rwa [addL] at this⟩
theorem Hb.src {S : World → Prop} {v : Value} {bs : List UInt8} (h : ∀ w, S w → Hb v bs w) (w0 : World) (h0 : S w0) : Src S v bs.length (u8s bs) 1 := by
  refine ⟨by simp [u8s], ?_⟩
  rcases h w0 h0 with ⟨h1, h2⟩ | ⟨g, cap, h1, _⟩
  · subst h2; exact .inl ⟨h1, rfl⟩
  · refine .inr ⟨⟨g, 0, none⟩, cap, h1, fun w s j u hj => ?_⟩
    rw [addL]
    rcases h w s with ⟨h3, _⟩ | ⟨g', cap', h3, h4⟩
    · rw [h1] at h3; simp at h3
    · rw [h1] at h3
      injection h3 with h5 h6 h7
      injection h5 with h8
      injection h8 with h9 h10
      subst h9
      exact h4 j u hj
section
variable {P : Program} {w0 : World} {F : Hl} {n : Nat} {ops : Array Oper} {Q : QQ} {S : World → Prop} {D : List Deferred} {L : List (Nat × Value)} {H : List HP}
theorem TD.more {fuel : Nat} {listed : Array Bool} (T : World → Prop) (hT : ∀ w, Sat H F w → T w) (h : TD P w0 F n ops Q (fun w => T w ∧ S w) fuel listed D L H) : TD P w0 F n ops Q S fuel listed D L H :=
  fun a w f s t hS => wpAnyH_more (fun _ x => x.2) fuel listed a w (h a w f s t ⟨hT w t, hS⟩)
end

section
variable {P : Program} {n : Nat} {D : List Deferred} {L : List (Nat × Value)} {S : World → Prop} {o : Oper}
theorem PV.eqlT {t t' : TypeId} {x y : Operand} {k : IntKind} {a b : Int} (h : a = b) (ho : o.op = .binOp .eql t x y t') (hx : evL L x = some (.int k a)) (hy : evL L y = some (.int k b)) : PV P n D L S o (.bool true) := by
  have e := PV.eql (P := P) (n := n) (D := D) (S := S) ho hx hy
  rwa [decide_eq_true h] at e
theorem run_eqB (d : Nat) {t : TypeId} {a b : Bool} {w : World} (hu : P.underlying t = some .bool) : (Op.equalIn (d + 1) t (.bool a) (.bool b)).run P w = .ok (a == b) w := by
  simp [Op.equalIn, run_underlying hu]
theorem PV.eqlB {t t' : TypeId} {x y : Operand} {a b : Bool} (ho : o.op = .binOp .eql t x y t') (hu : P.underlying t = some .bool) (hx : evL L x = some (.bool a)) (hy : evL L y = some (.bool b)) : PV P n D L S o (.bool (a == b)) :=
  PV.bin ho hx hy fun w => by
    have e : (Op.equal t (.bool a) (.bool b)).run P w = .ok (a == b) w := by
      exact run_eqB 9999 hu
    simp [eqGuard, binOp, e]
end

section
variable {P : Program} {w0 : World} {F : Hl} {n : Nat} {ops : Array Oper} {Q : QQ} {D : List Deferred} {L : List (Nat × Value)} {H : List HP} {o : Oper} {l : List Oper} {d : Nat}
theorem TL.box1 {t : TypeId} {x : Operand} {v : Value} (h1 : v.oneCell' = true) (hw : Want n D ops o L) (ho : o.op = .box t x) (hd : o.dst = some d) (hn : Nat.blt d n = true) (hx : evL L x = some v)
    (h : ∀ b, TL P w0 F n ops Q l D ((d, .pointer (some ⟨b, 0, none⟩)) :: L) (blkA b [v] t :: H)) : TL P w0 F n ops Q (o :: l) D L H :=
  TL.box hw ho hd hn hx fun b => by rw [cells_one h1]; exact h b
end
theorem IsI.one {k : IntKind} {v : Value} {l : List Int} {F : Hl} (h : IsI k v l F) : v.oneCell' = true := by
  rcases h with ⟨rfl, _⟩ | ⟨b, off, cap, cs, T, z, rfl, _⟩ <;> rfl

section
variable {P : Program} {w0 : World} {F : Hl} {n : Nat} {ops : Array Oper} {Q : QQ} {D : List Deferred} {L : List (Nat × Value)} {H : List HP} {o : Oper} {l : List Oper} {d : Nat}
theorem TL.ownLen {v : Value} {nn e size : Nat} {xs : List Value} (k : Nat) (hk : Nat.blt k H.length = true) (hH : H.getD k (fun _ => True) = own v nn xs e size)
    (h : SlLen v nn → v.oneCell' = true → TL P w0 F n ops Q l D L H) : TL P w0 F n ops Q l D L H := fun a w f s m => by
  rcases m.own_form (lb hk) hH with ⟨rfl, rfl, _⟩ | ⟨g, cap, rfl⟩
  · exact h ⟨_, _, rfl⟩ rfl a w f s m
  · exact h ⟨_, _, rfl⟩ rfl a w f s m
theorem TL.openAt {v : Value} {nn e : Nat} {xs : List Value} (k : Nat) (hpos : 0 < nn) (hk : Nat.blt k H.length = true) (hH : H.getD k (fun _ => True) = own v nn xs e 1)
    (h : ∀ g cap cur, v = .slice (some ⟨g, 0, none⟩) nn cap → nn ≤ cap → cap ≤ maxLen → cur.length = cap → cur.take nn = xs → TL P w0 F n ops Q l D L (H.set k (blkA g cur e))) : TL P w0 F n ops Q l D L H :=
  TL.openOwn k hk hH (by cases nn with | zero => cases hpos | succ m => rfl) fun g cap cur h1 h2 h3 h4 h5 => h g cap cur h1 h2 h3 (by simpa using h4) (by simpa using h5)
theorem TL.ownNilI (e size : Nat) (h : True → TL P w0 F n ops Q l D L (own (.slice none 0 0) 0 [] e size :: H)) : TL P w0 F n ops Q l D L H := fun a w f s m =>
  h trivial a w f s (m.mono fun g x => ⟨em, g, Dj.em' g, (em_jn g).symm, ⟨by simp, .inl ⟨rfl, rfl, rfl⟩⟩, x⟩)
end
/-- An open slice is closed again. -/
theorem sep_own {H : List HP} {g cap nn e : Nat} {cur xs : List Value} (i : Nat) (hi : Nat.blt i H.length = true) (hH : H.getD i (fun _ => True) = blkA g cur e) (h1 : nn ≤ cap) (h2 : cap ≤ maxLen) (h3 : cur.length = cap) (h4 : cur.take nn = xs) {h : Hl} (s : sep H h) :
    sep (H.set i (own (.slice (some ⟨g, 0, none⟩) nn cap) nn xs e 1)) h := by
  obtain ⟨x, y, d, rfl, a, b⟩ := sep_get i (lb hi) s
  rw [hH] at a
  refine sep_put i (lb hi) ⟨x, y, d, rfl, ?_, b⟩
  refine ⟨?_, .inr ⟨g, cap, cur.toArray, rfl, a, h1, h2, by simp [h3], by simpa using h4⟩⟩
  rw [← h4, List.length_take]
  omega

/-! ### Masks -/
theorem mask {k : Nat} (hk : k ≤ 63) (n : Int) : andI .i64 n (2 ^ k - 1) = n % 2 ^ k := by
  have h2 : (BitVec.ofInt 64 (2 ^ k - 1 : Int)).toNat = 2 ^ k - 1 := by
    have : (2 : Int) ^ k = ((2 ^ k : Nat) : Int) := by simp
    have hle : 2 ^ k ≤ 2 ^ 63 := Nat.pow_le_pow_right (by decide) hk
    have hpos : 0 < 2 ^ k := Nat.pow_pos (by decide)
    rw [BitVec.toNat_ofInt, this]
    have e : ((2 ^ k : Nat) : Int) - 1 = ((2 ^ k - 1 : Nat) : Int) := by omega
    rw [e]
    have : ((2 ^ k - 1 : Nat) : Int) % ((2 ^ 64 : Nat) : Int) = ((2 ^ k - 1 : Nat) : Int) := Int.emod_eq_of_lt (by omega) (by omega)
    omega
  have h1 : ((BitVec.ofInt 64 n &&& BitVec.ofInt 64 (2 ^ k - 1 : Int)).toNat : Int) = n % 2 ^ k := by
    rw [BitVec.toNat_and, h2, Nat.and_two_pow_sub_one_eq_mod, BitVec.toNat_ofInt]
    have hd : ((2 ^ k : Nat) : Int) ∣ ((2 ^ 64 : Nat) : Int) := by
      exact_mod_cast Nat.pow_dvd_pow 2 (by omega : k ≤ 64)
    have hn : 0 ≤ n % ((2 ^ 64 : Nat) : Int) := Int.emod_nonneg _ (by decide)
    rw [Int.natCast_emod, Int.toNat_of_nonneg hn, Int.emod_emod_of_dvd _ hd]
    simp
  show IntKind.i64.wrap ((BitVec.ofInt 64 n &&& BitVec.ofInt 64 (2 ^ k - 1 : Int)).toNat : Int) = _
  rw [h1]
  have hp : (0 : Int) < 2 ^ k := by
    have : (2 : Int) ^ k = ((2 ^ k : Nat) : Int) := by simp
    rw [this]; exact_mod_cast Nat.pow_pos (by decide)
  have hq : (2 : Int) ^ k ≤ 9223372036854775808 := by
    have : (2 : Int) ^ k = ((2 ^ k : Nat) : Int) := by simp
    rw [this]
    have hle : 2 ^ k ≤ 2 ^ 63 := Nat.pow_le_pow_right (by decide) hk
    omega
  have ha := Int.emod_nonneg n (Int.ne_of_gt hp)
  have hb := Int.emod_lt_of_pos n hp
  exact wrap_i64 (by omega) (by omega)
def m62n (n : Int) : Nat := (n % 4611686018427387904).toNat
def m62 (n : Int) : Int := ((m62n n : Nat) : Int)
def m50 (n : Int) : Int := n % 1125899906842624
def m40 (n : Int) : Int := n % 1099511627776
def m30 (n : Int) : Int := n % 1073741824
theorem and62 (n : Int) : andI .i64 n 4611686018427387903 = m62 n := by
  rw [show andI .i64 n 4611686018427387903 = n % 4611686018427387904 from mask (k := 62) (by decide) n]
  unfold m62 m62n; omega
theorem and50 (n : Int) : andI .i64 n 1125899906842623 = m50 n := mask (k := 50) (by decide) n
theorem and40 (n : Int) : andI .i64 n 1099511627775 = m40 n := mask (k := 40) (by decide) n
theorem and30 (n : Int) : andI .i64 n 1073741823 = m30 n := mask (k := 30) (by decide) n
theorem and16 (n : Int) : andI .i64 n 65535 = n % 65536 := mask (k := 16) (by decide) n
theorem and10 (n : Int) : andI .i64 n 1023 = n % 1024 := mask (k := 10) (by decide) n
theorem and5 (n : Int) : andI .i64 n 31 = n % 32 := mask (k := 5) (by decide) n
theorem and3 (n : Int) : andI .i64 n 7 = n % 8 := mask (k := 3) (by decide) n
theorem and2 (n : Int) : andI .i64 n 3 = n % 4 := mask (k := 2) (by decide) n
theorem and1 (n : Int) : andI .i64 n 1 = n % 2 := mask (k := 1) (by decide) n
theorem rem_pos {a c : Int} (h : 0 ≤ a) : a.tmod c = a % c := Int.tmod_eq_emod_of_nonneg h
theorem and2n (n : Int) : andI .i64 n 3 = (((n % 4).toNat : Nat) : Int) := by rw [and2]; omega
theorem m62_lt (n : Int) : 0 ≤ m62 n ∧ m62 n < 4611686018427387904 := by unfold m62 m62n; omega
theorem m50_lt (n : Int) : 0 ≤ m50 n ∧ m50 n < 1125899906842624 := by unfold m50; omega
theorem m40_lt (n : Int) : 0 ≤ m40 n ∧ m40 n < 1099511627776 := by unfold m40; omega
theorem m30_lt (n : Int) : 0 ≤ m30 n ∧ m30 n < 1073741824 := by unfold m30; omega
theorem quoNat (m : Nat) (d : Nat) (h : m < 9223372036854775808) : IntKind.i64.wrap (((m : Nat) : Int).tdiv ((d : Nat) : Int)) = ((m / d : Nat) : Int) := by
  have e : ((m : Nat) : Int).tdiv ((d : Nat) : Int) = ((m / d : Nat) : Int) := by rw [Int.ofNat_tdiv]
  rw [e]
  have := Nat.div_le_self m d
  generalize m / d = q at *
  exact wrap_i64 (by omega) (by omega)

theorem IsI.len {k : IntKind} {v : Value} {l : List Int} {F : Hl} (h : IsI k v l F) : SlLen v l.length := by
  rcases h with ⟨rfl, rfl⟩ | ⟨b, off, cap, cs, T, z, rfl, _⟩
  · exact ⟨_, _, rfl⟩
  · exact ⟨_, _, rfl⟩
theorem IsI.more {k : IntKind} {v : Value} {l : List Int} {F g : Hl} (h : IsI k v l F) (d : Dj g F) : IsI k v l (jn g F) := by
  rcases h with h | ⟨b, off, cap, cs, T, z, h0, h1, h2, h3, h4⟩
  · exact .inl h
  · exact .inr ⟨b, off, cap, cs, T, z, h0, h1, h2, Le.right d _ _ h3, h4⟩
theorem IsI.src {k : IntKind} {v : Value} {l : List Int} {F : Hl} (h : IsI k v l F) {S : World → Prop} (hS : ∀ w, S w → Frm F w) : Src S v l.length (l.map (Value.int k)) 1 := by
  refine ⟨by simp, ?_⟩
  rcases h with ⟨rfl, rfl⟩ | ⟨b, off, cap, cs, T, z, rfl, h1, h2, h3, h4⟩
  · exact .inl ⟨rfl, rfl⟩
  · refine .inr ⟨⟨b, off, none⟩, cap, rfl, fun w s j u hj => ?_⟩
    rw [addL, cell_ofL (hS w s b _ h3)]
    have hl := (List.getElem?_eq_some_iff.1 hj).1
    rw [List.length_map] at hl
    rw [h4 j hl]
    simp only [List.getElem?_map, List.getElem?_eq_getElem hl, Option.map_some] at hj
    simpa [List.getD_eq_getElem?_getD, hl] using hj
theorem IsI.at {k : IntKind} {v : Value} {l : List Int} {F : Hl} (h : IsI k v l F) {j : Nat} (hj : j < l.length) :
    ∃ b off cap cs T z, v = .slice (some ⟨b, off, none⟩) l.length cap ∧ F b = some (.cells (List.toArray cs) T z) ∧ cs[off + j]? = some (.int k (l.getD j 0)) ∧ l.length ≤ cap := by
  rcases h with ⟨_, rfl⟩ | ⟨b, off, cap, cs, T, z, h0, h1, h2, h3, h4⟩
  · simp at hj
  · exact ⟨b, off, cap, cs, T, z, h0, h3, h4 j hj, h1⟩
theorem take_succ_map {l : List Int} {k : Nat} (f : Int → Int) (h : k < l.length) : encs ((l.map f).take (k + 1)) = encs ((l.map f).take k) ++ encs [f (l.getD k 0)] := by
  rw [List.take_add_one, encs_append]; simp [h, List.getD_eq_getElem?_getD]
theorem nums_get {cur : List Value} {l : List Int} {k : Nat} (f : Int → Int) (h : cur.take l.length = ints ((l.map f).take k ++ l.drop k)) (hk : k < l.length) : cur[k]? = some (.int .i64 (l.getD k 0)) := by
  have e := congrArg (fun x => x[k]?) h
  simp only [List.getElem?_take, if_pos hk] at e
  rw [e, ints, List.getElem?_map, List.getElem?_append_right (by simp; omega)]
  simp [List.getD_eq_getElem?_getD, hk, show min k l.length = k by omega]
theorem nums_set {cur : List Value} {l : List Int} {k : Nat} (f : Int → Int) (h : cur.take l.length = ints ((l.map f).take k ++ l.drop k)) (hk : k < l.length) :
    (cur.set k (.int .i64 (f (l.getD k 0)))).take l.length = ints ((l.map f).take (k + 1) ++ l.drop (k + 1)) := by
  have hl : ((l.map f).take k).length = k := by simp; omega
  rw [List.take_set, h, ints, ints]
  have e : (Value.int .i64 (f (l.getD k 0))) = Value.int .i64 (f (l.getD k 0)) := rfl
  rw [← List.map_set, List.set_append_right _ _ (by omega), hl, Nat.sub_self, List.drop_eq_getElem_cons hk, List.set_cons_zero, List.take_add_one, List.append_assoc]
  simp [hk, List.getD_eq_getElem?_getD]
/-- Numbers that are read, one behind the other, and thrown away. -/
def skipN : Nat → List UInt8 → Option (List UInt8)
  | 0, bs => some bs
  | n + 1, bs => match numP bs with
    | none => none
    | some (_, r) => skipN n r
theorem skipN_some {n : Nat} {a : Int} {bs r : List UInt8} (h : numP bs = some (a, r)) : skipN (n + 1) bs = skipN n r := by simp [skipN, h]
theorem skipN_none {n : Nat} {bs : List UInt8} (h : numP bs = none) : skipN (n + 1) bs = none := by simp [skipN, h]
end Leg
