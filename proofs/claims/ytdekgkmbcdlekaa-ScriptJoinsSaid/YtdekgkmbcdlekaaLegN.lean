/-
  copy, max, min; a map against nil.
-/
import Derived.Test.YtdekgkmbcdlekaaLegH
import Derived.Test.YtdekgkmbcdlekaaLegM
import Derived.Laws.CopyRow
namespace Leg
open Go Codec Api
section
variable {P : Program} {w0 : World} {F : Hl} {n : Nat} {ops : Array Oper} {Q : QQ} {D : List Deferred} {L : List (Nat × Value)} {H : List HP} {o : Oper} {l : List Oper} {d : Nat} {S : World → Prop}
/-- copy into a piece. -/
theorem TL.copy {H' : List HP} {t t2 e et b off dl dc m i : Nat} {x y : Operand} {vy : Value} {cs cs' news : List Value} (hw : Want n D ops o L)
    (ho : o.op = .call { callee := .builtin .copy, args := #[x, y], argTypes := #[t, t2] }) (hd : o.dst = some d) (hn : Nat.blt d n = true) (ht : P.underlying t = some (.slice e)) (hs : (P.info? e).map (·.size) = some 1)
    (hx : evL L x = some (.slice (some ⟨b, off, none⟩) dl dc)) (hy : evL L y = some vy) (hi : Nat.blt i H.length = true) (hH : H.getD i (fun _ => True) = blkA b cs et)
    (hsrc : ∀ w, Sat H F w → Src (Sat H F) vy m news 1) (h1 : ∀ u ∈ news, u.oneCell' = true) (hfit : off + min m dl ≤ cs.length) (hcs : wr cs off (news.take (min m dl)) = cs') (hH' : H.set i (blkA b cs' et) = H')
    (h : TL P w0 F n ops Q l D ((d, .int .i64 ((min m dl : Nat) : Int)) :: L) H') : TL P w0 F n ops Q (o :: l) D L H :=
  TL.step hw fun a w f sm q => by
    obtain ⟨hl, hxx⟩ := hsrc w q
    rw [Nat.mul_one] at hl
    have hb := q.block i (lb hi) hH
    have hlen : (news.take (min m dl)).length = min m dl := by rw [List.length_take, hl]; omega
    have hr : (Builtin.copy_ #[t, t2] o.type #[.slice (some ⟨b, off, none⟩) dl dc, vy]).run P w = .ok (.int .i64 ((min m dl : Nat) : Int)) (w.setRow b (wr cs off (news.take (min m dl))).toArray) := by
      rcases hxx with ⟨rfl, h0⟩ | ⟨a0, c, rfl, hc⟩
      · subst h0
        have := run_copy_nil (P := P) w t t2 o.type e ⟨b, off, none⟩ dl dc ht (by rw [hs]; rfl)
        rw [this]
        have hn0 : news = [] := List.eq_nil_of_length_eq_zero hl
        subst hn0
        simp only [Nat.zero_min, List.take_nil, wr, List.append_nil, List.length_nil, Nat.add_zero, List.take_append_drop]
        have := setRow_self w b cs.toArray et (0, 0) hb
        simp only [goInt] 
        congr 1
        exact this.symm
      · have := run_copy_row (P := P) w t t2 o.type e b off dl dc a0 m c cs.toArray et (news.take (min m dl)) ht hs hb hlen (fun j v hj => by
          rw [List.getElem?_take] at hj
          split at hj
          · exact hc w q j v hj
          · cases hj) (by rw [hlen]; simpa using hfit) (fun v hv => by
          have := h1 v (List.mem_of_mem_take hv)
          cases v <;> simp_all [Value.oneCell'])
        rw [this, hlen]
        simp [goInt, wr, hlen]
    unfold Oper.wp execOp
    simp only [ho, resolve, invoke, builtin, Sem.run_bind, Sem.run_pure, Result.andThen_ok, List.map_toArray, List.map_cons, List.map_nil, f.eval hx, f.eval hy, hr]
    rw [Oper.upon_value, hd]
    subst hcs; subst hH'
    refine h _ _ (f.put (lb hn) _) (sm.trans ⟨rfl, rfl, rfl, by simp⟩) (q.write i (lb hi) hH (setRow_heap w b cs.toArray _ et _ hb) (fun k hk => setRow_other w b k _ hk))
theorem PV.maxI {t1 t2 : TypeId} {x y : Operand} {k : IntKind} {a b : Int} (ho : o.op = .call { callee := .builtin .max, args := #[x, y], argTypes := #[t1, t2] }) (hx : evL L x = some (.int k a)) (hy : evL L y = some (.int k b)) : PV P n D L S o (.int k (max a b)) := fun c w f _ => by
  simp [execOp, ho, resolve, invoke, builtin, f.eval hx, f.eval hy, Builtin.max_, Builtin.max2]
  split <;> (first | omega | (simp; omega) | simp_all)
theorem PV.minI {t1 t2 : TypeId} {x y : Operand} {k : IntKind} {a b : Int} (ho : o.op = .call { callee := .builtin .min, args := #[x, y], argTypes := #[t1, t2] }) (hx : evL L x = some (.int k a)) (hy : evL L y = some (.int k b)) : PV P n D L S o (.int k (min a b)) := fun c w f _ => by
  simp [execOp, ho, resolve, invoke, builtin, f.eval hx, f.eval hy, Builtin.min_, Builtin.min2]
  split <;> (first | omega | (simp; omega) | simp_all)
end
end Leg
