/-
  Channels are made.
-/
import Derived.Test.YtdekgkmbcdlekaaLegU
namespace Leg
open Go Codec Api

section
variable {P : Program} {w0 : World} {F : Hl} {n : Nat} {ops : Array Oper} {Q : QQ} {D : List Deferred} {L : List (Nat × Value)} {H : List HP} {o : Oper} {l : List Oper} {d : Nat}
/-- A channel with places, nothing in it: s sent, r received so far. -/
def chanP (c cap : Nat) (vs : List Value) (s r : Nat) : HP := obj c (.chan cap vs.toArray false s r false)
theorem TL.makeChan {t e : TypeId} {dir : ChanDir} {x : Operand} {k bytes : Nat} (hw : Want n D ops o L) (ho : o.op = .makeChan t x) (hd : o.dst = some d) (hn : Nat.blt d n = true) (ht : P.underlying t = some (.chan dir e)) (hi : (P.info? e).map (·.bytes) = some bytes)
    (hx : evL L x = some (.int .i64 ((k : Nat) : Int))) (hb : bytes * k ≤ 281474976710544) (hk : k ≤ 9223372036854775807)
    (h : ∀ c, TL P w0 F n ops Q l D ((d, .chan (some c)) :: L) (chanP c k [] 0 0 :: H)) : TL P w0 F n ops Q (o :: l) D L H :=
  TL.step hw fun a w f s m => by
    unfold Oper.wp
    cases hi' : P.info? e with
    | none => rw [hi'] at hi; cases hi
    | some i =>
      rw [hi'] at hi
      have hbb : i.bytes = bytes := by simpa using hi
      have a1 : ¬ (((k : Nat) : Int) < 0) := by omega
      have a2 : ¬ (9223372036854775807 < ((k : Nat) : Int)) := by omega
      have a3 : ¬ (281474976710544 < (i.bytes : Int) * ((k : Nat) : Int)) := by
        have : (i.bytes : Int) * ((k : Nat) : Int) ≤ 281474976710544 := by rw [hbb, ← Int.natCast_mul]; exact Int.ofNat_le.2 hb
        omega
      have hc : (Instr.makeChan t (.int .i64 ((k : Nat) : Int))).run P w = .ok (.chan (some w.heap.size)) (w.alloc (.chan k #[] false 0 0 false)) := by
        simp [Instr.makeChan, run_underlying ht, typeInfo, hi', asInt, asIntOf, IntKind.max, IntKind.signed, IntKind.bits, a1, a2, a3]
      have r : (execOp a.eval o).run P w = .ok (.value (.chan (some w.heap.size))) (w.alloc (.chan k #[] false 0 0 false)) := by
        simp [execOp, ho, f.eval hx, Sem.run_bind, hc]
      rw [r, Oper.upon_value, hd]
      exact h _ _ _ (f.put (lb hn) _) (s.trans ⟨rfl, rfl, rfl, by simp⟩) ((m.alloc _).mono fun h s => star_mono s (fun _ x => x) fun _ x => x)
end
end Leg
