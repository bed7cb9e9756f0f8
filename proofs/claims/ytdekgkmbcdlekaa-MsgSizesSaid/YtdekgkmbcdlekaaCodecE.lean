/-
  codec.Read with what the call that is handed in reads, told plainly; the bytes of numbers and back.
-/
import Derived.Test.YtdekgkmbcdlekaaCodecD
namespace Go.Proofs.Ytdekgkmbcdlekaa
open Go Leg Codec Api

/-- Read, by what the function that it is handed does: 'φ': what it knows when it comes to its end with r left; 'ψ': when it gives up. -/
theorem read_with {fid : Nat} {caps : List Value} {x : Value} {bs : List UInt8} {α β : Type} {C : List HP} {A : α → List HP} {G : β → List HP} {φ : α → List UInt8 → Prop} {ψ : β → Prop} {R : Hl → Prop} (hR : ∀ F, R F → IsB x bs F) (hmono : ∀ F g, R F → Dj g F → R (jn g F)) (hN : Named Try.prog fid)
    (hc : ∀ rb, Does Try.prog fid ([Value.pointer (some ⟨rb, 0, none⟩)] ++ caps).toArray R (blkA rb [x] 99 :: C) (RetP (fun _ H => ∃ x' r a, H = blkA rb [x'] 99 :: A a ∧ Tail x bs x' r ∧ φ a r) (fun c H => c = giveUp ∧ ∃ x' b, H = blkA rb [x'] 99 :: G b ∧ ψ b))) :
    Does Try.prog 29 #[x, .func (.func fid) #[] caps.toArray] R C (Ret (fun v H => (∃ r a, v = .bool (decide (r = [])) ∧ H = A a ∧ φ a r) ∨ (∃ b, v = .bool false ∧ H = G b ∧ ψ b))) := by
  have h1 := read_does (C := all C) (G := fun h => ∃ b, ψ b ∧ sep (G b) h) (A := fun r h => ∃ a, φ a r ∧ sep (A a) h) hR hmono hN fun rb =>
    (hc rb).conv (post' := RetP (fun _ H => ∃ x' r, H = [blkA rb [x'] 99, fun h => ∃ a, φ a r ∧ sep (A a) h] ∧ Tail x bs x' r) (fun c H => c = giveUp ∧ ∃ x', H = [blkA rb [x'] 99, fun h => ∃ b, ψ b ∧ sep (G b) h]))
      (fun h s => sep_cons s fun _ => all_sep)
      (fun e H F w hp m => by
        cases e with
        | returned v =>
          obtain ⟨x', r, a, rfl, ht, hf⟩ := hp
          exact ⟨[blkA rb [x'] 99, fun h => ∃ a, φ a r ∧ sep (A a) h], m.mono fun h s => sep_cons s fun h s => sep_single ⟨a, hf, s⟩, x', r, rfl, ht⟩
        | panicked c =>
          obtain ⟨hc, x', b, rfl, hf⟩ := hp
          exact ⟨[blkA rb [x'] 99, fun h => ∃ b, ψ b ∧ sep (G b) h], m.mono fun h s => sep_cons s fun h s => sep_single ⟨b, hf, s⟩, hc, x', rfl⟩
        | outgrown => exact hp.elim)
  refine h1.conv (fun h s => sep_all s) fun e H F w hp m => ?_
  cases e with
  | returned v =>
    rcases hp with ⟨r, hv, rfl⟩ | ⟨hv, rfl⟩
    · obtain ⟨h, d, e, g1, g2, d', rfl, ⟨a, hf, s⟩, _⟩ := m
      exact ⟨A a, ⟨_, d, e, sep_more _ s d'⟩, .inl ⟨r, a, hv, rfl, hf⟩⟩
    · obtain ⟨h, d, e, g1, g2, d', rfl, ⟨b, hf, s⟩, _⟩ := m
      exact ⟨G b, ⟨_, d, e, sep_more _ s d'⟩, .inr ⟨b, hv, rfl, hf⟩⟩
  | panicked c => exact hp.elim
  | outgrown => exact hp.elim
end Go.Proofs.Ytdekgkmbcdlekaa
