/-
  codec.Read: what a call reads of bytes; what it throws is taken back.
-/

import Derived.Test.YtdekgkmbcdlekaaCodecC
import Derived.Test.YtdekgkmbcdlekaaLegF

namespace Go.Proofs.Ytdekgkmbcdlekaa

open Go Leg Codec Api

set_option maxRecDepth 100000

theorem read1_calm (ob : Nat) (ok : Bool) : DoesD Try.prog 46 #[(.pointer (some ⟨ob, 0, none⟩))] (.returning) (fun _ => True) [blkA ob [(.bool (ok))] 4] (fun e u' H => e = .returned (.tuple #[]) ∧ settle u' = .returning ∧ H = [blkA ob [.bool ok] 4]) := by
  refine DoesD.recover2 (vs := [(.pointer (some ⟨ob, 0, none⟩))]) (n := 15) (u' := .returning) (rv := .nilIface) Try.func46 rfl rfl rfl rfl rfl rfl rfl rfl rfl rfl rfl (fun c0 cs hu => by cases c0; simp only at hu; subst hu; rfl) (fun w0 F c0 cs hF => ?_)
  refine TC.seq (fun K1 hK1 => ?_)
  refine TC.seq (fun K2 hK2 => ?_)
  refine TC.region ?_
  refine TL.v (Want.plain rfl) rfl rfl (PV.move rfl rfl) ?_
  refine TL.v (Want.plain rfl) rfl rfl (PV.nilNil rfl Try.underlying20 rfl) ?_
  refine TL.nil ?_
  refine TE.next hK2 ?_
  clear hK2
  refine TC.yes rfl ?_
  refine TC.ret ?_
  refine TE.passRet ?_
  clear hK1
  refine TE.weak (Sub.refl _) (fun _ s => sep_keep [0] rfl s) ?_
  refine TE.retS0 rfl ?_
  refine ⟨rfl, rfl, ?_⟩
  rfl


theorem read1_thrown (ob : Nat) (ok : Bool) : DoesD Try.prog 46 #[(.pointer (some ⟨ob, 0, none⟩))] (.panicking giveUp) (fun _ => True) [blkA ob [(.bool (ok))] 4] (fun e u' H => e = .returned (.tuple #[]) ∧ settle u' = .returning ∧ H = [blkA ob [.bool false] 4]) := by
  refine DoesD.recover2 (vs := [(.pointer (some ⟨ob, 0, none⟩))]) (n := 15) (u' := .panicking [{ v := (.iface 101 (.agg #[])), recovered := true }]) (rv := (.iface 101 (.agg #[]))) Try.func46 rfl rfl rfl rfl rfl rfl rfl rfl rfl rfl rfl (fun c0 cs hu => by cases c0; simp only at hu; subst hu; rfl) (fun w0 F c0 cs hF => ?_)
  refine TC.seq (fun K1 hK1 => ?_)
  refine TC.seq (fun K2 hK2 => ?_)
  refine TC.region ?_
  refine TL.v (Want.plain rfl) rfl rfl (PV.move rfl rfl) ?_
  refine TL.v (Want.plain rfl) rfl rfl (PV.ifaceNil rfl Try.underlying20 rfl) ?_
  refine TL.nil ?_
  refine TE.next hK2 ?_
  clear hK2
  refine TC.no rfl ?_
  refine TC.skip ?_
  refine TE.next hK1 ?_
  clear hK1
  refine TC.seq (fun K3 hK3 => ?_)
  refine TC.seq (fun K4 hK4 => ?_)
  refine TC.region ?_
  refine TL.v (Want.plain rfl) rfl rfl (PV.move rfl rfl) ?_
  refine TL.v (Want.plain rfl) rfl rfl (PV.assert rfl Try.underlying101 rfl rfl) ?_
  refine TL.v (Want.plain rfl) rfl rfl (PV.move rfl rfl) ?_
  refine TL.v (Want.plain rfl) rfl rfl (PV.extract (vs := [.agg #[], .bool true]) rfl rfl rfl) ?_
  refine TL.v (Want.plain rfl) rfl rfl (PV.extract (vs := [.agg #[], .bool true]) rfl rfl rfl) ?_
  refine TL.alloc (Want.plain rfl) rfl rfl rfl z101 (fun b2 => ?_)
  change TL _ _ _ _ _ _ _ _ _ [blkA b2 [] 101, blkA ob [(.bool (ok))] 4]
  refine TL.store (vs := []) (i := 0) (H' := [blkA b2 [] 101, blkA ob [(.bool (ok))] 4]) (Want.plain rfl) rfl rfl rfl rfl rfl sz101 (by simp [Value.oneCell']) rfl rfl (lbe rfl) rfl rfl ?_
  refine TL.v (Want.plain rfl) rfl rfl (PV.assign rfl rfl) ?_
  refine TL.nil ?_
  refine TE.next hK4 ?_
  clear hK4
  refine TC.seq (fun K5 hK5 => ?_)
  refine TC.region ?_
  refine TL.v (Want.plain rfl) rfl rfl (PV.move rfl rfl) ?_
  refine TL.v (Want.plain rfl) rfl rfl (PV.not (r := false) rfl rfl rfl) ?_
  refine TL.nil ?_
  refine TE.next hK5 ?_
  clear hK5
  refine TC.no rfl ?_
  refine TC.skip ?_
  refine TE.next hK3 ?_
  clear hK3
  refine TC.region ?_
  refine TL.store1 (i := 1) (H' := [blkA b2 [] 101, blkA ob [(.bool false)] 4]) (Want.plain rfl) rfl rfl rfl rfl rfl sz4 rfl rfl (lb rfl) rfl rfl ?_
  refine TL.nil ?_
  refine TE.weak (Sub.refl _) (fun _ s => sep_keep [1] rfl s) ?_
  refine TE.endS0 rfl ?_
  refine ⟨rfl, rfl, ?_⟩
  exact rfl


theorem read_does {fid : Nat} {caps : List Value} {x : Value} {bs : List UInt8} {C G : HP} {A : List UInt8 → HP} {R : Hl → Prop} (hR : ∀ F, R F → IsB x bs F) (hmono : ∀ F g, R F → Dj g F → R (jn g F)) (hN : Named Try.prog fid)
    (hc : ∀ rb, Does Try.prog fid ([Value.pointer (some ⟨rb, 0, none⟩)] ++ caps).toArray R [blkA rb [x] 99, C] (RetP (fun _ H => ∃ x' r, H = [blkA rb [x'] 99, A r] ∧ Tail x bs x' r) (fun c H => c = giveUp ∧ ∃ x', H = [blkA rb [x'] 99, G]))) :
    Does Try.prog 29 #[x, .func (.func fid) #[] caps.toArray] R [C] (Ret (fun v H => (∃ r, v = .bool (decide (r = [])) ∧ H = [A r]) ∨ (v = .bool false ∧ H = [G]))) := by
  refine Does.bodyD (vs := [x, .func (.func fid) #[] caps.toArray]) (n := 21) Try.func29 rfl rfl rfl (fun w0 F hF => ?_)
  refine TC.seq (fun K1 hK1 => ?_)
  refine TC.region ?_
  refine TL.alloc (Want.plain rfl) rfl rfl rfl z4 (fun b4 => ?_)
  change TL _ _ _ _ _ _ _ _ _ [blkA b4 [(.bool false)] 4, C]
  refine TL.nil ?_
  refine TE.next hK1 ?_
  clear hK1
  refine TC.seq (fun K2 hK2 => ?_)
  refine TC.region ?_
  refine TL.v (Want.plain rfl) rfl rfl (PV.move rfl rfl) ?_
  refine TL.v (Want.plain rfl) rfl rfl (PV.buildOne rfl Try.underlying99 z99 rfl sz27 rfl (hR _ hF).one) ?_
  refine TL.box (Want.plain rfl) rfl rfl rfl rfl (fun b8 => ?_)
  change TL _ _ _ _ _ _ _ _ _ [blkA b8 [x] 99, blkA b4 [(.bool false)] 4, C]
  refine TL.v (Want.plain rfl) rfl rfl (PV.assign rfl rfl) ?_
  refine TL.nil ?_
  refine TE.next hK2 ?_
  clear hK2
  refine TC.seq (fun K3 hK3 => ?_)
  refine TC.region ?_
  refine TL.v (Want.plain rfl) rfl rfl (PV.mkFunc rfl rfl) ?_
  refine TL.deferFn (Want.plain rfl) rfl rfl rfl ?_
  refine TL.nil ?_
  refine TE.next hK3 ?_
  clear hK3
  refine TC.seq (fun K4 hK4 => ?_)
  refine TC.seq (fun K5 hK5 => ?_)
  refine TC.region ?_
  refine TL.v (Want.plain rfl) rfl rfl (PV.move rfl rfl) ?_
  refine TL.v (Want.plain rfl) rfl rfl (PV.funcNeqNil rfl Try.underlying78 rfl) ?_
  refine TL.nil ?_
  refine TE.next hK5 ?_
  clear hK5
  refine TC.yes rfl ?_
  refine TC.region ?_
  refine TL.v (Want.plain rfl) rfl rfl (PV.move rfl rfl) ?_
  refine TL.v (Want.plain rfl) rfl rfl (PV.move rfl rfl) ?_
  refine TL.callPv (A := [blkA b8 [x] 99, C]) (B := [blkA b4 [(.bool false)] 4]) (Want.plain rfl) rfl rfl rfl rfl hN rfl (hc b8) (fun _ s => sep_selR [0, 1] rfl s) (IsMono hmono hF) (fun cP HP hP => ?_) (fun vR HR hR' => ?_)
  · skip
    obtain ⟨rfl, x', rfl⟩ := hP
    change TE _ _ _ _ _ _ _ [blkA b8 [x'] 99, G, blkA b4 [(.bool false)] 4]
    refine TE.passPanic ?_
    clear hK4
    intro a w fr sm m
    refine leaves_one (b := b4) (e := 4) (A := [blkA b4 [(.bool false)] 4]) (B := [blkA b8 [x'] 99, G]) (H' := [G]) fr sm m (by simp) nm46 (read1_thrown b4 _) (fun _ s => sep_selR [2] rfl s) (fun _ _ _ => trivial) rfl rfl Try.underlying4 rfl (fun H1 h1 => ?_)
    subst h1
    refine ⟨[.bool false], .bool false, Rd.own 0 rfl rfl, rfl, fun _ s => sep_keep [2] rfl s, ?_⟩
    exact .inr ⟨rfl, rfl⟩
  obtain ⟨x', r, rfl, htl⟩ := hR'
  change TL _ _ _ _ _ _ _ _ _ [blkA b8 [x'] 99, (A r), blkA b4 [(.bool false)] 4]
  have hB := htl F (hR _ hF)
  rcases hB with ⟨rfl, rfl⟩ | ⟨b, off, cap, cs, T, z, rfl, hB1, hB2, hB3, hB4⟩
  · skip
    refine TL.nil ?_
    refine TE.next hK4 ?_
    clear hK4
    refine TC.seq (fun K6 hK6 => ?_)
    refine TC.region ?_
    refine TL.v (Want.plain rfl) rfl rfl (PV.move rfl rfl) ?_
    refine TL.v (Want.plain rfl) rfl rfl (PV.nilCheck rfl rfl) ?_
    refine TL.v (Want.plain rfl) rfl rfl (PV.fieldAddr (r := 0) rfl Try.underlying99 rfl sz27 rfl rfl) ?_
    refine TL.v (Want.plain rfl) rfl rfl (PV.load1 (v := (.slice none 0 0)) rfl Try.underlying27 rfl rfl (Rd.own 0 rfl rfl) rfl) ?_
    refine TL.v (Want.plain rfl) rfl rfl (PV.lenSl rfl Try.underlying27 rfl) ?_
    refine TL.v (Want.plain rfl) rfl rfl (PV.eql rfl rfl rfl) ?_
    refine TL.store1 (i := 2) (H' := [blkA b8 [(.slice none 0 0)] 99, (A []), blkA b4 [(.bool true)] 4]) (Want.plain rfl) rfl rfl rfl rfl rfl sz4 rfl rfl (lb rfl) rfl rfl ?_
    refine TL.nil ?_
    refine TE.next hK6 ?_
    clear hK6
    refine TC.ret ?_
    intro a w fr sm m
    refine leaves_one (b := b4) (e := 4) (A := [blkA b4 [(.bool true)] 4]) (B := [blkA b8 [(.slice none 0 0)] 99, (A [])]) (H' := [(A [])]) fr sm m (by simp) nm46 (read1_calm b4 _) (fun _ s => sep_selR [2] rfl s) (fun _ _ _ => trivial) rfl rfl Try.underlying4 rfl (fun H1 h1 => ?_)
    subst h1
    refine ⟨[.bool true], .bool true, Rd.own 0 rfl rfl, rfl, fun _ s => sep_keep [2] rfl s, ?_⟩
    exact .inl ⟨[], rfl, rfl⟩
  · skip
    refine TL.nil ?_
    refine TE.next hK4 ?_
    clear hK4
    refine TC.seq (fun K7 hK7 => ?_)
    refine TC.region ?_
    refine TL.v (Want.plain rfl) rfl rfl (PV.move rfl rfl) ?_
    refine TL.v (Want.plain rfl) rfl rfl (PV.nilCheck rfl rfl) ?_
    refine TL.v (Want.plain rfl) rfl rfl (PV.fieldAddr (r := 0) rfl Try.underlying99 rfl sz27 rfl rfl) ?_
    refine TL.v (Want.plain rfl) rfl rfl (PV.load1 (v := (.slice (some ⟨b, off, none⟩) (r.length) (cap))) rfl Try.underlying27 rfl rfl (Rd.own 0 rfl rfl) rfl) ?_
    refine TL.v (Want.plain rfl) rfl rfl (PV.lenSl rfl Try.underlying27 rfl) ?_
    refine TL.v (Want.plain rfl) rfl rfl (PV.eql rfl rfl rfl) ?_
    refine TL.store1 (i := 2) (H' := [blkA b8 [(.slice (some ⟨b, off, none⟩) (r.length) (cap))] 99, (A r), blkA b4 [(.bool (decide (((r.length : Nat) : Int) = 0)))] 4]) (Want.plain rfl) rfl rfl rfl rfl rfl sz4 rfl rfl (lb rfl) rfl rfl ?_
    refine TL.nil ?_
    refine TE.next hK7 ?_
    clear hK7
    refine TC.ret ?_
    intro a w fr sm m
    refine leaves_one (b := b4) (e := 4) (A := [blkA b4 [(.bool (decide (((r.length : Nat) : Int) = 0)))] 4]) (B := [blkA b8 [(.slice (some ⟨b, off, none⟩) (r.length) (cap))] 99, (A r)]) (H' := [(A r)]) fr sm m (by simp) nm46 (read1_calm b4 _) (fun _ s => sep_selR [2] rfl s) (fun _ _ _ => trivial) rfl rfl Try.underlying4 rfl (fun H1 h1 => ?_)
    subst h1
    refine ⟨[.bool (decide (((r.length : Nat) : Int) = 0))], .bool (decide (((r.length : Nat) : Int) = 0)), Rd.own 0 rfl rfl, rfl, fun _ s => sep_keep [2] rfl s, ?_⟩
    exact .inl ⟨r, by congr 1; rw [decide_eq_decide]; cases r <;> simp <;> omega, rfl⟩


end Go.Proofs.Ytdekgkmbcdlekaa
