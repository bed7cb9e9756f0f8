/-
  Layer 15's statements: what they begin with.
-/

import Derived.Test.YtdekgkmbcdlekaaLaw15A
import Derived.Test.YtdekgkmbcdlekaaLaw15Q

namespace Go.Proofs.Ytdekgkmbcdlekaa

open Go Leg Codec Api

set_option linter.unusedSimpArgs false
set_option linter.unusedVariables false

set_option maxRecDepth 100000

set_option maxHeartbeats 8000000

theorem decode_is {x : Value} {bs : List UInt8} {m : MsgT} {e : Int} (h : decM bs = (m, e)) : Does Try.prog 13 #[x] (IsB x bs) [] (Ret (fun r' H => r' = .tuple #[.agg (ints m.flat).toArray, .int .i64 e] ∧ H = [])) :=
  (decode_does x bs).conv (fun _ s => s) fun e' H F w hp m' => by
    cases e' with
    | returned v => obtain ⟨h1, h2⟩ := hp; rw [h] at h1; exact ⟨H, m', h1, h2⟩
    | panicked c => exact hp.elim
    | outgrown => exact hp.elim

theorem readRecord_is {x : Value} {bs : List UInt8} {m : RecT} {e : Int} (h : decR bs = (m, e)) : Does Try.prog 20 #[x] (IsB x bs) [] (Ret (fun r' H => r' = .tuple #[.agg (ints m.flat).toArray, .int .i64 e] ∧ H = [])) :=
  (readRecord_does x bs).conv (fun _ s => s) fun e' H F w hp m' => by
    cases e' with
    | returned v => obtain ⟨h1, h2⟩ := hp; rw [h] at h1; exact ⟨H, m', h1, h2⟩
    | panicked c => exact hp.elim
    | outgrown => exact hp.elim

def fitM : MsgT := ⟨1, 0, .zero, 3, 0, .zero, .zero, .zero, .zero⟩
theorem fit_dec : decM [1, 3] = (fitM, 0) := by kernel_rfl
theorem fit_enc : encM fitM = [1, 3] := by
  have h := fun n (h : n < 128) => encU_lo h
  simp [encM, fitM, kRow, encs, encN, encU_lo]

theorem fit_row : rightR RowT.zero = true := by decide +kernel
theorem fit_view : rightV firstV = true := GoodV.first.right

theorem rowRight_is {x : RowT} {b : Bool} (hw : WF x.flat) (h : rightR x = b) : Does Try.prog 21 #[.agg (ints x.flat).toArray] (fun _ => True) [] (Ret (fun r' H => r' = .bool b ∧ H = [])) := by
  subst h; exact rowRight_does x hw

theorem viewRight_is {x : ViewT} {b : Bool} (hw : Rng x) (h : rightV x = b) : Does Try.prog 16 #[.agg (ints x.flat).toArray] (fun _ => True) [] (Ret (fun r' H => r' = .bool b ∧ H = [])) := by
  subst h; exact viewRight_does x hw

theorem fit1_does (rb : Nat) (v : Value) (bs : List UInt8) :
    Does Try.prog 30 #[(.pointer (some ⟨rb, 0, none⟩))] (IsB v bs) [blkA rb [v] 99] (RetP (fun _ H => ∃ x' r a, H = blkA rb [x'] 99 :: (fun _ : Unit => []) a ∧ Tail v bs x' r ∧ bs = r) (fun c H => c = giveUp ∧ ∃ x' b, H = blkA rb [x'] 99 :: (fun _ : Unit => []) b ∧ False)) := by
  refine Does.body (vs := [(.pointer (some ⟨rb, 0, none⟩))]) (n := 2) Try.func30 rfl rfl rfl (fun w0 F hF => ?_)
  refine TC.skip ?_
  refine TE.weak (Sub.refl _) (fun _ s => sep_keep [0] rfl s) ?_
  refine TE.end0 rfl ?_
  exact ⟨_, _, (), rfl, Tail.refl _ _, rfl⟩


theorem fit_does  :
    Does Try.prog 10 #[] (fun _ => True) [] (Ret (fun r' H => r' = .bool true ∧ H = [])) := by
  refine Does.body (vs := []) (n := 37) Try.func10 rfl rfl rfl (fun w0 F hF => ?_)
  refine TC.seq (fun K1 hK1 => ?_)
  refine TC.region ?_
  refine TL.v (Want.plain rfl) rfl rfl (PV.assign rfl rfl) ?_
  refine TL.nil ?_
  refine TE.next hK1 ?_
  clear hK1
  refine TC.seq (fun K2 hK2 => ?_)
  refine TC.region ?_
  refine TL.buildSlice (cells := #[(.int .u8 1), (.int .u8 3)]) (Want.plain rfl) rfl rfl rfl Try.underlying27 in5 rfl rfl rfl (by as_aux_lemma => kernel_rfl) (fun b4 => ?_)
  change TL _ _ _ _ _ _ _ _ _ [blkA b4 [(.int .u8 1), (.int .u8 3)] 5]
  refine TL.callR (A := []) (B := [blkA b4 [(.int .u8 1), (.int .u8 3)] 5]) (Want.plain rfl) rfl rfl rfl nm13 rfl (decode_is (fit_dec)) (fun _ s => s) (isB_blk (bs := [1, 3]) 0 (by simp) rfl rfl) (fun vR HR hR => ?_)
  obtain ⟨rfl, rfl⟩ := hR
  change TL _ _ _ _ _ _ _ _ _ [blkA b4 [(.int .u8 1), (.int .u8 3)] 5]
  refine TL.v (Want.plain rfl) rfl rfl (PV.move rfl rfl) ?_
  refine TL.v (Want.plain rfl) rfl rfl (PV.extract (vs := [(.agg (ints fitM.flat).toArray), (.int .i64 0)]) rfl rfl rfl) ?_
  refine TL.v (Want.plain rfl) rfl rfl (PV.extract (vs := [(.agg (ints fitM.flat).toArray), (.int .i64 0)]) rfl rfl rfl) ?_
  refine TL.alloc (Want.plain rfl) rfl rfl rfl z44 (fun b1 => ?_)
  change TL _ _ _ _ _ _ _ _ _ [blkA b1 (ints MsgT.zero.flat) 44, blkA b4 [(.int .u8 1), (.int .u8 3)] 5]
  refine TL.store (vs := ints fitM.flat) (i := 0) (H' := [blkA b1 (ints fitM.flat) 44, blkA b4 [(.int .u8 1), (.int .u8 3)] 5]) (Want.plain rfl) rfl rfl rfl rfl rfl (by rw [(MsgT.len fitM)]; exact sz44) (ints_one _) rfl rfl (by have h0 := (MsgT.len MsgT.zero); have h1 := (MsgT.len fitM); omega) (wwhole ((MsgT.len MsgT.zero).trans (MsgT.len fitM).symm)) rfl ?_
  refine TL.v (Want.plain rfl) rfl rfl (PV.assign rfl rfl) ?_
  refine TL.nil ?_
  refine TE.next hK2 ?_
  clear hK2
  refine TC.seq (fun K3 hK3 => ?_)
  refine TC.region ?_
  refine TL.v (Want.plain rfl) rfl rfl (PV.move rfl rfl) ?_
  refine TL.v (Want.plain rfl) rfl rfl (PV.eql rfl rfl rfl) ?_
  refine TL.v (Want.plain rfl) rfl rfl (PV.move rfl rfl) ?_
  refine TL.v (Want.met rfl rfl rfl) rfl rfl (PV.fieldAddr (r := 0) rfl Try.underlying44 rfl sz3 rfl rfl) ?_
  refine TL.v (Want.met rfl rfl rfl) rfl rfl (PV.load1 (v := (.int .i64 (fitM.kind))) rfl Try.underlying3 rfl rfl (Rd.own 0 rfl rfl) (MsgT.at_kind fitM rfl)) ?_
  refine TL.v (Want.met rfl rfl rfl) rfl rfl (PV.eql rfl rfl rfl) ?_
  refine TL.dec (fun h13 => ?_) (fun h13 => ?_)
  · skip
    refine TL.v (Want.plain rfl) rfl rfl (PV.pick rfl rfl rfl) ?_
    refine TL.v (Want.plain rfl) rfl rfl (PV.move rfl rfl) ?_
    refine TL.v (Want.met rfl rfl rfl) rfl rfl (PV.fieldAddr (r := 176) rfl Try.underlying44 rfl sz3 rfl rfl) ?_
    refine TL.v (Want.met rfl rfl rfl) rfl rfl (PV.load1 (v := (.int .i64 (fitM.version))) rfl Try.underlying3 rfl rfl (Rd.own 0 rfl rfl) (MsgT.at_version fitM rfl)) ?_
    refine TL.v (Want.met rfl rfl rfl) rfl rfl (PV.eql rfl rfl rfl) ?_
    refine TL.dec (fun h18 => ?_) (fun h18 => ?_)
    · skip
      refine TL.v (Want.plain rfl) rfl rfl (PV.pick rfl rfl rfl) ?_
      refine TL.v (Want.plain rfl) rfl rfl (PV.move rfl rfl) ?_
      refine TL.v (Want.met rfl rfl rfl) rfl rfl (PV.loadN (vs := ints fitM.flat) rfl Try.underlying44 rfl sz44 rfl (Rd.own 0 rfl rfl) (MsgT.len fitM) (whole (MsgT.len fitM))) ?_
      refine TL.callR (A := []) (B := [blkA b1 (ints fitM.flat) 44, blkA b4 [(.int .u8 1), (.int .u8 3)] 5]) (Want.met rfl rfl rfl) rfl rfl rfl nm19 rfl (encode_does fitM) (fun _ s => s) (fun _ _ _ => trivial) (fun vR HR hR => ?_)
      obtain ⟨_, rfl, rfl⟩ := hR
      revert vR
      intro ue1
      change TL _ _ _ _ _ _ _ _ _ [ownB ue1 (encM fitM) 5, blkA b1 (ints fitM.flat) 44, blkA b4 [(.int .u8 1), (.int .u8 3)] 5]
      refine TL.ownLen 0 rfl rfl (fun hlue1 _ => ?_)
      refine TL.v (Want.met rfl rfl rfl) rfl rfl (PV.lenV rfl Try.underlying27 rfl hlue1) ?_
      refine TL.v (Want.met rfl rfl rfl) rfl rfl (PV.eql rfl rfl rfl) ?_
      refine TL.dec (fun h24 => ?_) (fun h24 => ?_)
      · skip
        refine TL.v (Want.plain rfl) rfl rfl (PV.pick rfl rfl rfl) ?_
        refine TL.v (Want.plain rfl) rfl rfl (PV.move rfl rfl) ?_
        refine TL.v (Want.met rfl rfl rfl) rfl rfl (PV.build (cells := (ints RowT.zero.flat).toArray) rfl rfl (by as_aux_lemma => kernel_rfl)) ?_
        refine TL.callR (A := []) (B := [ownB ue1 (encM fitM) 5, blkA b1 (ints fitM.flat) 44, blkA b4 [(.int .u8 1), (.int .u8 3)] 5]) (Want.met rfl rfl rfl) rfl rfl rfl nm21 rfl (rowRight_is wf_zero fit_row) (fun _ s => s) (fun _ _ _ => trivial) (fun vR HR hR => ?_)
        obtain ⟨rfl, rfl⟩ := hR
        change TL _ _ _ _ _ _ _ _ _ [ownB ue1 (encM fitM) 5, blkA b1 (ints fitM.flat) 44, blkA b4 [(.int .u8 1), (.int .u8 3)] 5]
        refine TL.v (Want.plain rfl) rfl rfl (PV.pick rfl rfl rfl) ?_
        refine TL.v (Want.plain rfl) rfl rfl (PV.move rfl rfl) ?_
        refine TL.callR (A := []) (B := [ownB ue1 (encM fitM) 5, blkA b1 (ints fitM.flat) 44, blkA b4 [(.int .u8 1), (.int .u8 3)] 5]) (Want.met rfl rfl rfl) rfl rfl rfl nm28 rfl (first_does ) (fun _ s => s) (fun _ _ _ => trivial) (fun vR HR hR => ?_)
        obtain ⟨rfl, rfl⟩ := hR
        change TL _ _ _ _ _ _ _ _ _ [ownB ue1 (encM fitM) 5, blkA b1 (ints fitM.flat) 44, blkA b4 [(.int .u8 1), (.int .u8 3)] 5]
        refine TL.callR (A := []) (B := [ownB ue1 (encM fitM) 5, blkA b1 (ints fitM.flat) 44, blkA b4 [(.int .u8 1), (.int .u8 3)] 5]) (Want.met rfl rfl rfl) rfl rfl rfl nm16 rfl (viewRight_is Rng.first fit_view) (fun _ s => s) (fun _ _ _ => trivial) (fun vR HR hR => ?_)
        obtain ⟨rfl, rfl⟩ := hR
        change TL _ _ _ _ _ _ _ _ _ [ownB ue1 (encM fitM) 5, blkA b1 (ints fitM.flat) 44, blkA b4 [(.int .u8 1), (.int .u8 3)] 5]
        refine TL.v (Want.plain rfl) rfl rfl (PV.pick rfl rfl rfl) ?_
        refine TL.v (Want.plain rfl) rfl rfl (PV.move rfl rfl) ?_
        refine TL.callR (A := []) (B := [ownB ue1 (encM fitM) 5, blkA b1 (ints fitM.flat) 44, blkA b4 [(.int .u8 1), (.int .u8 3)] 5]) (Want.met rfl rfl rfl) rfl rfl rfl nm29 rfl (read_with (bs := []) (C := []) (caps := []) (A := fun _ : Unit => []) (G := fun _ : Unit => []) (φ := fun _ r => [] = r) (ψ := fun _ => False) (fun _ h => h) (fun _ _ h d => h.more d) nm30 (fun rb => fit1_does rb (.slice none 0 0) [])) (fun _ s => s) (fun _ _ _ => .inl ⟨rfl, rfl⟩) (fun vR HR hR => ?_)
        rcases hR with ⟨r, _, rfl, rfl, hs⟩ | ⟨_, _, _, hs⟩
        · skip
          subst hs
          change TL _ _ _ _ _ _ _ _ _ [ownB ue1 (encM fitM) 5, blkA b1 (ints fitM.flat) 44, blkA b4 [(.int .u8 1), (.int .u8 3)] 5]
          refine TL.v (Want.plain rfl) rfl rfl (PV.pick rfl rfl rfl) ?_
          refine TL.v (Want.plain rfl) rfl rfl (PV.assign rfl rfl) ?_
          refine TL.nil ?_
          refine TE.next hK3 ?_
          clear hK3
          refine TC.ret ?_
          refine TE.weak (Sub.refl _) (fun _ s => sep_keep [] rfl s) ?_
          refine TE.ret1 rfl rfl ?_
          exact ⟨rfl, rfl⟩
        · exact hs.elim
      · exact absurd (by rw [fit_enc]; rfl) h24
    · exact absurd rfl h18
  · exact absurd rfl h13


end Go.Proofs.Ytdekgkmbcdlekaa
