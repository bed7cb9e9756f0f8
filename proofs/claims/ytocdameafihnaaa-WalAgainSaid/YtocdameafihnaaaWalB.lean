/-
  Logs, walked.
-/

import Derived.Test.YtocdameafihnaaaWalA
import Derived.Test.YtocdameafihnaaaWalQ
import Derived.Test.YtocdameafihnaaaLegJ

namespace Go.Proofs.Ytocdameafihnaaa

open Go Leg Codec Api Dsk Wal

set_option maxRecDepth 100000

/-- A log. -/
abbrev lgP (lg d : Nat) (cnt used : Int) : HP := blkA lg [.pointer (some ⟨d, 0, none⟩), .int .i64 cnt, .int .i64 used] 71
abbrev rcP (v : Value) (ls : List (List UInt8)) : HP := recsP 28 5 v ls

theorem stands_does (d : Nat) (D : DS) (number at' : Int) (hD : D.Ok) (hb : D.ws.length ≤ 1000000000) (ha : 0 ≤ at' ∧ at' ≤ 1000000) :
    Does Try.prog 33 #[(.pointer (some ⟨d, 0, none⟩)), (.int .i64 (number)), (.int .i64 (at'))] (fun _ => True) [dk d (D)] (Ret (fun v H => (standsP D.read number at' = none ∧ v = .tuple #[.slice none 0 0, .int .i64 0, .bool false] ∧ H = [dk d D]) ∨ ∃ b all u, standsP D.read number at' = some (b, all) ∧ v = .tuple #[u, .int .i64 all, .bool true] ∧ H = [subB u b 5, dk d D])) := by
  refine Does.body (vs := [(.pointer (some ⟨d, 0, none⟩)), (.int .i64 (number)), (.int .i64 (at'))]) (n := 56) Try.func33 rfl rfl rfl (fun w0 F hF => ?_)
  refine TC.seq (fun K1 hK1 => ?_)
  refine TC.region ?_
  refine TL.v (Want.plain rfl) rfl rfl (PV.assign rfl rfl) ?_
  refine TL.v (Want.plain rfl) rfl rfl (PV.assign rfl rfl) ?_
  refine TL.v (Want.plain rfl) rfl rfl (PV.assign rfl rfl) ?_
  refine TL.nil ?_
  refine TE.next hK1 ?_
  clear hK1
  refine TC.seq (fun K2 hK2 => ?_)
  refine TC.region ?_
  refine TL.v (Want.plain rfl) rfl rfl (PV.move rfl rfl) ?_
  refine TL.v (Want.plain rfl) rfl rfl (PV.move rfl rfl) ?_
  refine TL.callR (A := [dk d (D)]) (B := []) (Want.plain rfl) rfl rfl rfl nm21 rfl (dk_read d (D) at' hD hb) (fun _ s => s) (fun _ _ _ => trivial) (fun vR HR hR => ?_)
  obtain ⟨hv, rfl⟩ := hR
  subst hv
  change TL _ _ _ _ _ _ _ _ _ [dk d (D)]
  refine TL.v (Want.plain rfl) rfl rfl (PV.move rfl rfl) ?_
  refine TL.callR (A := []) (B := [dk d (D)]) (Want.plain rfl) rfl rfl rfl nm35 rfl (piece_does ((D).read at') number 0 (DS.read_len hD _)) (fun _ s => s) (fun _ _ _ => trivial) (fun vR HR hR => ?_)
  rcases hR with ⟨hp, rfl, rfl⟩ | ⟨b, all, u, hp, rfl, rfl⟩
  · skip
    change TL _ _ _ _ _ _ _ _ _ [dk d (D)]
    refine TL.v (Want.plain rfl) rfl rfl (PV.move rfl rfl) ?_
    refine TL.v (Want.plain rfl) rfl rfl (PV.extract (vs := [(.slice none 0 0), (.int .i64 0), (.bool false)]) rfl rfl rfl) ?_
    refine TL.v (Want.plain rfl) rfl rfl (PV.extract (vs := [(.slice none 0 0), (.int .i64 0), (.bool false)]) rfl rfl rfl) ?_
    refine TL.v (Want.plain rfl) rfl rfl (PV.extract (vs := [(.slice none 0 0), (.int .i64 0), (.bool false)]) rfl rfl rfl) ?_
    refine TL.v (Want.plain rfl) rfl rfl (PV.assign rfl rfl) ?_
    refine TL.v (Want.plain rfl) rfl rfl (PV.assign rfl rfl) ?_
    refine TL.v (Want.plain rfl) rfl rfl (PV.assign rfl rfl) ?_
    refine TL.nil ?_
    refine TE.next hK2 ?_
    clear hK2
    refine TC.seq (fun K3 hK3 => ?_)
    refine TC.seq (fun K4 hK4 => ?_)
    refine TC.region ?_
    refine TL.v (Want.plain rfl) rfl rfl (PV.move rfl rfl) ?_
    refine TL.v (Want.plain rfl) rfl rfl (PV.not (r := true) rfl rfl rfl) ?_
    refine TL.nil ?_
    refine TE.next hK4 ?_
    clear hK4
    refine TC.yes rfl ?_
    refine TC.seq (fun K5 hK5 => ?_)
    refine TC.region ?_
    refine TL.v (Want.plain rfl) rfl rfl (PV.assign rfl rfl) ?_
    refine TL.v (Want.plain rfl) rfl rfl (PV.assign rfl rfl) ?_
    refine TL.v (Want.plain rfl) rfl rfl (PV.assign rfl rfl) ?_
    refine TL.nil ?_
    refine TE.next hK5 ?_
    clear hK5
    refine TC.ret ?_
    refine TE.passRet ?_
    clear hK3
    refine TE.weak (Sub.refl _) (fun _ s => sep_keep [0] rfl s) ?_
    refine TE.ret3 rfl rfl rfl rfl ?_
    exact .inl ⟨standsP_none1 hp, rfl, rfl⟩
  · skip
    change TL _ _ _ _ _ _ _ _ _ [subB u (b) 5, dk d (D)]
    refine TL.subLen 0 rfl rfl (fun hul hu => ?_)
    have hpf := pieceP_facts (DS.read_len hD _) hp
    refine TL.v (Want.plain rfl) rfl rfl (PV.move rfl rfl) ?_
    refine TL.v (Want.plain rfl) rfl rfl (PV.extract (vs := [u, (.int .i64 (all)), (.bool true)]) rfl rfl rfl) ?_
    refine TL.v (Want.plain rfl) rfl rfl (PV.extract (vs := [u, (.int .i64 (all)), (.bool true)]) rfl rfl rfl) ?_
    refine TL.v (Want.plain rfl) rfl rfl (PV.extract (vs := [u, (.int .i64 (all)), (.bool true)]) rfl rfl rfl) ?_
    refine TL.v (Want.plain rfl) rfl rfl (PV.assign rfl rfl) ?_
    refine TL.v (Want.plain rfl) rfl rfl (PV.assign rfl rfl) ?_
    refine TL.v (Want.plain rfl) rfl rfl (PV.assign rfl rfl) ?_
    refine TL.nil ?_
    refine TE.next hK2 ?_
    clear hK2
    refine TC.seq (fun K6 hK6 => ?_)
    refine TC.seq (fun K7 hK7 => ?_)
    refine TC.region ?_
    refine TL.v (Want.plain rfl) rfl rfl (PV.move rfl rfl) ?_
    refine TL.v (Want.plain rfl) rfl rfl (PV.not (r := false) rfl rfl rfl) ?_
    refine TL.nil ?_
    refine TE.next hK7 ?_
    clear hK7
    refine TC.no rfl ?_
    refine TC.skip ?_
    refine TE.next hK6 ?_
    clear hK6
    refine TC.seq (fun K8 hK8 => ?_)
    refine TC.seq (fun K9 hK9 => ?_)
    refine TC.region ?_
    refine TL.v (Want.plain rfl) rfl rfl (PV.assign rfl rfl) ?_
    refine TL.nil ?_
    refine TE.next hK9 ?_
    clear hK9
    refine TC.block ?_
    refine TC.loop (α := (Nat) × (List UInt8) × (Value)) (fun ⟨k, c, w⟩ => 1 ≤ k ∧ k ≤ all.toNat ∧ moreP D.read number at' all k = some c ∧ c.length ≤ k * 52 ∧ w.oneCell' = true) (fun ⟨k, c, w⟩ => [(0, (.pointer (some ⟨d, 0, none⟩))), (1, (.int .i64 (number))), (2, (.int .i64 (at'))), (9, w), (10, (.int .i64 (all))), (12, (.int .i64 (((k : Nat) : Int))))]) (fun ⟨k, c, w⟩ => [subB w (c) 5, dk d (D)]) (fun ⟨k, c, w⟩ => all.toNat - k) (1, b, u)
        ⟨Nat.le_refl _, by omega, moreP_one hp, by omega, hu⟩ (Sub.r (Sub.r (Sub.r (Sub.r (Sub.r (Sub.cons rfl (by congr 1) (Sub.nil _)))))))
        (fun _ s => s) (fun ⟨k, c, w⟩ hinv => ?_)
    obtain ⟨hk1, hk2, hk3, hk4, hw⟩ := hinv
    refine TC.seq (fun K10 hK10 => ?_)
    refine TC.seq (fun K11 hK11 => ?_)
    refine TC.region ?_
    refine TL.v (Want.plain rfl) rfl rfl (PV.move rfl rfl) ?_
    refine TL.v (Want.plain rfl) rfl rfl (PV.move rfl rfl) ?_
    refine TL.v (Want.plain rfl) rfl rfl (PV.lss rfl rfl rfl) ?_
    refine TL.dec (fun h29 => ?_) (fun h29 => ?_)
    · skip
      refine TL.nil ?_
      refine TE.next hK11 ?_
      clear hK11
      refine TC.yes rfl ?_
      refine TC.skip ?_
      refine TE.next hK10 ?_
      clear hK10
      refine TC.seq (fun K12 hK12 => ?_)
      refine TC.block ?_
      refine TC.seq (fun K13 hK13 => ?_)
      refine TC.region ?_
      refine TL.v (Want.plain rfl) rfl rfl (PV.move rfl rfl) ?_
      refine TL.v (Want.plain rfl) rfl rfl (PV.move rfl rfl) ?_
      refine TL.v (Want.plain rfl) rfl rfl (PV.move rfl rfl) ?_
      refine TL.v (Want.plain rfl) rfl rfl (PV.add rfl rfl rfl (wrap_i64 (by omega) (by omega))) ?_
      refine TL.callR (A := [dk d (D)]) (B := [subB w (c) 5]) (Want.plain rfl) rfl rfl rfl nm21 rfl (dk_read d (D) (at' + ((k : Nat) : Int)) hD hb) (fun _ s => sep_selR [1] rfl s) (fun _ _ _ => trivial) (fun vR HR hR => ?_)
      obtain ⟨hv, rfl⟩ := hR
      subst hv
      change TL _ _ _ _ _ _ _ _ _ [dk d (D), subB w (c) 5]
      refine TL.v (Want.plain rfl) rfl rfl (PV.move rfl rfl) ?_
      refine TL.v (Want.plain rfl) rfl rfl (PV.move rfl rfl) ?_
      refine TL.callR (A := []) (B := [dk d (D), subB w (c) 5]) (Want.plain rfl) rfl rfl rfl nm35 rfl (piece_does ((D).read (at' + ((k : Nat) : Int))) number ((k : Nat) : Int) (DS.read_len hD _)) (fun _ s => s) (fun _ _ _ => trivial) (fun vR HR hR => ?_)
      rcases hR with ⟨hp2, rfl, rfl⟩ | ⟨b2, all2, u2, hp2, rfl, rfl⟩
      · skip
        change TL _ _ _ _ _ _ _ _ _ [dk d (D), subB w (c) 5]
        refine TL.v (Want.plain rfl) rfl rfl (PV.move rfl rfl) ?_
        refine TL.v (Want.plain rfl) rfl rfl (PV.extract (vs := [(.slice none 0 0), (.int .i64 0), (.bool false)]) rfl rfl rfl) ?_
        refine TL.v (Want.plain rfl) rfl rfl (PV.extract (vs := [(.slice none 0 0), (.int .i64 0), (.bool false)]) rfl rfl rfl) ?_
        refine TL.v (Want.plain rfl) rfl rfl (PV.extract (vs := [(.slice none 0 0), (.int .i64 0), (.bool false)]) rfl rfl rfl) ?_
        refine TL.v (Want.plain rfl) rfl rfl (PV.assign rfl rfl) ?_
        refine TL.v (Want.plain rfl) rfl rfl (PV.assign rfl rfl) ?_
        refine TL.v (Want.plain rfl) rfl rfl (PV.assign rfl rfl) ?_
        refine TL.nil ?_
        refine TE.next hK13 ?_
        clear hK13
        refine TC.seq (fun K14 hK14 => ?_)
        refine TC.seq (fun K15 hK15 => ?_)
        refine TC.region ?_
        refine TL.v (Want.plain rfl) rfl rfl (PV.move rfl rfl) ?_
        refine TL.v (Want.plain rfl) rfl rfl (PV.not (r := true) rfl rfl rfl) ?_
        refine TL.v (Want.plain rfl) rfl rfl (PV.move rfl rfl) ?_
        refine TL.unmet (b := true) rfl rfl rfl rfl (lb rfl) ?_
        refine TL.unmet (b := true) rfl rfl rfl rfl (lb rfl) ?_
        refine TL.unmet (b := true) rfl rfl rfl rfl (lb rfl) ?_
        refine TL.v (Want.plain rfl) rfl rfl (PV.pick rfl rfl rfl) ?_
        refine TL.nil ?_
        refine TE.next hK15 ?_
        clear hK15
        refine TC.yes rfl ?_
        refine TC.seq (fun K16 hK16 => ?_)
        refine TC.region ?_
        refine TL.v (Want.plain rfl) rfl rfl (PV.assign rfl rfl) ?_
        refine TL.v (Want.plain rfl) rfl rfl (PV.assign rfl rfl) ?_
        refine TL.v (Want.plain rfl) rfl rfl (PV.assign rfl rfl) ?_
        refine TL.nil ?_
        refine TE.next hK16 ?_
        clear hK16
        refine TC.ret ?_
        refine TE.passRet ?_
        clear hK14
        refine TE.blockRet ?_
        refine TE.passRet ?_
        clear hK12
        refine TE.passRet ?_
        refine TE.blockRet ?_
        refine TE.passRet ?_
        clear hK8
        refine TE.weak (Sub.refl _) (fun _ s => sep_keep [0] rfl s) ?_
        refine TE.ret3 rfl rfl rfl rfl ?_
        exact .inl ⟨standsP_none2 hp (moreP_stop (.inl hp2) _ (by omega)), rfl, rfl⟩
      · skip
        change TL _ _ _ _ _ _ _ _ _ [subB u2 (b2) 5, dk d (D), subB w (c) 5]
        refine TL.subLen 0 rfl rfl (fun hul2 hu2 => ?_)
        have hpf2 := pieceP_facts (DS.read_len hD _) hp2
        refine TL.v (Want.plain rfl) rfl rfl (PV.move rfl rfl) ?_
        refine TL.v (Want.plain rfl) rfl rfl (PV.extract (vs := [u2, (.int .i64 (all2)), (.bool true)]) rfl rfl rfl) ?_
        refine TL.v (Want.plain rfl) rfl rfl (PV.extract (vs := [u2, (.int .i64 (all2)), (.bool true)]) rfl rfl rfl) ?_
        refine TL.v (Want.plain rfl) rfl rfl (PV.extract (vs := [u2, (.int .i64 (all2)), (.bool true)]) rfl rfl rfl) ?_
        refine TL.v (Want.plain rfl) rfl rfl (PV.assign rfl rfl) ?_
        refine TL.v (Want.plain rfl) rfl rfl (PV.assign rfl rfl) ?_
        refine TL.v (Want.plain rfl) rfl rfl (PV.assign rfl rfl) ?_
        refine TL.nil ?_
        refine TE.next hK13 ?_
        clear hK13
        refine TC.seq (fun K17 hK17 => ?_)
        refine TC.seq (fun K18 hK18 => ?_)
        refine TC.region ?_
        refine TL.v (Want.plain rfl) rfl rfl (PV.move rfl rfl) ?_
        refine TL.v (Want.plain rfl) rfl rfl (PV.not (r := false) rfl rfl rfl) ?_
        refine TL.v (Want.plain rfl) rfl rfl (PV.move rfl rfl) ?_
        refine TL.v (Want.met rfl rfl rfl) rfl rfl (PV.move rfl rfl) ?_
        refine TL.v (Want.met rfl rfl rfl) rfl rfl (PV.move rfl rfl) ?_
        refine TL.v (Want.met rfl rfl rfl) rfl rfl (PV.neq rfl rfl rfl) ?_
        refine TL.dec (fun h49 => ?_) (fun h49 => ?_)
        · skip
          refine TL.v (Want.plain rfl) rfl rfl (PV.pick rfl rfl rfl) ?_
          refine TL.nil ?_
          refine TE.next hK18 ?_
          clear hK18
          refine TC.yes rfl ?_
          refine TC.seq (fun K19 hK19 => ?_)
          refine TC.region ?_
          refine TL.v (Want.plain rfl) rfl rfl (PV.assign rfl rfl) ?_
          refine TL.v (Want.plain rfl) rfl rfl (PV.assign rfl rfl) ?_
          refine TL.v (Want.plain rfl) rfl rfl (PV.assign rfl rfl) ?_
          refine TL.nil ?_
          refine TE.next hK19 ?_
          clear hK19
          refine TC.ret ?_
          refine TE.passRet ?_
          clear hK17
          refine TE.blockRet ?_
          refine TE.passRet ?_
          clear hK12
          refine TE.passRet ?_
          refine TE.blockRet ?_
          refine TE.passRet ?_
          clear hK8
          refine TE.weak (Sub.refl _) (fun _ s => sep_keep [1] rfl s) ?_
          refine TE.ret3 rfl rfl rfl rfl ?_
          exact .inl ⟨standsP_none2 hp (moreP_stop (.inr ⟨b2, all2, hp2, h49⟩) _ (by omega)), rfl, rfl⟩
        · skip
          refine TL.v (Want.plain rfl) rfl rfl (PV.pick rfl rfl rfl) ?_
          refine TL.nil ?_
          refine TE.next hK18 ?_
          clear hK18
          refine TC.no rfl ?_
          refine TC.skip ?_
          refine TE.next hK17 ?_
          clear hK17
          refine TC.region ?_
          refine TL.v (Want.plain rfl) rfl rfl (PV.move rfl rfl) ?_
          refine TL.v (Want.plain rfl) rfl rfl (PV.move rfl rfl) ?_
          refine TL.appendS (k := 2) (news := b2) (bs' := c ++ b2) (Want.plain rfl) rfl rfl rfl Try.underlying28 in5 rfl rfl rfl rfl (fun _ s => Src.sub 0 rfl rfl s) (by omega) rfl (fun v53 ov53 => ?_)
          change TL _ _ _ _ _ _ _ _ _ [subB u2 (b2) 5, dk d (D), subB v53 (c ++ b2) 5]
          refine TL.v (Want.plain rfl) rfl rfl (PV.assign rfl rfl) ?_
          refine TL.nil ?_
          refine TE.blockEnd ?_
          refine TE.next hK12 ?_
          clear hK12
          refine TC.region ?_
          refine TL.v (Want.plain rfl) rfl rfl (PV.move rfl rfl) ?_
          refine TL.v (Want.plain rfl) rfl rfl (PV.add rfl rfl rfl (wrap_i64 (by omega) (by omega))) ?_
          refine TL.v (Want.plain rfl) rfl rfl (PV.assign rfl rfl) ?_
          refine TL.nil ?_
          exact TE.round ((k + 1, c ++ b2, v53) : (Nat) × (List UInt8) × (Value)) ⟨by omega, by omega, moreP_go hk3 (by rw [hp2, show all2 = all by omega]), by rw [List.length_append]; omega, ov53⟩ (by show all.toNat - (k + 1) < all.toNat - k; omega)
            (Sub.r (Sub.r (Sub.r (Sub.r (Sub.r (Sub.cons rfl (by simp) (Sub.nil _)))))))
            (fun _ s => sep_keep [2, 1] rfl s)
    · skip
      refine TL.nil ?_
      refine TE.next hK11 ?_
      clear hK11
      refine TC.no rfl ?_
      refine TC.exit ?_
      refine TE.pass ?_
      clear hK10
      refine TE.pass ?_
      refine TE.hit ?_
      refine TE.next hK8 ?_
      clear hK8
      refine TC.seq (fun K20 hK20 => ?_)
      refine TC.region ?_
      refine TL.v (Want.plain rfl) rfl rfl (PV.move rfl rfl) ?_
      refine TL.v (Want.plain rfl) rfl rfl (PV.move rfl rfl) ?_
      refine TL.v (Want.plain rfl) rfl rfl (PV.assign rfl rfl) ?_
      refine TL.v (Want.plain rfl) rfl rfl (PV.assign rfl rfl) ?_
      refine TL.v (Want.plain rfl) rfl rfl (PV.assign rfl rfl) ?_
      refine TL.nil ?_
      refine TE.next hK20 ?_
      clear hK20
      refine TC.ret ?_
      refine TE.weak (Sub.refl _) (fun _ s => sep_keep [0, 0] rfl s) ?_
      refine TE.ret3 rfl rfl rfl rfl ?_
      exact .inr ⟨c, all, w, standsP_some hp (by rw [show all.toNat = k by omega]; exact hk3), rfl, rfl⟩


theorem room_does (lg d : Nat) (cnt used : Int) (h : 0 ≤ used ∧ used ≤ 2048) :
    Does Try.prog 29 #[(.pointer (some ⟨lg, 0, none⟩))] (fun _ => True) [blkA lg [(.pointer (some ⟨d, 0, none⟩)), (.int .i64 (cnt)), (.int .i64 (used))] 71] (Ret (fun v H => v = .int .i64 (2048 - used) ∧ H = [lgP lg d cnt used])) := by
  refine Does.body (vs := [(.pointer (some ⟨lg, 0, none⟩))]) (n := 8) Try.func29 rfl rfl rfl (fun w0 F hF => ?_)
  refine TC.seq (fun K1 hK1 => ?_)
  refine TC.region ?_
  refine TL.v (Want.plain rfl) rfl rfl (PV.assign rfl rfl) ?_
  refine TL.nil ?_
  refine TE.next hK1 ?_
  clear hK1
  refine TC.seq (fun K2 hK2 => ?_)
  refine TC.region ?_
  refine TL.v (Want.plain rfl) rfl rfl (PV.move rfl rfl) ?_
  refine TL.v (Want.plain rfl) rfl rfl (PV.nilCheck rfl rfl) ?_
  refine TL.v (Want.plain rfl) rfl rfl (PV.fieldAddr (r := 2) rfl Try.underlying71 rfl sz3 rfl rfl) ?_
  refine TL.v (Want.plain rfl) rfl rfl (PV.load1 (v := (.int .i64 (used))) rfl Try.underlying3 rfl rfl (Rd.own 0 rfl rfl) rfl) ?_
  refine TL.v (Want.plain rfl) rfl rfl (PV.sub rfl rfl rfl (wrap_i64 (by omega) (by omega))) ?_
  refine TL.v (Want.plain rfl) rfl rfl (PV.assign rfl rfl) ?_
  refine TL.nil ?_
  refine TE.next hK2 ?_
  clear hK2
  refine TC.ret ?_
  refine TE.weak (Sub.refl _) (fun _ s => sep_keep [0] rfl s) ?_
  refine TE.ret1 rfl rfl ?_
  exact ⟨rfl, rfl⟩


theorem len_does (lg d : Nat) (cnt used : Int) :
    Does Try.prog 30 #[(.pointer (some ⟨lg, 0, none⟩))] (fun _ => True) [blkA lg [(.pointer (some ⟨d, 0, none⟩)), (.int .i64 (cnt)), (.int .i64 (used))] 71] (Ret (fun v H => v = .int .i64 cnt ∧ H = [lgP lg d cnt used])) := by
  refine Does.body (vs := [(.pointer (some ⟨lg, 0, none⟩))]) (n := 7) Try.func30 rfl rfl rfl (fun w0 F hF => ?_)
  refine TC.seq (fun K1 hK1 => ?_)
  refine TC.region ?_
  refine TL.v (Want.plain rfl) rfl rfl (PV.assign rfl rfl) ?_
  refine TL.nil ?_
  refine TE.next hK1 ?_
  clear hK1
  refine TC.seq (fun K2 hK2 => ?_)
  refine TC.region ?_
  refine TL.v (Want.plain rfl) rfl rfl (PV.move rfl rfl) ?_
  refine TL.v (Want.plain rfl) rfl rfl (PV.nilCheck rfl rfl) ?_
  refine TL.v (Want.plain rfl) rfl rfl (PV.fieldAddr (r := 1) rfl Try.underlying71 rfl sz3 rfl rfl) ?_
  refine TL.v (Want.plain rfl) rfl rfl (PV.load1 (v := (.int .i64 (cnt))) rfl Try.underlying3 rfl rfl (Rd.own 0 rfl rfl) rfl) ?_
  refine TL.v (Want.plain rfl) rfl rfl (PV.assign rfl rfl) ?_
  refine TL.nil ?_
  refine TE.next hK2 ?_
  clear hK2
  refine TC.ret ?_
  refine TE.weak (Sub.refl _) (fun _ s => sep_keep [0] rfl s) ?_
  refine TE.ret1 rfl rfl ?_
  exact ⟨rfl, rfl⟩


theorem walPut_does (lg d cnt : Nat) (used : Int) (x : Value) (bs : List UInt8) (D : DS) (hD : D.Ok) (hb : D.ws.length ≤ 1000000) (hu : 0 ≤ used ∧ used ≤ 2048) (hc : cnt ≤ 1000000) :
    Does Try.prog 27 #[(.pointer (some ⟨lg, 0, none⟩)), x] (IsW x bs) [blkA lg [(.pointer (some ⟨d, 0, none⟩)), (.int .i64 (((cnt : Nat) : Int))), (.int .i64 (used))] 71, dk d (D)] (Ret (fun v H => v = .int .i64 (putL D cnt used bs).err ∧ H = [lgP lg d (((putL D cnt used bs).cnt : Nat) : Int) (putL D cnt used bs).used, dk d (putL D cnt used bs).D])) := by
  refine Does.body (vs := [(.pointer (some ⟨lg, 0, none⟩)), x]) (n := 72) Try.func27 rfl rfl rfl (fun w0 F hF => ?_)
  refine TC.seq (fun K1 hK1 => ?_)
  refine TC.region ?_
  refine TL.v (Want.plain rfl) rfl rfl (PV.assign rfl rfl) ?_
  refine TL.nil ?_
  refine TE.next hK1 ?_
  clear hK1
  refine TC.seq (fun K2 hK2 => ?_)
  refine TC.seq (fun K3 hK3 => ?_)
  refine TC.region ?_
  refine TL.v (Want.plain rfl) rfl rfl (PV.move rfl rfl) ?_
  refine TL.v (Want.plain rfl) rfl rfl (PV.lenV rfl Try.underlying28 rfl hF.len) ?_
  refine TL.v (Want.plain rfl) rfl rfl (PV.gtr rfl rfl rfl) ?_
  refine TL.dec (fun h12 => ?_) (fun h12 => ?_)
  · skip
    refine TL.nil ?_
    refine TE.next hK3 ?_
    clear hK3
    refine TC.yes rfl ?_
    refine TC.seq (fun K4 hK4 => ?_)
    refine TC.region ?_
    refine TL.v (Want.plain rfl) rfl rfl (PV.assign rfl rfl) ?_
    refine TL.nil ?_
    refine TE.next hK4 ?_
    clear hK4
    refine TC.ret ?_
    refine TE.passRet ?_
    clear hK2
    refine TE.weak (Sub.refl _) (fun _ s => sep_keep [0, 0] rfl s) ?_
    refine TE.ret1 rfl rfl ?_
    rw [put_long (by omega)]
    exact ⟨rfl, rfl⟩
  · skip
    refine TL.nil ?_
    refine TE.next hK3 ?_
    clear hK3
    refine TC.no rfl ?_
    refine TC.skip ?_
    refine TE.next hK2 ?_
    clear hK2
    refine TC.seq (fun K5 hK5 => ?_)
    refine TC.region ?_
    refine TL.v (Want.plain rfl) rfl rfl (PV.move rfl rfl) ?_
    refine TL.v (Want.plain rfl) rfl rfl (PV.lenV rfl Try.underlying28 rfl hF.len) ?_
    refine TL.callR (A := []) (B := [blkA lg [(.pointer (some ⟨d, 0, none⟩)), (.int .i64 (((cnt : Nat) : Int))), (.int .i64 (used))] 71, dk d (D)]) (Want.plain rfl) rfl rfl rfl nm28 rfl (pieces_does bs.length (by omega)) (fun _ s => s) (fun _ _ _ => trivial) (fun vR HR hR => ?_)
    obtain ⟨rfl, rfl⟩ := hR
    change TL _ _ _ _ _ _ _ _ _ [blkA lg [(.pointer (some ⟨d, 0, none⟩)), (.int .i64 (((cnt : Nat) : Int))), (.int .i64 (used))] 71, dk d (D)]
    refine TL.v (Want.plain rfl) rfl rfl (PV.assign rfl rfl) ?_
    refine TL.nil ?_
    refine TE.next hK5 ?_
    clear hK5
    refine TC.seq (fun K6 hK6 => ?_)
    refine TC.seq (fun K7 hK7 => ?_)
    refine TC.region ?_
    refine TL.v (Want.plain rfl) rfl rfl (PV.move rfl rfl) ?_
    refine TL.v (Want.plain rfl) rfl rfl (PV.move rfl rfl) ?_
    refine TL.callR (A := [blkA lg [(.pointer (some ⟨d, 0, none⟩)), (.int .i64 (((cnt : Nat) : Int))), (.int .i64 (used))] 71]) (B := [dk d (D)]) (Want.plain rfl) rfl rfl rfl nm29 rfl (room_does lg d ((cnt : Nat) : Int) used hu) (fun _ s => s) (fun _ _ _ => trivial) (fun vR HR hR => ?_)
    obtain ⟨rfl, rfl⟩ := hR
    change TL _ _ _ _ _ _ _ _ _ [blkA lg [(.pointer (some ⟨d, 0, none⟩)), (.int .i64 (((cnt : Nat) : Int))), (.int .i64 (used))] 71, dk d (D)]
    refine TL.v (Want.plain rfl) rfl rfl (PV.gtr rfl rfl rfl) ?_
    refine TL.dec (fun h19 => ?_) (fun h19 => ?_)
    · skip
      refine TL.nil ?_
      refine TE.next hK7 ?_
      clear hK7
      refine TC.yes rfl ?_
      refine TC.seq (fun K8 hK8 => ?_)
      refine TC.region ?_
      refine TL.v (Want.plain rfl) rfl rfl (PV.assign rfl rfl) ?_
      refine TL.nil ?_
      refine TE.next hK8 ?_
      clear hK8
      refine TC.ret ?_
      refine TE.passRet ?_
      clear hK6
      refine TE.weak (Sub.refl _) (fun _ s => sep_keep [0, 0] rfl s) ?_
      refine TE.ret1 rfl rfl ?_
      rw [put_full (by omega) (by omega)]
      exact ⟨rfl, rfl⟩
    · skip
      refine TL.nil ?_
      refine TE.next hK7 ?_
      clear hK7
      refine TC.no rfl ?_
      refine TC.skip ?_
      refine TE.next hK6 ?_
      clear hK6
      refine TC.seq (fun K9 hK9 => ?_)
      refine TC.seq (fun K10 hK10 => ?_)
      refine TC.region ?_
      refine TL.v (Want.plain rfl) rfl rfl (PV.move rfl rfl) ?_
      refine TL.v (Want.plain rfl) rfl rfl (PV.nilCheck rfl rfl) ?_
      refine TL.v (Want.plain rfl) rfl rfl (PV.fieldAddr (r := 1) rfl Try.underlying71 rfl sz3 rfl rfl) ?_
      refine TL.v (Want.plain rfl) rfl rfl (PV.load1 (v := (.int .i64 (((cnt : Nat) : Int)))) rfl Try.underlying3 rfl rfl (Rd.own 0 rfl rfl) rfl) ?_
      refine TL.v (Want.plain rfl) rfl rfl (PV.to (v' := (.int .i64 (((cnt + 1 : Nat) : Int)))) (PV.add rfl rfl rfl (wrap_i64 (by omega) (by omega))) rfl) ?_
      refine TL.v (Want.plain rfl) rfl rfl (PV.move rfl rfl) ?_
      refine TL.callR (A := []) (B := [blkA lg [(.pointer (some ⟨d, 0, none⟩)), (.int .i64 (((cnt : Nat) : Int))), (.int .i64 (used))] 71, dk d (D)]) (Want.plain rfl) rfl rfl rfl nm34 rfl (sectors_does x (cnt + 1) bs (by omega)) (fun _ s => s) (fun g d _ => IsW.more hF d) (fun vR HR hR => ?_)
      have hR := hR
      subst hR
      change TL _ _ _ _ _ _ _ _ _ [recsP 28 5 vR (sectorsP ((cnt + 1 : Nat) : Int) bs), blkA lg [(.pointer (some ⟨d, 0, none⟩)), (.int .i64 (((cnt : Nat) : Int))), (.int .i64 (used))] 71, dk d (D)]
      refine TL.recsLen 0 rfl rfl (fun hrl hro => ?_)
      rw [sectorsP_len] at hrl
      refine TL.v (Want.plain rfl) rfl rfl (PV.lenV rfl Try.underlying44 rfl hrl) ?_
      refine TL.v (Want.plain rfl) rfl rfl (PV.move rfl rfl) ?_
      refine TL.nil ?_
      refine TE.next hK10 ?_
      clear hK10
      refine TC.block ?_
      refine TC.loop (α := (Nat) × (DS)) (fun ⟨k, D'⟩ => k ≤ piecesN bs.length ∧ writesP (sectorsP ((cnt + 1 : Nat) : Int) bs) used D = writesP ((sectorsP ((cnt + 1 : Nat) : Int) bs).drop k) (used + (k : Nat)) D' ∧ D'.Ok ∧ D'.ws.length ≤ D.ws.length + k) (fun ⟨k, D'⟩ => [(0, (.pointer (some ⟨lg, 0, none⟩))), (5, (.int .i64 (((piecesN bs.length : Nat) : Int)))), (26, vR), (27, (.int .i64 ((((piecesN bs.length) : Nat) : Int)))), (28, (.int .i64 (((k : Nat) : Int))))]) (fun ⟨k, D'⟩ => [blkA lg [(.pointer (some ⟨d, 0, none⟩)), (.int .i64 (((cnt : Nat) : Int))), (.int .i64 (used))] 71, dk d (D'), recsP 28 5 vR (sectorsP ((cnt + 1 : Nat) : Int) bs)]) (fun ⟨k, D'⟩ => piecesN bs.length - k) (0, D)
          ⟨Nat.zero_le _, by simp, hD, by omega⟩ (Sub.r (Sub.r (Sub.r (Sub.r (Sub.cons rfl (by congr 1) (Sub.nil _))))))
          (fun _ s => sep_selR [1, 1, 0] rfl s) (fun ⟨k, D'⟩ hinv => ?_)
      obtain ⟨hk, hwr, hD', hws⟩ := hinv
      refine TC.seq (fun K11 hK11 => ?_)
      refine TC.region ?_
      refine TL.v (Want.plain rfl) rfl rfl (PV.lss rfl rfl rfl) ?_
      refine TL.dec (fun h29 => ?_) (fun h29 => ?_)
      · skip
        refine TL.mono (fun _ s => sep_selR [2] rfl s) ?_
        refine TL.recsOpen (fun us => ?_)
        change TL _ _ _ _ _ _ _ _ _ [own vR ((sectorsP ((cnt + 1 : Nat) : Int) bs).length) (us) 28 1, bunch us (sectorsP ((cnt + 1 : Nat) : Int) bs) 5, blkA lg [(.pointer (some ⟨d, 0, none⟩)), (.int .i64 (((cnt : Nat) : Int))), (.int .i64 (used))] 71, dk d (D')]
        refine TL.fact (p := us.length = (sectorsP ((cnt + 1 : Nat) : Int) bs).length * 1) (fun w m => m.own_len (i := 0) (lb rfl) rfl) (fun hul => ?_)
        rw [sectorsP_len, Nat.mul_one] at hul
        have hkl : k < (sectorsP ((cnt + 1 : Nat) : Int) bs).length := by rw [sectorsP_len]; omega
        obtain ⟨sk, hsk⟩ : ∃ x, (sectorsP ((cnt + 1 : Nat) : Int) bs)[k] = x := ⟨_, rfl⟩
        refine TL.ownAt 0 rfl rfl (by omega) (fun g cap hv hcap => ?_)
        refine TL.nil ?_
        refine TE.next hK11 ?_
        clear hK11
        refine TC.seq (fun K12 hK12 => ?_)
        refine TC.yes rfl ?_
        refine TC.skip ?_
        refine TE.next hK12 ?_
        clear hK12
        refine TC.seq (fun K13 hK13 => ?_)
        refine TC.block ?_
        refine TC.seq (fun K14 hK14 => ?_)
        refine TC.region ?_
        refine TL.v (Want.plain rfl) rfl rfl (PV.move rfl rfl) ?_
        refine TL.v (Want.plain rfl) rfl rfl (PV.indexSlV (r := k) hv rfl Try.underlying44 sz28 rfl rfl (by omega) (by omega) (by omega)) ?_
        refine TL.v (Want.plain rfl) rfl rfl (PV.load1X (v := (us.getD k undef)) rfl Try.underlying28 rfl rfl (RdX.own 0 rfl hv rfl) (by simp [List.getD_eq_getElem?_getD, show k < us.length by omega])) ?_
        refine TL.v (Want.plain rfl) rfl rfl (PV.assign rfl rfl) ?_
        refine TL.v (Want.plain rfl) rfl rfl (PV.assign rfl rfl) ?_
        refine TL.nil ?_
        refine TE.next hK14 ?_
        clear hK14
        refine TC.seq (fun K15 hK15 => ?_)
        refine TC.draw (fun w => Frm F w ∧ w.heap[lg]? = some (.cells ([(.pointer (some ⟨d, 0, none⟩)), (.int .i64 (((cnt : Nat) : Int))), (.int .i64 (used))]).toArray 71 (0, 0)) ∧ True) mixed rfl (fun _ s => ⟨Frm.of s, s.block 2 (lb rfl) rfl, trivial⟩) ?_
        refine TD.take (i := 0) rfl (by kernel_rfl) (by kernel_rfl) (by kernel_rfl) (fun _ _ _ _ h => h) (Want.plain rfl) rfl rfl (PV.move rfl rfl) ?_
        refine TD.take (i := 1) rfl (by kernel_rfl) (by kernel_rfl) (by kernel_rfl) (fun _ _ _ _ h => h) (Want.plain rfl) rfl rfl (PV.nilCheck rfl rfl) ?_
        refine TD.take (i := 2) rfl (by kernel_rfl) (by kernel_rfl) (by kernel_rfl) (fun _ _ _ _ h => h) (Want.plain rfl) rfl rfl (PV.fieldAddr (r := 0) rfl Try.underlying71 rfl sz23 rfl rfl) ?_
        refine TD.take (i := 3) rfl (by kernel_rfl) (by kernel_rfl) (by kernel_rfl) (fun _ _ _ _ h => h) (Want.plain rfl) rfl rfl (PV.load1 (v := (.pointer (some ⟨d, 0, none⟩))) rfl Try.underlying23 rfl rfl (fun _ h => h.2.1) rfl) ?_
        refine TD.take (i := 4) rfl (by kernel_rfl) (by kernel_rfl) (by kernel_rfl) (fun _ _ _ _ h => h) (Want.plain rfl) rfl rfl (PV.move rfl rfl) ?_
        refine TD.take (i := 5) rfl (by kernel_rfl) (by kernel_rfl) (by kernel_rfl) (fun _ _ _ _ h => h) (Want.plain rfl) rfl rfl (PV.nilCheck rfl rfl) ?_
        refine TD.take (i := 6) rfl (by kernel_rfl) (by kernel_rfl) (by kernel_rfl) (fun _ _ _ _ h => h) (Want.plain rfl) rfl rfl (PV.fieldAddr (r := 2) rfl Try.underlying71 rfl sz3 rfl rfl) ?_
        refine TD.take (i := 7) rfl (by kernel_rfl) (by kernel_rfl) (by kernel_rfl) (fun _ _ _ _ h => h) (Want.plain rfl) rfl rfl (PV.load1 (v := (.int .i64 (used))) rfl Try.underlying3 rfl rfl (fun _ h => h.2.1) rfl) ?_
        refine TD.take (i := 8) rfl (by kernel_rfl) (by kernel_rfl) (by kernel_rfl) (fun _ _ _ _ h => h) (Want.plain rfl) rfl rfl (PV.move rfl rfl) ?_
        refine TD.take (i := 9) rfl (by kernel_rfl) (by kernel_rfl) (by kernel_rfl) (fun _ _ _ _ h => h) (Want.plain rfl) rfl rfl (PV.add rfl rfl rfl (wrap_i64 (by omega) (by omega))) ?_
        refine TD.take (i := 10) rfl (by kernel_rfl) (by kernel_rfl) (by kernel_rfl) (fun _ _ _ _ h => h) (Want.plain rfl) rfl rfl (PV.move rfl rfl) ?_
        refine TD.all [11] (by kernel_rfl) rfl ?_
        refine AllT.cons rfl ?_ ?_
        · skip
          refine TL.callR (A := [dk d (D')]) (B := [own vR ((sectorsP ((cnt + 1 : Nat) : Int) bs).length) (us) 28 1, bunch us (sectorsP ((cnt + 1 : Nat) : Int) bs) 5, blkA lg [(.pointer (some ⟨d, 0, none⟩)), (.int .i64 (((cnt : Nat) : Int))), (.int .i64 (used))] 71]) (Want.plain rfl) rfl rfl rfl nm15 rfl (dk_write d D' (used + ((k : Nat) : Int)) (us.getD k undef) sk hD' (by omega)) (fun _ s => sep_selR [3] rfl s) (fun g d s => IsB.w (hsk ▸ isB_bunch 1 hkl rfl rfl g d s)) (fun vR HR hR => ?_)
          obtain ⟨hv2, rfl⟩ := hR
          subst hv2
          change TL _ _ _ _ _ _ _ _ _ [dk d ((D'.write (used + ((k : Nat) : Int)) sk).2), own vR ((sectorsP ((cnt + 1 : Nat) : Int) bs).length) (us) 28 1, bunch us (sectorsP ((cnt + 1 : Nat) : Int) bs) 5, blkA lg [(.pointer (some ⟨d, 0, none⟩)), (.int .i64 (((cnt : Nat) : Int))), (.int .i64 (used))] 71]
          refine TL.nil ?_
          refine TE.draw (fun _ s => ⟨Frm.of s, s.block 3 (lb rfl) rfl, trivial⟩) ?_
          refine TD.take (i := 12) rfl (by kernel_rfl) (by kernel_rfl) (by kernel_rfl) (fun _ _ _ _ h => h) (Want.plain rfl) rfl rfl (PV.assign rfl rfl) ?_
          refine TD.done (by kernel_rfl) ?_
          refine TE.next hK15 ?_
          clear hK15
          refine TC.seq (fun K16 hK16 => ?_)
          refine TC.region ?_
          refine TL.v (Want.plain rfl) rfl rfl (PV.move rfl rfl) ?_
          refine TL.v (Want.plain rfl) rfl rfl (PV.neq rfl rfl rfl) ?_
          refine TL.dec (fun h46 => ?_) (fun h46 => ?_)
          · skip
            refine TL.nil ?_
            refine TE.next hK16 ?_
            clear hK16
            refine TC.yes rfl ?_
            refine TC.seq (fun K17 hK17 => ?_)
            refine TC.region ?_
            refine TL.v (Want.plain rfl) rfl rfl (PV.move rfl rfl) ?_
            refine TL.v (Want.plain rfl) rfl rfl (PV.assign rfl rfl) ?_
            refine TL.nil ?_
            refine TE.next hK17 ?_
            clear hK17
            refine TC.ret ?_
            refine TE.blockRet ?_
            refine TE.passRet ?_
            clear hK13
            refine TE.passRet ?_
            refine TE.blockRet ?_
            refine TE.passRet ?_
            clear hK9
            refine TE.weak (Sub.refl _) (fun _ s => sep_keep [3, 0] rfl s) ?_
            refine TE.ret1 rfl rfl ?_
            have hf := writes_fail (D := D') (at' := used) hkl (by rw [hsk]; exact h46)
            rw [hsk] at hf
            rw [put_fail1 (by omega) (by omega) (hwr.trans hf) h46]
            exact ⟨rfl, rfl⟩
          · skip
            refine TL.nil ?_
            refine TE.next hK16 ?_
            clear hK16
            refine TC.no rfl ?_
            refine TC.skip ?_
            refine TE.blockEnd ?_
            refine TE.next hK13 ?_
            clear hK13
            refine TC.region ?_
            refine TL.v (Want.plain rfl) rfl rfl (PV.add rfl rfl rfl (wrap_i64 (by omega) (by omega))) ?_
            refine TL.v (Want.plain rfl) rfl rfl (PV.move rfl rfl) ?_
            refine TL.nil ?_
            exact TE.round ((k + 1, (D'.write (used + ((k : Nat) : Int)) sk).2) : (Nat) × (DS)) ⟨by omega, by rw [hwr]; subst hsk; exact writes_step hkl (by simpa using h46), DS.write_ok hD' _ _, by have := DS.write_ws (D := D') (at' := used + ((k : Nat) : Int)) (bs := sk); omega⟩ (by show piecesN bs.length - (k + 1) < piecesN bs.length - k; omega)
              (Sub.r (Sub.r (Sub.r (Sub.r (Sub.cons rfl (by simp) (Sub.nil _))))))
              (fun _ s => sep_selR [1, 1, 0] rfl (sep_close (p := fun us : List Value => [own vR (sectorsP ((cnt + 1 : Nat) : Int) bs).length us 28 1, bunch us (sectorsP ((cnt + 1 : Nat) : Int) bs) 5]) us (sep_keep [1, 1, 1, 0] rfl s)))
        exact AllT.nil
      · skip
        refine TL.nil ?_
        refine TE.next hK11 ?_
        clear hK11
        refine TC.seq (fun K18 hK18 => ?_)
        refine TC.no rfl ?_
        refine TC.exit ?_
        refine TE.pass ?_
        clear hK18
        refine TE.pass ?_
        refine TE.hit ?_
        refine TE.next hK9 ?_
        clear hK9
        refine TC.seq (fun K19 hK19 => ?_)
        refine TC.seq (fun K20 hK20 => ?_)
        refine TC.region ?_
        refine TL.v (Want.plain rfl) rfl rfl (PV.move rfl rfl) ?_
        refine TL.v (Want.plain rfl) rfl rfl (PV.nilCheck rfl rfl) ?_
        refine TL.v (Want.plain rfl) rfl rfl (PV.fieldAddr (r := 0) rfl Try.underlying71 rfl sz23 rfl rfl) ?_
        refine TL.v (Want.plain rfl) rfl rfl (PV.load1 (v := (.pointer (some ⟨d, 0, none⟩))) rfl Try.underlying23 rfl rfl (Rd.own 0 rfl rfl) rfl) ?_
        refine TL.callR (A := [dk d (D')]) (B := [blkA lg [(.pointer (some ⟨d, 0, none⟩)), (.int .i64 (((cnt : Nat) : Int))), (.int .i64 (used))] 71, recsP 28 5 vR (sectorsP ((cnt + 1 : Nat) : Int) bs)]) (Want.plain rfl) rfl rfl rfl nm17 rfl (dk_sync d (D')  hD') (fun _ s => sep_selR [1] rfl s) (fun _ _ _ => trivial) (fun vR HR hR => ?_)
        obtain ⟨hv, rfl⟩ := hR
        subst hv
        change TL _ _ _ _ _ _ _ _ _ [dk d ((D').sync.2), blkA lg [(.pointer (some ⟨d, 0, none⟩)), (.int .i64 (((cnt : Nat) : Int))), (.int .i64 (used))] 71, recsP 28 5 vR (sectorsP ((cnt + 1 : Nat) : Int) bs)]
        refine TL.v (Want.plain rfl) rfl rfl (PV.assign rfl rfl) ?_
        refine TL.nil ?_
        refine TE.next hK20 ?_
        clear hK20
        refine TC.seq (fun K21 hK21 => ?_)
        refine TC.region ?_
        refine TL.v (Want.plain rfl) rfl rfl (PV.move rfl rfl) ?_
        refine TL.v (Want.plain rfl) rfl rfl (PV.neq rfl rfl rfl) ?_
        refine TL.dec (fun h55 => ?_) (fun h55 => ?_)
        · skip
          refine TL.nil ?_
          refine TE.next hK21 ?_
          clear hK21
          refine TC.yes rfl ?_
          refine TC.seq (fun K22 hK22 => ?_)
          refine TC.region ?_
          refine TL.v (Want.plain rfl) rfl rfl (PV.move rfl rfl) ?_
          refine TL.v (Want.plain rfl) rfl rfl (PV.assign rfl rfl) ?_
          refine TL.nil ?_
          refine TE.next hK22 ?_
          clear hK22
          refine TC.ret ?_
          refine TE.passRet ?_
          clear hK19
          refine TE.weak (Sub.refl _) (fun _ s => sep_keep [1, 0] rfl s) ?_
          refine TE.ret1 rfl rfl ?_
          have hf : writesP (sectorsP ((cnt + 1 : Nat) : Int) bs) used D = (0, D') := by rw [hwr, List.drop_of_length_le (by rw [sectorsP_len]; omega)]; rfl
          rw [put_fail2 (by omega) (by omega) hf h55]
          exact ⟨rfl, rfl⟩
        · skip
          refine TL.nil ?_
          refine TE.next hK21 ?_
          clear hK21
          refine TC.no rfl ?_
          refine TC.skip ?_
          refine TE.next hK19 ?_
          clear hK19
          refine TC.seq (fun K23 hK23 => ?_)
          refine TC.region ?_
          refine TL.v (Want.plain rfl) rfl rfl (PV.move rfl rfl) ?_
          refine TL.v (Want.plain rfl) rfl rfl (PV.nilCheck rfl rfl) ?_
          refine TL.v (Want.plain rfl) rfl rfl (PV.fieldAddr (r := 1) rfl Try.underlying71 rfl sz3 rfl rfl) ?_
          refine TL.v (Want.plain rfl) rfl rfl (PV.load1 (v := (.int .i64 (((cnt : Nat) : Int)))) rfl Try.underlying3 rfl rfl (Rd.own 1 rfl rfl) rfl) ?_
          refine TL.v (Want.plain rfl) rfl rfl (PV.add rfl rfl rfl (wrap_i64 (by omega) (by omega))) ?_
          refine TL.v (Want.plain rfl) rfl rfl (PV.nilCheck rfl rfl) ?_
          refine TL.v (Want.plain rfl) rfl rfl (PV.fieldAddr (r := 1) rfl Try.underlying71 rfl sz3 rfl rfl) ?_
          refine TL.store1 (i := 1) (H' := [dk d ((D').sync.2), blkA lg [(.pointer (some ⟨d, 0, none⟩)), (.int .i64 (((cnt : Nat) : Int) + 1)), (.int .i64 (used))] 71, recsP 28 5 vR (sectorsP ((cnt + 1 : Nat) : Int) bs)]) (Want.plain rfl) rfl rfl rfl rfl rfl sz3 rfl rfl (lb rfl) rfl rfl ?_
          refine TL.nil ?_
          refine TE.next hK23 ?_
          clear hK23
          refine TC.seq (fun K24 hK24 => ?_)
          refine TC.region ?_
          refine TL.v (Want.plain rfl) rfl rfl (PV.move rfl rfl) ?_
          refine TL.v (Want.plain rfl) rfl rfl (PV.nilCheck rfl rfl) ?_
          refine TL.v (Want.plain rfl) rfl rfl (PV.fieldAddr (r := 2) rfl Try.underlying71 rfl sz3 rfl rfl) ?_
          refine TL.v (Want.plain rfl) rfl rfl (PV.load1 (v := (.int .i64 (used))) rfl Try.underlying3 rfl rfl (Rd.own 1 rfl rfl) rfl) ?_
          refine TL.v (Want.plain rfl) rfl rfl (PV.move rfl rfl) ?_
          refine TL.v (Want.plain rfl) rfl rfl (PV.add rfl rfl rfl (wrap_i64 (by omega) (by omega))) ?_
          refine TL.v (Want.plain rfl) rfl rfl (PV.nilCheck rfl rfl) ?_
          refine TL.v (Want.plain rfl) rfl rfl (PV.fieldAddr (r := 2) rfl Try.underlying71 rfl sz3 rfl rfl) ?_
          refine TL.store1 (i := 1) (H' := [dk d ((D').sync.2), blkA lg [(.pointer (some ⟨d, 0, none⟩)), (.int .i64 (((cnt : Nat) : Int) + 1)), (.int .i64 (used + ((piecesN bs.length : Nat) : Int)))] 71, recsP 28 5 vR (sectorsP ((cnt + 1 : Nat) : Int) bs)]) (Want.plain rfl) rfl rfl rfl rfl rfl sz3 rfl rfl (lb rfl) rfl rfl ?_
          refine TL.nil ?_
          refine TE.next hK24 ?_
          clear hK24
          refine TC.seq (fun K25 hK25 => ?_)
          refine TC.region ?_
          refine TL.v (Want.plain rfl) rfl rfl (PV.assign rfl rfl) ?_
          refine TL.nil ?_
          refine TE.next hK25 ?_
          clear hK25
          refine TC.ret ?_
          refine TE.weak (Sub.refl _) (fun _ s => sep_keep [1, 0] rfl s) ?_
          refine TE.ret1 rfl rfl ?_
          have hf : writesP (sectorsP ((cnt + 1 : Nat) : Int) bs) used D = (0, D') := by rw [hwr, List.drop_of_length_le (by rw [sectorsP_len]; omega)]; rfl
          rw [put_ok (by omega) (by omega) hf (by simpa using h55)]
          exact ⟨rfl, rfl⟩


theorem open_does (d : Nat) (D : DS) (hD : D.Ok) (hI : Wal.DS.In D) (hb : D.ws.length ≤ 1000000) :
    Does Try.prog 25 #[(.pointer (some ⟨d, 0, none⟩))] (fun _ => True) [dk d (D)] (Ret (fun v H => ((openP D).err ≠ 0 ∧ v = .tuple #[.pointer none, .slice none 0 0, .int .i64 (openP D).err] ∧ H = [dk d (openP D).D]) ∨ ((openP D).err = 0 ∧ ∃ lg vr, v = .tuple #[.pointer (some ⟨lg, 0, none⟩), vr, .int .i64 0] ∧ H = [lgP lg d (((openP D).recs.length : Nat) : Int) (openP D).used, rcP vr (openP D).recs, dk d (openP D).D]))) := by
  refine Does.body (vs := [(.pointer (some ⟨d, 0, none⟩))]) (n := 80) Try.func25 rfl rfl rfl (fun w0 F hF => ?_)
  refine TC.seq (fun K1 hK1 => ?_)
  refine TC.region ?_
  refine TL.v (Want.plain rfl) rfl rfl (PV.assign rfl rfl) ?_
  refine TL.v (Want.plain rfl) rfl rfl (PV.assign rfl rfl) ?_
  refine TL.v (Want.plain rfl) rfl rfl (PV.assign rfl rfl) ?_
  refine TL.nil ?_
  refine TE.next hK1 ?_
  clear hK1
  refine TC.seq (fun K2 hK2 => ?_)
  refine TC.seq (fun K3 hK3 => ?_)
  refine TC.region ?_
  refine TL.v (Want.plain rfl) rfl rfl (PV.move rfl rfl) ?_
  refine TL.v (Want.plain rfl) rfl rfl (PV.ptrNil rfl Try.underlying23 rfl rfl) ?_
  refine TL.nil ?_
  refine TE.next hK3 ?_
  clear hK3
  refine TC.no rfl ?_
  refine TC.skip ?_
  refine TE.next hK2 ?_
  clear hK2
  refine TC.seq (fun K4 hK4 => ?_)
  refine TC.region ?_
  refine TL.v (Want.plain rfl) rfl rfl (PV.move rfl rfl) ?_
  refine TL.v (Want.plain rfl) rfl rfl (PV.build (cells := #[(.pointer (some ⟨d, 0, none⟩)), (.int .i64 0), (.int .i64 0)]) rfl rfl (by as_aux_lemma => kernel_rfl)) ?_
  refine TL.box (Want.plain rfl) rfl rfl rfl rfl (fun b17 => ?_)
  change TL _ _ _ _ _ _ _ _ _ [blkA b17 [(.pointer (some ⟨d, 0, none⟩)), (.int .i64 0), (.int .i64 0)] 71, dk d (D)]
  refine TL.v (Want.plain rfl) rfl rfl (PV.assign rfl rfl) ?_
  refine TL.nil ?_
  refine TE.next hK4 ?_
  clear hK4
  refine TC.seq (fun K5 hK5 => ?_)
  refine TC.region ?_
  refine TL.v (Want.plain rfl) rfl rfl (PV.assign rfl rfl) ?_
  refine TL.nil ?_
  refine TE.next hK5 ?_
  clear hK5
  refine TC.seq (fun K6 hK6 => ?_)
  refine TC.block ?_
  refine TC.loop (α := (Nat) × (List (List UInt8)) × (Int) × (Value)) (fun ⟨f, rs, used, vr⟩ => Scan D f rs used ∧ vr.oneCell' = true) (fun ⟨f, rs, used, vr⟩ => [(0, (.pointer (some ⟨d, 0, none⟩))), (2, (.pointer none)), (3, (.slice none 0 0)), (4, (.int .i64 0)), (5, (.pointer (some ⟨b17, 0, none⟩))), (6, vr)]) (fun ⟨f, rs, used, vr⟩ => [blkA b17 [(.pointer (some ⟨d, 0, none⟩)), (.int .i64 (((rs.length : Nat) : Int))), (.int .i64 (used))] 71, dk d (D), recsP 28 5 vr (rs)]) (fun ⟨f, rs, used, vr⟩ => f) (fuel0, [], 0, (.slice none 0 0))
      ⟨Scan.start D, rfl⟩ (Sub.r (Sub.r (Sub.r (Sub.r (Sub.r (Sub.r (Sub.nil _)))))))
      (fun _ s => sep_perm (List.Perm.trans (List.Perm.swap _ _ _) (List.Perm.cons _ (List.Perm.swap _ _ _))) (sep_recsNil 28 5 s)) (fun ⟨f, rs, used, vr⟩ hinv => ?_)
  obtain ⟨hsc, hvr⟩ := hinv
  obtain ⟨hs1, hs2, hs3, hs4, hs5⟩ := id hsc
  refine TC.block ?_
  refine TC.seq (fun K7 hK7 => ?_)
  refine TC.draw (fun w => Frm F w ∧ w.heap[b17]? = some (.cells ([(.pointer (some ⟨d, 0, none⟩)), (.int .i64 (((rs.length : Nat) : Int))), (.int .i64 (used))]).toArray 71 (0, 0)) ∧ True) mixed rfl (fun _ s => ⟨Frm.of s, s.block 0 (lb rfl) rfl, trivial⟩) ?_
  refine TD.take (i := 0) rfl (by kernel_rfl) (by kernel_rfl) (by kernel_rfl) (fun _ _ _ _ h => h) (Want.plain rfl) rfl rfl (PV.move rfl rfl) ?_
  refine TD.take (i := 1) rfl (by kernel_rfl) (by kernel_rfl) (by kernel_rfl) (fun _ _ _ _ h => h) (Want.plain rfl) rfl rfl (PV.move rfl rfl) ?_
  refine TD.take (i := 2) rfl (by kernel_rfl) (by kernel_rfl) (by kernel_rfl) (fun _ _ _ _ h => h) (Want.plain rfl) rfl rfl (PV.nilCheck rfl rfl) ?_
  refine TD.take (i := 3) rfl (by kernel_rfl) (by kernel_rfl) (by kernel_rfl) (fun _ _ _ _ h => h) (Want.plain rfl) rfl rfl (PV.fieldAddr (r := 1) rfl Try.underlying71 rfl sz3 rfl rfl) ?_
  refine TD.take (i := 4) rfl (by kernel_rfl) (by kernel_rfl) (by kernel_rfl) (fun _ _ _ _ h => h) (Want.plain rfl) rfl rfl (PV.load1 (v := (.int .i64 (((rs.length : Nat) : Int)))) rfl Try.underlying3 rfl rfl (fun _ h => h.2.1) rfl) ?_
  refine TD.take (i := 5) rfl (by kernel_rfl) (by kernel_rfl) (by kernel_rfl) (fun _ _ _ _ h => h) (Want.plain rfl) rfl rfl (PV.add rfl rfl rfl (wrap_i64 (by omega) (by omega))) ?_
  refine TD.take (i := 6) rfl (by kernel_rfl) (by kernel_rfl) (by kernel_rfl) (fun _ _ _ _ h => h) (Want.plain rfl) rfl rfl (PV.move rfl rfl) ?_
  refine TD.take (i := 7) rfl (by kernel_rfl) (by kernel_rfl) (by kernel_rfl) (fun _ _ _ _ h => h) (Want.plain rfl) rfl rfl (PV.nilCheck rfl rfl) ?_
  refine TD.take (i := 8) rfl (by kernel_rfl) (by kernel_rfl) (by kernel_rfl) (fun _ _ _ _ h => h) (Want.plain rfl) rfl rfl (PV.fieldAddr (r := 2) rfl Try.underlying71 rfl sz3 rfl rfl) ?_
  refine TD.take (i := 9) rfl (by kernel_rfl) (by kernel_rfl) (by kernel_rfl) (fun _ _ _ _ h => h) (Want.plain rfl) rfl rfl (PV.load1 (v := (.int .i64 (used))) rfl Try.underlying3 rfl rfl (fun _ h => h.2.1) rfl) ?_
  refine TD.all [10] (by kernel_rfl) rfl ?_
  refine AllT.cons rfl ?_ ?_
  · skip
    refine TL.callR (A := [dk d (D)]) (B := [blkA b17 [(.pointer (some ⟨d, 0, none⟩)), (.int .i64 (((rs.length : Nat) : Int))), (.int .i64 (used))] 71, recsP 28 5 vr (rs)]) (Want.plain rfl) rfl rfl rfl nm33 rfl (stands_does d D (((rs.length : Nat) : Int) + 1) used hD (by omega) (by omega)) (fun _ s => sep_selR [1] rfl s) (fun _ _ _ => trivial) (fun vR HR hR => ?_)
    rcases hR with ⟨hst, rfl, rfl⟩ | ⟨b, all, u, hst, rfl, rfl⟩
    · skip
      have hss := Scan.stop hsc hst
      change TL _ _ _ _ _ _ _ _ _ [dk d (D), blkA b17 [(.pointer (some ⟨d, 0, none⟩)), (.int .i64 (((rs.length : Nat) : Int))), (.int .i64 (used))] 71, recsP 28 5 vr (rs)]
      refine TL.nil ?_
      refine TE.draw (fun _ s => ⟨Frm.of s, s.block 1 (lb rfl) rfl, trivial⟩) ?_
      refine TD.take (i := 11) rfl (by kernel_rfl) (by kernel_rfl) (by kernel_rfl) (fun _ _ _ _ h => h) (Want.plain rfl) rfl rfl (PV.move rfl rfl) ?_
      refine TD.take (i := 12) rfl (by kernel_rfl) (by kernel_rfl) (by kernel_rfl) (fun _ _ _ _ h => h) (Want.plain rfl) rfl rfl (PV.extract (vs := [(.slice none 0 0), (.int .i64 0), (.bool false)]) rfl rfl rfl) ?_
      refine TD.take (i := 13) rfl (by kernel_rfl) (by kernel_rfl) (by kernel_rfl) (fun _ _ _ _ h => h) (Want.plain rfl) rfl rfl (PV.extract (vs := [(.slice none 0 0), (.int .i64 0), (.bool false)]) rfl rfl rfl) ?_
      refine TD.take (i := 14) rfl (by kernel_rfl) (by kernel_rfl) (by kernel_rfl) (fun _ _ _ _ h => h) (Want.plain rfl) rfl rfl (PV.extract (vs := [(.slice none 0 0), (.int .i64 0), (.bool false)]) rfl rfl rfl) ?_
      refine TD.take (i := 15) rfl (by kernel_rfl) (by kernel_rfl) (by kernel_rfl) (fun _ _ _ _ h => h) (Want.plain rfl) rfl rfl (PV.assign rfl rfl) ?_
      refine TD.take (i := 16) rfl (by kernel_rfl) (by kernel_rfl) (by kernel_rfl) (fun _ _ _ _ h => h) (Want.plain rfl) rfl rfl (PV.assign rfl rfl) ?_
      refine TD.take (i := 17) rfl (by kernel_rfl) (by kernel_rfl) (by kernel_rfl) (fun _ _ _ _ h => h) (Want.plain rfl) rfl rfl (PV.assign rfl rfl) ?_
      refine TD.done (by kernel_rfl) ?_
      refine TE.next hK7 ?_
      clear hK7
      refine TC.seq (fun K8 hK8 => ?_)
      refine TC.seq (fun K9 hK9 => ?_)
      refine TC.region ?_
      refine TL.v (Want.plain rfl) rfl rfl (PV.move rfl rfl) ?_
      refine TL.v (Want.plain rfl) rfl rfl (PV.not (r := true) rfl rfl rfl) ?_
      refine TL.nil ?_
      refine TE.next hK9 ?_
      clear hK9
      refine TC.yes rfl ?_
      refine TC.exit ?_
      refine TE.pass ?_
      clear hK8
      refine TE.miss (by decide) ?_
      refine TE.pass ?_
      refine TE.hit ?_
      refine TE.next hK6 ?_
      clear hK6
      refine TC.seq (fun K10 hK10 => ?_)
      refine TC.seq (fun K11 hK11 => ?_)
      refine TC.region ?_
      refine TL.v (Want.plain rfl) rfl rfl (PV.move rfl rfl) ?_
      refine TL.v (Want.plain rfl) rfl rfl (PV.nilCheck rfl rfl) ?_
      refine TL.v (Want.plain rfl) rfl rfl (PV.fieldAddr (r := 2) rfl Try.underlying71 rfl sz3 rfl rfl) ?_
      refine TL.v (Want.plain rfl) rfl rfl (PV.load1 (v := (.int .i64 (used))) rfl Try.underlying3 rfl rfl (Rd.own 1 rfl rfl) rfl) ?_
      refine TL.v (Want.plain rfl) rfl rfl (PV.assign rfl rfl) ?_
      refine TL.nil ?_
      refine TE.next hK11 ?_
      clear hK11
      refine TC.block ?_
      refine TC.loop (α := (Int) × (DS)) (fun ⟨at', D'⟩ => used ≤ at' ∧ at' ≤ 2048 ∧ wipeP (2048 - used).toNat used D = wipeP (2048 - at').toNat at' D' ∧ D'.Ok ∧ D'.ws.length ≤ D.ws.length + (at' - used).toNat) (fun ⟨at', D'⟩ => [(0, (.pointer (some ⟨d, 0, none⟩))), (5, (.pointer (some ⟨b17, 0, none⟩))), (6, vr), (10, (.int .i64 (at')))]) (fun ⟨at', D'⟩ => [blkA b17 [(.pointer (some ⟨d, 0, none⟩)), (.int .i64 (((rs.length : Nat) : Int))), (.int .i64 (used))] 71, dk d (D'), recsP 28 5 vr (rs)]) (fun ⟨at', D'⟩ => (2048 - at').toNat) (used, D)
          ⟨by omega, by omega, rfl, hD, by omega⟩ (Sub.r (Sub.r (Sub.r (Sub.cons rfl (by congr 1) (Sub.nil _)))))
          (fun _ s => sep_keep [1, 0, 0] rfl s) (fun ⟨at', D'⟩ hinv => ?_)
      obtain ⟨ha1, ha2, hwi, hD', hws⟩ := hinv
      refine TC.seq (fun K12 hK12 => ?_)
      refine TC.seq (fun K13 hK13 => ?_)
      refine TC.region ?_
      refine TL.v (Want.plain rfl) rfl rfl (PV.move rfl rfl) ?_
      refine TL.v (Want.plain rfl) rfl rfl (PV.lss rfl rfl rfl) ?_
      refine TL.dec (fun h59 => ?_) (fun h59 => ?_)
      · skip
        refine TL.nil ?_
        refine TE.next hK13 ?_
        clear hK13
        refine TC.yes rfl ?_
        refine TC.skip ?_
        refine TE.next hK12 ?_
        clear hK12
        refine TC.seq (fun K14 hK14 => ?_)
        refine TC.block ?_
        refine TC.seq (fun K15 hK15 => ?_)
        refine TC.seq (fun K16 hK16 => ?_)
        refine TC.region ?_
        refine TL.v (Want.plain rfl) rfl rfl (PV.move rfl rfl) ?_
        refine TL.v (Want.plain rfl) rfl rfl (PV.move rfl rfl) ?_
        refine TL.callR (A := [dk d (D')]) (B := [blkA b17 [(.pointer (some ⟨d, 0, none⟩)), (.int .i64 (((rs.length : Nat) : Int))), (.int .i64 (used))] 71, recsP 28 5 vr (rs)]) (Want.plain rfl) rfl rfl rfl nm21 rfl (dk_read d (D') at' hD' (by omega)) (fun _ s => sep_selR [1] rfl s) (fun _ _ _ => trivial) (fun vR HR hR => ?_)
        obtain ⟨hv, rfl⟩ := hR
        subst hv
        change TL _ _ _ _ _ _ _ _ _ [dk d (D'), blkA b17 [(.pointer (some ⟨d, 0, none⟩)), (.int .i64 (((rs.length : Nat) : Int))), (.int .i64 (used))] 71, recsP 28 5 vr (rs)]
        refine TL.v (Want.plain rfl) rfl rfl (PV.build (cells := (u8s zs).toArray) rfl rfl (by as_aux_lemma => kernel_rfl)) ?_
        refine TL.v (Want.plain rfl) rfl rfl (PV.eqlBy (a := ((D').read at')) (b := zs) (m := 2) sg37 sk37 rfl sf37 sa37 sc37 (DS.read_len hD' _) (by decide) rfl rfl rfl) ?_
        refine TL.dec (fun h66 => ?_) (fun h66 => ?_)
        · skip
          refine TL.nil ?_
          refine TE.next hK16 ?_
          clear hK16
          refine TC.yes rfl ?_
          refine TC.exit ?_
          refine TE.pass ?_
          clear hK15
          refine TE.hit ?_
          refine TE.next hK14 ?_
          clear hK14
          refine TC.region ?_
          refine TL.v (Want.plain rfl) rfl rfl (PV.move rfl rfl) ?_
          refine TL.v (Want.plain rfl) rfl rfl (PV.add rfl rfl rfl (wrap_i64 (by omega) (by omega))) ?_
          refine TL.v (Want.plain rfl) rfl rfl (PV.assign rfl rfl) ?_
          refine TL.nil ?_
          exact TE.round ((at' + 1, D') : (Int) × (DS)) ⟨by omega, by omega, by rw [hwi]; exact wipe_skip (by omega) h66, hD', by omega⟩ (by show (2048 - (at' + 1)).toNat < (2048 - at').toNat; omega)
            (Sub.r (Sub.r (Sub.r (Sub.r (Sub.nil _)))))
            (fun _ s => sep_keep [1, 0, 0] rfl s)
        · skip
          refine TL.nil ?_
          refine TE.next hK16 ?_
          clear hK16
          refine TC.no rfl ?_
          refine TC.skip ?_
          refine TE.next hK15 ?_
          clear hK15
          refine TC.seq (fun K17 hK17 => ?_)
          refine TC.region ?_
          refine TL.v (Want.plain rfl) rfl rfl (PV.move rfl rfl) ?_
          refine TL.v (Want.plain rfl) rfl rfl (PV.move rfl rfl) ?_
          refine TL.callR (A := [dk d (D')]) (B := [blkA b17 [(.pointer (some ⟨d, 0, none⟩)), (.int .i64 (((rs.length : Nat) : Int))), (.int .i64 (used))] 71, recsP 28 5 vr (rs)]) (Want.plain rfl) rfl rfl rfl nm15 rfl (dk_write d (D') at' (.slice none 0 0) ([]) hD' (by omega)) (fun _ s => s) (fun _ _ _ => .inl (.inl ⟨rfl, rfl⟩)) (fun vR HR hR => ?_)
          obtain ⟨hv, rfl⟩ := hR
          subst hv
          change TL _ _ _ _ _ _ _ _ _ [dk d (((D').write at' ([])).2), blkA b17 [(.pointer (some ⟨d, 0, none⟩)), (.int .i64 (((rs.length : Nat) : Int))), (.int .i64 (used))] 71, recsP 28 5 vr (rs)]
          refine TL.v (Want.plain rfl) rfl rfl (PV.assign rfl rfl) ?_
          refine TL.nil ?_
          refine TE.next hK17 ?_
          clear hK17
          refine TC.seq (fun K18 hK18 => ?_)
          refine TC.region ?_
          refine TL.v (Want.plain rfl) rfl rfl (PV.move rfl rfl) ?_
          refine TL.v (Want.plain rfl) rfl rfl (PV.neq rfl rfl rfl) ?_
          refine TL.dec (fun h71 => ?_) (fun h71 => ?_)
          · skip
            refine TL.nil ?_
            refine TE.next hK18 ?_
            clear hK18
            refine TC.yes rfl ?_
            refine TC.seq (fun K19 hK19 => ?_)
            refine TC.region ?_
            refine TL.v (Want.plain rfl) rfl rfl (PV.move rfl rfl) ?_
            refine TL.v (Want.plain rfl) rfl rfl (PV.assign rfl rfl) ?_
            refine TL.v (Want.plain rfl) rfl rfl (PV.assign rfl rfl) ?_
            refine TL.v (Want.plain rfl) rfl rfl (PV.assign rfl rfl) ?_
            refine TL.nil ?_
            refine TE.next hK19 ?_
            clear hK19
            refine TC.ret ?_
            refine TE.blockRet ?_
            refine TE.passRet ?_
            clear hK14
            refine TE.passRet ?_
            refine TE.blockRet ?_
            refine TE.passRet ?_
            clear hK10
            refine TE.weak (Sub.refl _) (fun _ s => sep_keep [0] rfl s) ?_
            refine TE.ret3 rfl rfl rfl rfl ?_
            rw [open_fail1 hss (hwi.trans (wipe_fail (by omega) h66 h71)) h71]
            exact .inl ⟨h71, rfl, rfl⟩
          · skip
            refine TL.nil ?_
            refine TE.next hK18 ?_
            clear hK18
            refine TC.no rfl ?_
            refine TC.skip ?_
            refine TE.blockEnd ?_
            refine TE.next hK14 ?_
            clear hK14
            refine TC.region ?_
            refine TL.v (Want.plain rfl) rfl rfl (PV.move rfl rfl) ?_
            refine TL.v (Want.plain rfl) rfl rfl (PV.add rfl rfl rfl (wrap_i64 (by omega) (by omega))) ?_
            refine TL.v (Want.plain rfl) rfl rfl (PV.assign rfl rfl) ?_
            refine TL.nil ?_
            exact TE.round ((at' + 1, (D'.write at' []).2) : (Int) × (DS)) ⟨by omega, by omega, by rw [hwi]; exact wipe_go (by omega) h66 (by simpa using h71), DS.write_ok hD' _ _, by have := DS.write_ws (D := D') (at' := at') (bs := []); omega⟩ (by show (2048 - (at' + 1)).toNat < (2048 - at').toNat; omega)
              (Sub.r (Sub.r (Sub.r (Sub.r (Sub.nil _)))))
              (fun _ s => sep_keep [1, 0, 0] rfl s)
      · skip
        refine TL.nil ?_
        refine TE.next hK13 ?_
        clear hK13
        refine TC.no rfl ?_
        refine TC.exit ?_
        refine TE.pass ?_
        clear hK12
        refine TE.pass ?_
        refine TE.hit ?_
        refine TE.next hK10 ?_
        clear hK10
        refine TC.seq (fun K20 hK20 => ?_)
        refine TC.seq (fun K21 hK21 => ?_)
        refine TC.region ?_
        refine TL.v (Want.plain rfl) rfl rfl (PV.move rfl rfl) ?_
        refine TL.callR (A := [dk d (D')]) (B := [blkA b17 [(.pointer (some ⟨d, 0, none⟩)), (.int .i64 (((rs.length : Nat) : Int))), (.int .i64 (used))] 71, recsP 28 5 vr (rs)]) (Want.plain rfl) rfl rfl rfl nm17 rfl (dk_sync d (D')  hD') (fun _ s => sep_selR [1] rfl s) (fun _ _ _ => trivial) (fun vR HR hR => ?_)
        obtain ⟨hv, rfl⟩ := hR
        subst hv
        change TL _ _ _ _ _ _ _ _ _ [dk d ((D').sync.2), blkA b17 [(.pointer (some ⟨d, 0, none⟩)), (.int .i64 (((rs.length : Nat) : Int))), (.int .i64 (used))] 71, recsP 28 5 vr (rs)]
        refine TL.v (Want.plain rfl) rfl rfl (PV.assign rfl rfl) ?_
        refine TL.nil ?_
        refine TE.next hK21 ?_
        clear hK21
        refine TC.seq (fun K22 hK22 => ?_)
        refine TC.region ?_
        refine TL.v (Want.plain rfl) rfl rfl (PV.move rfl rfl) ?_
        refine TL.v (Want.plain rfl) rfl rfl (PV.neq rfl rfl rfl) ?_
        refine TL.dec (fun h76 => ?_) (fun h76 => ?_)
        · skip
          refine TL.nil ?_
          refine TE.next hK22 ?_
          clear hK22
          refine TC.yes rfl ?_
          refine TC.seq (fun K23 hK23 => ?_)
          refine TC.region ?_
          refine TL.v (Want.plain rfl) rfl rfl (PV.move rfl rfl) ?_
          refine TL.v (Want.plain rfl) rfl rfl (PV.assign rfl rfl) ?_
          refine TL.v (Want.plain rfl) rfl rfl (PV.assign rfl rfl) ?_
          refine TL.v (Want.plain rfl) rfl rfl (PV.assign rfl rfl) ?_
          refine TL.nil ?_
          refine TE.next hK23 ?_
          clear hK23
          refine TC.ret ?_
          refine TE.passRet ?_
          clear hK20
          refine TE.weak (Sub.refl _) (fun _ s => sep_keep [0] rfl s) ?_
          refine TE.ret3 rfl rfl rfl rfl ?_
          rw [open_fail2 hss (hwi.trans (wipe_end (by omega))) h76]
          exact .inl ⟨h76, rfl, rfl⟩
        · skip
          refine TL.nil ?_
          refine TE.next hK22 ?_
          clear hK22
          refine TC.no rfl ?_
          refine TC.skip ?_
          refine TE.next hK20 ?_
          clear hK20
          refine TC.seq (fun K24 hK24 => ?_)
          refine TC.region ?_
          refine TL.v (Want.plain rfl) rfl rfl (PV.move rfl rfl) ?_
          refine TL.v (Want.plain rfl) rfl rfl (PV.move rfl rfl) ?_
          refine TL.v (Want.plain rfl) rfl rfl (PV.assign rfl rfl) ?_
          refine TL.v (Want.plain rfl) rfl rfl (PV.assign rfl rfl) ?_
          refine TL.v (Want.plain rfl) rfl rfl (PV.assign rfl rfl) ?_
          refine TL.nil ?_
          refine TE.next hK24 ?_
          clear hK24
          refine TC.ret ?_
          refine TE.weak (Sub.refl _) (fun _ s => sep_keep [1, 1, 0] rfl s) ?_
          refine TE.ret3 rfl rfl rfl rfl ?_
          have h76' : D'.sync.1 = 0 := by omega
          rw [open_ok hss (hwi.trans (wipe_end (by omega))) h76']
          exact .inr ⟨rfl, b17, vr, rfl, rfl⟩
    · skip
      have hro := standsP_room hI hD (by omega) hst
      have hfa := (standsP_facts (DS.read_len hD _) hst).1
      obtain ⟨f', rfl, hsn⟩ := Scan.next hI hD hsc hst
      change TL _ _ _ _ _ _ _ _ _ [subB u (b) 5, dk d (D), blkA b17 [(.pointer (some ⟨d, 0, none⟩)), (.int .i64 (((rs.length : Nat) : Int))), (.int .i64 (used))] 71, recsP 28 5 vr (rs)]
      refine TL.subLen 0 rfl rfl (fun hul hu => ?_)
      refine TL.nil ?_
      refine TE.draw (fun _ s => ⟨Frm.of s, s.block 2 (lb rfl) rfl, trivial⟩) ?_
      refine TD.take (i := 11) rfl (by kernel_rfl) (by kernel_rfl) (by kernel_rfl) (fun _ _ _ _ h => h) (Want.plain rfl) rfl rfl (PV.move rfl rfl) ?_
      refine TD.take (i := 12) rfl (by kernel_rfl) (by kernel_rfl) (by kernel_rfl) (fun _ _ _ _ h => h) (Want.plain rfl) rfl rfl (PV.extract (vs := [u, (.int .i64 (all)), (.bool true)]) rfl rfl rfl) ?_
      refine TD.take (i := 13) rfl (by kernel_rfl) (by kernel_rfl) (by kernel_rfl) (fun _ _ _ _ h => h) (Want.plain rfl) rfl rfl (PV.extract (vs := [u, (.int .i64 (all)), (.bool true)]) rfl rfl rfl) ?_
      refine TD.take (i := 14) rfl (by kernel_rfl) (by kernel_rfl) (by kernel_rfl) (fun _ _ _ _ h => h) (Want.plain rfl) rfl rfl (PV.extract (vs := [u, (.int .i64 (all)), (.bool true)]) rfl rfl rfl) ?_
      refine TD.take (i := 15) rfl (by kernel_rfl) (by kernel_rfl) (by kernel_rfl) (fun _ _ _ _ h => h) (Want.plain rfl) rfl rfl (PV.assign rfl rfl) ?_
      refine TD.take (i := 16) rfl (by kernel_rfl) (by kernel_rfl) (by kernel_rfl) (fun _ _ _ _ h => h) (Want.plain rfl) rfl rfl (PV.assign rfl rfl) ?_
      refine TD.take (i := 17) rfl (by kernel_rfl) (by kernel_rfl) (by kernel_rfl) (fun _ _ _ _ h => h) (Want.plain rfl) rfl rfl (PV.assign rfl rfl) ?_
      refine TD.done (by kernel_rfl) ?_
      refine TE.next hK7 ?_
      clear hK7
      refine TC.seq (fun K25 hK25 => ?_)
      refine TC.seq (fun K26 hK26 => ?_)
      refine TC.region ?_
      refine TL.v (Want.plain rfl) rfl rfl (PV.move rfl rfl) ?_
      refine TL.v (Want.plain rfl) rfl rfl (PV.not (r := false) rfl rfl rfl) ?_
      refine TL.nil ?_
      refine TE.next hK26 ?_
      clear hK26
      refine TC.no rfl ?_
      refine TC.skip ?_
      refine TE.next hK25 ?_
      clear hK25
      refine TC.seq (fun K27 hK27 => ?_)
      refine TC.region ?_
      refine TL.v (Want.plain rfl) rfl rfl (PV.move rfl rfl) ?_
      refine TL.v (Want.plain rfl) rfl rfl (PV.move rfl rfl) ?_
      refine TL.buildSlice (cells := #[u]) (Want.plain rfl) rfl rfl rfl Try.underlying44 in28 rfl rfl rfl (fill_one hu (by simp)) (fun b37 => ?_)
      change TL _ _ _ _ _ _ _ _ _ [blkA b37 [u] 28, subB u (b) 5, dk d (D), blkA b17 [(.pointer (some ⟨d, 0, none⟩)), (.int .i64 (((rs.length : Nat) : Int))), (.int .i64 (used))] 71, recsP 28 5 vr (rs)]
      refine TL.mono (fun _ s => sep_selR [4] rfl s) ?_
      refine TL.recsOpen (fun us38 => ?_)
      change TL _ _ _ _ _ _ _ _ _ [own vr ((rs).length) (us38) 28 1, bunch us38 (rs) 5, blkA b37 [u] 28, subB u (b) 5, dk d (D), blkA b17 [(.pointer (some ⟨d, 0, none⟩)), (.int .i64 (((rs.length : Nat) : Int))), (.int .i64 (used))] 71]
      refine TL.append (k := 0) (m := 1) (news := [u]) (nn' := (rs).length + 1) (xs' := us38 ++ [u]) (Want.plain rfl) rfl rfl rfl Try.underlying44 in28 rfl rfl rfl rfl rfl rfl (fun _ _ => Src.rd rfl (Rd.own 2 rfl rfl) rfl) (List.forall_mem_cons.2 ⟨hu, fun _ h => by cases h⟩) (by simp only [maxLen]; omega) (by omega) rfl rfl (fun v38 ov38 => ?_)
      change TL _ _ _ _ _ _ _ _ _ [own v38 ((rs).length + 1) (us38 ++ [u]) 28 1, bunch us38 (rs) 5, blkA b37 [u] 28, subB u (b) 5, dk d (D), blkA b17 [(.pointer (some ⟨d, 0, none⟩)), (.int .i64 (((rs.length : Nat) : Int))), (.int .i64 (used))] 71]
      refine TL.mono (H' := [own v38 ((rs).length + 1) (us38 ++ [u]) 28 1, bunch us38 (rs) 5, subB u (b) 5, blkA b37 [u] 28, dk d (D), blkA b17 [(.pointer (some ⟨d, 0, none⟩)), (.int .i64 (((rs.length : Nat) : Int))), (.int .i64 (used))] 71]) (fun _ s => sep_selR [0, 0, 1] rfl s) ?_
      refine TL.mono (fun _ s => sep_recsAdd s) ?_
      change TL _ _ _ _ _ _ _ _ _ [recsP 28 5 v38 (rs ++ [b]), blkA b37 [u] 28, dk d (D), blkA b17 [(.pointer (some ⟨d, 0, none⟩)), (.int .i64 (((rs.length : Nat) : Int))), (.int .i64 (used))] 71]
      refine TL.v (Want.plain rfl) rfl rfl (PV.assign rfl rfl) ?_
      refine TL.nil ?_
      refine TE.next hK27 ?_
      clear hK27
      refine TC.seq (fun K28 hK28 => ?_)
      refine TC.region ?_
      refine TL.v (Want.plain rfl) rfl rfl (PV.move rfl rfl) ?_
      refine TL.v (Want.plain rfl) rfl rfl (PV.nilCheck rfl rfl) ?_
      refine TL.v (Want.plain rfl) rfl rfl (PV.fieldAddr (r := 1) rfl Try.underlying71 rfl sz3 rfl rfl) ?_
      refine TL.v (Want.plain rfl) rfl rfl (PV.load1 (v := (.int .i64 (((rs.length : Nat) : Int)))) rfl Try.underlying3 rfl rfl (Rd.own 3 rfl rfl) rfl) ?_
      refine TL.v (Want.plain rfl) rfl rfl (PV.to (v' := (.int .i64 ((((rs ++ [b]).length : Nat) : Int)))) (PV.add rfl rfl rfl (wrap_i64 (by omega) (by omega))) (congrArg (Value.int .i64) (by simp))) ?_
      refine TL.v (Want.plain rfl) rfl rfl (PV.nilCheck rfl rfl) ?_
      refine TL.v (Want.plain rfl) rfl rfl (PV.fieldAddr (r := 1) rfl Try.underlying71 rfl sz3 rfl rfl) ?_
      refine TL.store1 (i := 3) (H' := [recsP 28 5 v38 (rs ++ [b]), blkA b37 [u] 28, dk d (D), blkA b17 [(.pointer (some ⟨d, 0, none⟩)), (.int .i64 ((((rs ++ [b]).length : Nat) : Int))), (.int .i64 (used))] 71]) (Want.plain rfl) rfl rfl rfl rfl rfl sz3 rfl rfl (lb rfl) rfl rfl ?_
      refine TL.nil ?_
      refine TE.next hK28 ?_
      clear hK28
      refine TC.region ?_
      refine TL.v (Want.plain rfl) rfl rfl (PV.move rfl rfl) ?_
      refine TL.v (Want.plain rfl) rfl rfl (PV.nilCheck rfl rfl) ?_
      refine TL.v (Want.plain rfl) rfl rfl (PV.fieldAddr (r := 2) rfl Try.underlying71 rfl sz3 rfl rfl) ?_
      refine TL.v (Want.plain rfl) rfl rfl (PV.load1 (v := (.int .i64 (used))) rfl Try.underlying3 rfl rfl (Rd.own 3 rfl rfl) rfl) ?_
      refine TL.v (Want.plain rfl) rfl rfl (PV.move rfl rfl) ?_
      refine TL.v (Want.plain rfl) rfl rfl (PV.add rfl rfl rfl (wrap_i64 (by omega) (by omega))) ?_
      refine TL.v (Want.plain rfl) rfl rfl (PV.nilCheck rfl rfl) ?_
      refine TL.v (Want.plain rfl) rfl rfl (PV.fieldAddr (r := 2) rfl Try.underlying71 rfl sz3 rfl rfl) ?_
      refine TL.store1 (i := 3) (H' := [recsP 28 5 v38 (rs ++ [b]), blkA b37 [u] 28, dk d (D), blkA b17 [(.pointer (some ⟨d, 0, none⟩)), (.int .i64 ((((rs ++ [b]).length : Nat) : Int))), (.int .i64 (used + all))] 71]) (Want.plain rfl) rfl rfl rfl rfl rfl sz3 rfl rfl (lb rfl) rfl rfl ?_
      refine TL.nil ?_
      refine TE.blockEnd ?_
      exact TE.round ((f', rs ++ [b], used + all, v38) : (Nat) × (List (List UInt8)) × (Int) × (Value)) ⟨hsn, ov38⟩ (Nat.lt_succ_self _)
        (Sub.r (Sub.r (Sub.r (Sub.r (Sub.r (Sub.r (Sub.nil _)))))))
        (fun _ s => sep_keep [3, 2, 0] rfl s)
  exact AllT.nil


end Go.Proofs.Ytocdameafihnaaa
