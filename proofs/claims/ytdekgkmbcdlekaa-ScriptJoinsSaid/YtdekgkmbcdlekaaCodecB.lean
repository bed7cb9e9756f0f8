/-
  The contracts of package codec's Reader, walked.
-/

import Derived.Test.YtdekgkmbcdlekaaTy
import Derived.Test.YtdekgkmbcdlekaaCodecA

namespace Go.Proofs.Ytdekgkmbcdlekaa

open Go Leg Codec Api

set_option maxRecDepth 100000

theorem mixed : Try.prog.follows .mixedOrders = true := by kernel_rfl

/-- What a Reader throws. -/
abbrev giveUp : List PanicEntry := [{ v := .iface 101 (.agg #[]), recovered := false }]

theorem num_cells (rb b off cap : Nat) (bs : List UInt8) (cs : List Value) (T : TypeId) (z : Nat × Nat) (hcap : bs.length ≤ cap) (hm : cap ≤ 9223372036854775807) (hb : ∀ j, j < bs.length → cs[off + j]? = some (.int .u8 ((bs.getD j 0).toNat : Nat))) :
    Does Try.prog 49 #[(.pointer (some ⟨rb, 0, none⟩))] (fun F => F b = some (.cells cs.toArray T z)) [blkA rb [(.slice (some ⟨b, off, none⟩) (bs.length) (cap))] 99] (RetP (fun x H => ∃ n r v', x = .int .i64 ((n : Nat) : Int) ∧ H = [blkA rb [v'] 99] ∧ parse 0 0 bs = some (n, r) ∧ Tail (.slice (some ⟨b, off, none⟩) bs.length cap) bs v' r) (fun c H => c = giveUp ∧ H = [blkA rb [(.slice (some ⟨b, off, none⟩) bs.length cap)] 99] ∧ parse 0 0 bs = none)) := by
  refine Does.body (vs := [(.pointer (some ⟨rb, 0, none⟩))]) (n := 48) Try.func49 rfl rfl rfl (fun w0 F hF => ?_)
  refine TC.seq (fun K1 hK1 => ?_)
  refine TC.region ?_
  refine TL.v (Want.plain rfl) rfl rfl (PV.assign rfl rfl) ?_
  refine TL.nil ?_
  refine TE.next hK1 ?_
  clear hK1
  refine TC.seq (fun K2 hK2 => ?_)
  refine TC.region ?_
  refine TL.v (Want.plain rfl) rfl rfl (PV.assign rfl rfl) ?_
  refine TL.nil ?_
  refine TE.next hK2 ?_
  clear hK2
  refine TC.seq (fun K3 hK3 => ?_)
  refine TC.seq (fun K4 hK4 => ?_)
  refine TC.region ?_
  refine TL.v (Want.plain rfl) rfl rfl (PV.move rfl rfl) ?_
  refine TL.v (Want.plain rfl) rfl rfl (PV.nilCheck rfl rfl) ?_
  refine TL.v (Want.plain rfl) rfl rfl (PV.fieldAddr (r := 0) rfl Try.underlying99 rfl sz27 rfl rfl) ?_
  refine TL.v (Want.plain rfl) rfl rfl (PV.load1 (v := (.slice (some ⟨b, off, none⟩) (bs.length) (cap))) rfl Try.underlying27 rfl rfl (Rd.own 0 rfl rfl) rfl) ?_
  refine TL.v (Want.plain rfl) rfl rfl (PV.lenSl rfl Try.underlying27 rfl) ?_
  refine TL.v (Want.plain rfl) rfl rfl (PV.move rfl rfl) ?_
  refine TL.nil ?_
  refine TE.next hK4 ?_
  clear hK4
  refine TC.block ?_
  refine TC.loop (α := (Nat) × (Nat)) (fun ⟨k, a⟩ => k ≤ bs.length ∧ k ≤ 9 ∧ a < 2 ^ (7 * k) ∧ parse 0 0 bs = parse k a (bs.drop k)) (fun ⟨k, a⟩ => [(0, (.pointer (some ⟨rb, 0, none⟩))), (3, (.int .i64 ((a : Nat)))), (9, (.slice (some ⟨b, off, none⟩) (bs.length) (cap))), (10, (.int .i64 (((bs.length : Nat) : Int)))), (11, (.int .i64 ((k : Nat))))]) (fun ⟨k, a⟩ => [blkA rb [(.slice (some ⟨b, off, none⟩) (bs.length) (cap))] 99]) (fun ⟨k, a⟩ => bs.length - k) (0, 0)
      ⟨by omega, by omega, by omega, rfl⟩ (Sub.r (Sub.cons rfl (by congr 1) (Sub.r (Sub.r (Sub.cons rfl (by congr 1) (Sub.nil _))))))
      (fun _ s => s) (fun ⟨k, a⟩ hinv => ?_)
  obtain ⟨hk, hk9, ha, hp⟩ := hinv
  have hc : (bs.getD k 0).toNat < 256 := (bs.getD k 0).toNat_lt
  refine TC.seq (fun K5 hK5 => ?_)
  refine TC.region ?_
  refine TL.v (Want.plain rfl) rfl rfl (PV.lss rfl rfl rfl) ?_
  refine TL.dec (fun h12 => ?_) (fun h12 => ?_)
  · skip
    refine TL.nil ?_
    refine TE.next hK5 ?_
    clear hK5
    refine TC.seq (fun K6 hK6 => ?_)
    refine TC.yes rfl ?_
    refine TC.skip ?_
    refine TE.next hK6 ?_
    clear hK6
    refine TC.seq (fun K7 hK7 => ?_)
    refine TC.block ?_
    refine TC.seq (fun K8 hK8 => ?_)
    refine TC.region ?_
    refine TL.v (Want.plain rfl) rfl rfl (PV.move rfl rfl) ?_
    refine TL.v (Want.plain rfl) rfl rfl (PV.indexSl (r := off + k) rfl Try.underlying27 sz5 rfl rfl (by first | omega | decide) (by first | omega | decide) (by omega)) ?_
    refine TL.v (Want.plain rfl) rfl rfl (PV.load1 (v := (.int .u8 (((bs.getD k 0).toNat : Nat)))) rfl Try.underlying5 rfl rfl (Rd.ro hF) (hb k (by omega))) ?_
    refine TL.v (Want.plain rfl) rfl rfl (PV.assign rfl rfl) ?_
    refine TL.v (Want.plain rfl) rfl rfl (PV.assign rfl rfl) ?_
    refine TL.nil ?_
    refine TE.next hK8 ?_
    clear hK8
    refine TC.seq (fun K9 hK9 => ?_)
    refine TC.seq (fun K10 hK10 => ?_)
    refine TC.region ?_
    refine TL.v (Want.plain rfl) rfl rfl (PV.move rfl rfl) ?_
    refine TL.v (Want.plain rfl) rfl rfl (PV.eql rfl rfl rfl) ?_
    refine TL.dec (fun h17 => ?_) (fun h17 => ?_)
    · skip
      refine TL.nil ?_
      refine TE.next hK10 ?_
      clear hK10
      refine TC.yes rfl ?_
      refine TC.exit ?_
      refine TE.pass ?_
      clear hK9
      refine TE.miss (by decide) ?_
      refine TE.pass ?_
      clear hK7
      refine TE.pass ?_
      refine TE.hit ?_
      refine TE.next hK3 ?_
      clear hK3
      refine TC.region ?_
      refine TL.v (Want.plain rfl) rfl rfl (PV.build (cells := #[]) rfl rfl (by as_aux_lemma => kernel_rfl)) ?_
      refine TL.v (Want.plain rfl) rfl rfl (PV.mkIface rfl Try.underlying101 rfl rfl) ?_
      refine TL.panicOp (Want.plain rfl) rfl rfl ?_
      refine TE.panicked ?_
      exact ⟨rfl, rfl, by rw [hp, drop_getD bs k (by omega)]; simp only [parse]; rw [if_pos (by omega)]⟩
    · skip
      refine TL.nil ?_
      refine TE.next hK10 ?_
      clear hK10
      refine TC.no rfl ?_
      refine TC.skip ?_
      refine TE.next hK9 ?_
      clear hK9
      refine TC.seq (fun K11 hK11 => ?_)
      refine TC.region ?_
      refine TL.v (Want.plain rfl) rfl rfl (PV.move rfl rfl) ?_
      refine TL.v (Want.plain rfl) rfl rfl (PV.move rfl rfl) ?_
      refine TL.v (Want.plain rfl) rfl rfl (PV.and (r := (((bs.getD k 0).toNat % 128 : Nat) : Int)) rfl rfl rfl (and127 _ hc)) ?_
      refine TL.v (Want.plain rfl) rfl rfl (PV.convI rfl Try.underlying5 Try.underlying3 rfl (wrap_i64 (by omega) (by omega))) ?_
      refine TL.v (Want.plain rfl) rfl rfl (PV.move rfl rfl) ?_
      refine TL.v (Want.plain rfl) rfl rfl (PV.mul rfl rfl rfl (wrap_i64 (by omega) (by omega))) ?_
      refine TL.v (Want.plain rfl) rfl rfl (PV.shl (r := (((bs.getD k 0).toNat % 128 * 2 ^ (7 * k) : Nat) : Int)) rfl rfl rfl (by omega) (shl7 _ k (by omega) (by omega))) ?_
      refine TL.v (Want.plain rfl) rfl rfl (PV.or (r := ((a + (bs.getD k 0).toNat % 128 * 2 ^ (7 * k) : Nat) : Int)) rfl rfl rfl (or_add a _ k ha (by omega) (by omega))) ?_
      refine TL.v (Want.plain rfl) rfl rfl (PV.assign rfl rfl) ?_
      refine TL.nil ?_
      refine TE.next hK11 ?_
      clear hK11
      refine TC.seq (fun K12 hK12 => ?_)
      refine TC.seq (fun K13 hK13 => ?_)
      refine TC.region ?_
      refine TL.v (Want.plain rfl) rfl rfl (PV.move rfl rfl) ?_
      refine TL.v (Want.plain rfl) rfl rfl (PV.geq rfl rfl rfl) ?_
      refine TL.dec (fun h27 => ?_) (fun h27 => ?_)
      · skip
        refine TL.nil ?_
        refine TE.next hK13 ?_
        clear hK13
        refine TC.yes rfl ?_
        refine TC.exit ?_
        refine TE.pass ?_
        clear hK12
        refine TE.hit ?_
        refine TE.next hK7 ?_
        clear hK7
        refine TC.region ?_
        refine TL.v (Want.plain rfl) rfl rfl (PV.add rfl rfl rfl (wrap_i64 (by omega) (by omega))) ?_
        refine TL.v (Want.plain rfl) rfl rfl (PV.move rfl rfl) ?_
        refine TL.nil ?_
        exact TE.round ((k + 1, a + (bs.getD k 0).toNat % 128 * 2 ^ (7 * k)) : (Nat) × (Nat)) ⟨by omega, by omega, grow7 a _ k ha (by omega), by rw [hp, drop_getD bs k (by omega)]; simp only [parse]; rw [if_neg (by omega), if_pos (by omega)]⟩ (by show _ - _ < _ - _; omega)
          (Sub.r (Sub.r (Sub.r (Sub.r (Sub.r (Sub.nil _))))))
          (fun _ s => s)
      · skip
        refine TL.nil ?_
        refine TE.next hK13 ?_
        clear hK13
        refine TC.no rfl ?_
        refine TC.skip ?_
        refine TE.next hK12 ?_
        clear hK12
        refine TC.seq (fun K14 hK14 => ?_)
        refine TC.seq (fun K15 hK15 => ?_)
        refine TC.region ?_
        refine TL.v (Want.plain rfl) rfl rfl (PV.move rfl rfl) ?_
        refine TL.v (Want.plain rfl) rfl rfl (PV.eql rfl rfl rfl) ?_
        refine TL.dec (fun h29 => ?_) (fun h29 => ?_)
        · skip
          refine TL.v (Want.plain rfl) rfl rfl (PV.move rfl rfl) ?_
          refine TL.v (Want.met rfl rfl rfl) rfl rfl (PV.move rfl rfl) ?_
          refine TL.v (Want.met rfl rfl rfl) rfl rfl (PV.gtr rfl rfl rfl) ?_
          refine TL.dec (fun h32 => ?_) (fun h32 => ?_)
          · skip
            refine TL.v (Want.plain rfl) rfl rfl (PV.pick rfl rfl rfl) ?_
            refine TL.nil ?_
            refine TE.next hK15 ?_
            clear hK15
            refine TC.yes rfl ?_
            refine TC.exit ?_
            refine TE.pass ?_
            clear hK14
            refine TE.miss (by decide) ?_
            refine TE.pass ?_
            clear hK7
            refine TE.pass ?_
            refine TE.hit ?_
            refine TE.next hK3 ?_
            clear hK3
            refine TC.region ?_
            refine TL.v (Want.plain rfl) rfl rfl (PV.build (cells := #[]) rfl rfl (by as_aux_lemma => kernel_rfl)) ?_
            refine TL.v (Want.plain rfl) rfl rfl (PV.mkIface rfl Try.underlying101 rfl rfl) ?_
            refine TL.panicOp (Want.plain rfl) rfl rfl ?_
            refine TE.panicked ?_
            exact ⟨rfl, rfl, by rw [hp, drop_getD bs k (by omega)]; simp only [parse]; rw [if_neg (by omega), if_neg (by omega), if_pos (by omega)]⟩
          · skip
            refine TL.v (Want.plain rfl) rfl rfl (PV.pick rfl rfl rfl) ?_
            refine TL.nil ?_
            refine TE.next hK15 ?_
            clear hK15
            refine TC.no rfl ?_
            refine TC.skip ?_
            refine TE.next hK14 ?_
            clear hK14
            refine TC.seq (fun K16 hK16 => ?_)
            refine TC.region ?_
            refine TL.v (Want.plain rfl) rfl rfl (PV.move rfl rfl) ?_
            refine TL.v (Want.plain rfl) rfl rfl (PV.move rfl rfl) ?_
            refine TL.v (Want.plain rfl) rfl rfl (PV.nilCheck rfl rfl) ?_
            refine TL.v (Want.plain rfl) rfl rfl (PV.fieldAddr (r := 0) rfl Try.underlying99 rfl sz27 rfl rfl) ?_
            refine TL.v (Want.plain rfl) rfl rfl (PV.load1 (v := (.slice (some ⟨b, off, none⟩) (bs.length) (cap))) rfl Try.underlying27 rfl rfl (Rd.own 0 rfl rfl) rfl) ?_
            refine TL.v (Want.plain rfl) rfl rfl (PV.move rfl rfl) ?_
            refine TL.v (Want.plain rfl) rfl rfl (PV.add rfl rfl rfl (wrap_i64 (by omega) (by omega))) ?_
            refine TL.v (Want.plain rfl) rfl rfl (PV.sliceLo (k := k + 1) rfl Try.underlying27 sz5 rfl rfl (by omega) (by omega) rfl) ?_
            refine TL.v (Want.plain rfl) rfl rfl (PV.nilCheck rfl rfl) ?_
            refine TL.v (Want.plain rfl) rfl rfl (PV.fieldAddr (r := 0) rfl Try.underlying99 rfl sz27 rfl rfl) ?_
            refine TL.store1 (i := 0) (H' := [blkA rb [(cutB (.slice (some ⟨b, off, none⟩) bs.length cap) (k + 1))] 99]) (Want.plain rfl) rfl rfl rfl rfl rfl sz27 rfl rfl (lb rfl) rfl rfl ?_
            refine TL.nil ?_
            refine TE.next hK16 ?_
            clear hK16
            refine TC.seq (fun K17 hK17 => ?_)
            refine TC.region ?_
            refine TL.v (Want.plain rfl) rfl rfl (PV.move rfl rfl) ?_
            refine TL.v (Want.plain rfl) rfl rfl (PV.assign rfl rfl) ?_
            refine TL.nil ?_
            refine TE.next hK17 ?_
            clear hK17
            refine TC.ret ?_
            refine TE.blockRet ?_
            refine TE.passRet ?_
            clear hK7
            refine TE.passRet ?_
            refine TE.blockRet ?_
            refine TE.passRet ?_
            clear hK3
            refine TE.ret1 rfl rfl ?_
            exact ⟨_, _, _, rfl, rfl, by rw [hp, drop_getD bs k (by omega)]; simp only [parse]; rw [if_neg (by omega), if_neg (by omega), if_neg (by omega)], Tail.cut _ (by omega)⟩
        · skip
          refine TL.v (Want.plain rfl) rfl rfl (PV.move rfl rfl) ?_
          refine TL.unmet (b := false) rfl rfl rfl rfl (lb rfl) ?_
          refine TL.unmet (b := false) rfl rfl rfl rfl (lb rfl) ?_
          refine TL.v (Want.plain rfl) rfl rfl (PV.pick rfl rfl rfl) ?_
          refine TL.nil ?_
          refine TE.next hK15 ?_
          clear hK15
          refine TC.no rfl ?_
          refine TC.skip ?_
          refine TE.next hK14 ?_
          clear hK14
          refine TC.seq (fun K18 hK18 => ?_)
          refine TC.region ?_
          refine TL.v (Want.plain rfl) rfl rfl (PV.move rfl rfl) ?_
          refine TL.v (Want.plain rfl) rfl rfl (PV.move rfl rfl) ?_
          refine TL.v (Want.plain rfl) rfl rfl (PV.nilCheck rfl rfl) ?_
          refine TL.v (Want.plain rfl) rfl rfl (PV.fieldAddr (r := 0) rfl Try.underlying99 rfl sz27 rfl rfl) ?_
          refine TL.v (Want.plain rfl) rfl rfl (PV.load1 (v := (.slice (some ⟨b, off, none⟩) (bs.length) (cap))) rfl Try.underlying27 rfl rfl (Rd.own 0 rfl rfl) rfl) ?_
          refine TL.v (Want.plain rfl) rfl rfl (PV.move rfl rfl) ?_
          refine TL.v (Want.plain rfl) rfl rfl (PV.add rfl rfl rfl (wrap_i64 (by omega) (by omega))) ?_
          refine TL.v (Want.plain rfl) rfl rfl (PV.sliceLo (k := k + 1) rfl Try.underlying27 sz5 rfl rfl (by omega) (by omega) rfl) ?_
          refine TL.v (Want.plain rfl) rfl rfl (PV.nilCheck rfl rfl) ?_
          refine TL.v (Want.plain rfl) rfl rfl (PV.fieldAddr (r := 0) rfl Try.underlying99 rfl sz27 rfl rfl) ?_
          refine TL.store1 (i := 0) (H' := [blkA rb [(cutB (.slice (some ⟨b, off, none⟩) bs.length cap) (k + 1))] 99]) (Want.plain rfl) rfl rfl rfl rfl rfl sz27 rfl rfl (lb rfl) rfl rfl ?_
          refine TL.nil ?_
          refine TE.next hK18 ?_
          clear hK18
          refine TC.seq (fun K19 hK19 => ?_)
          refine TC.region ?_
          refine TL.v (Want.plain rfl) rfl rfl (PV.move rfl rfl) ?_
          refine TL.v (Want.plain rfl) rfl rfl (PV.assign rfl rfl) ?_
          refine TL.nil ?_
          refine TE.next hK19 ?_
          clear hK19
          refine TC.ret ?_
          refine TE.blockRet ?_
          refine TE.passRet ?_
          clear hK7
          refine TE.passRet ?_
          refine TE.blockRet ?_
          refine TE.passRet ?_
          clear hK3
          refine TE.ret1 rfl rfl ?_
          exact ⟨_, _, _, rfl, rfl, by rw [hp, drop_getD bs k (by omega)]; simp only [parse]; rw [if_neg (by omega), if_neg (by omega), if_neg (by omega)], Tail.cut _ (by omega)⟩
  · skip
    refine TL.nil ?_
    refine TE.next hK5 ?_
    clear hK5
    refine TC.seq (fun K20 hK20 => ?_)
    refine TC.no rfl ?_
    refine TC.exit ?_
    refine TE.pass ?_
    clear hK20
    refine TE.pass ?_
    refine TE.hit ?_
    refine TE.next hK3 ?_
    clear hK3
    refine TC.region ?_
    refine TL.v (Want.plain rfl) rfl rfl (PV.build (cells := #[]) rfl rfl (by as_aux_lemma => kernel_rfl)) ?_
    refine TL.v (Want.plain rfl) rfl rfl (PV.mkIface rfl Try.underlying101 rfl rfl) ?_
    refine TL.panicOp (Want.plain rfl) rfl rfl ?_
    refine TE.panicked ?_
    exact ⟨rfl, rfl, by rw [hp, List.drop_eq_nil_of_le (by omega)]; rfl⟩


theorem num_nil (rb : Nat) :
    Does Try.prog 49 #[(.pointer (some ⟨rb, 0, none⟩))] (fun _ => True) [blkA rb [(.slice none 0 0)] 99] (RetP (fun x H => ∃ n r v', x = .int .i64 ((n : Nat) : Int) ∧ H = [blkA rb [v'] 99] ∧ parse 0 0 [] = some (n, r) ∧ Tail (.slice none 0 0) [] v' r) (fun c H => c = giveUp ∧ H = [blkA rb [(.slice none 0 0)] 99] ∧ parse 0 0 [] = none)) := by
  refine Does.body (vs := [(.pointer (some ⟨rb, 0, none⟩))]) (n := 48) Try.func49 rfl rfl rfl (fun w0 F hF => ?_)
  refine TC.seq (fun K1 hK1 => ?_)
  refine TC.region ?_
  refine TL.v (Want.plain rfl) rfl rfl (PV.assign rfl rfl) ?_
  refine TL.nil ?_
  refine TE.next hK1 ?_
  clear hK1
  refine TC.seq (fun K2 hK2 => ?_)
  refine TC.region ?_
  refine TL.v (Want.plain rfl) rfl rfl (PV.assign rfl rfl) ?_
  refine TL.nil ?_
  refine TE.next hK2 ?_
  clear hK2
  refine TC.seq (fun K3 hK3 => ?_)
  refine TC.seq (fun K4 hK4 => ?_)
  refine TC.region ?_
  refine TL.v (Want.plain rfl) rfl rfl (PV.move rfl rfl) ?_
  refine TL.v (Want.plain rfl) rfl rfl (PV.nilCheck rfl rfl) ?_
  refine TL.v (Want.plain rfl) rfl rfl (PV.fieldAddr (r := 0) rfl Try.underlying99 rfl sz27 rfl rfl) ?_
  refine TL.v (Want.plain rfl) rfl rfl (PV.load1 (v := (.slice none 0 0)) rfl Try.underlying27 rfl rfl (Rd.own 0 rfl rfl) rfl) ?_
  refine TL.v (Want.plain rfl) rfl rfl (PV.lenSl rfl Try.underlying27 rfl) ?_
  refine TL.v (Want.plain rfl) rfl rfl (PV.move rfl rfl) ?_
  refine TL.nil ?_
  refine TE.next hK4 ?_
  clear hK4
  refine TC.block ?_
  refine TC.loop (α := Unit) (fun _u => True) (fun _u => [(0, (.pointer (some ⟨rb, 0, none⟩))), (3, (.int .i64 0)), (9, (.slice none 0 0)), (10, (.int .i64 0)), (11, (.int .i64 0))]) (fun _u => [blkA rb [(.slice none 0 0)] 99]) (fun _u => 0) ()
      trivial (Sub.r (Sub.r (Sub.r (Sub.r (Sub.r (Sub.nil _))))))
      (fun _ s => s) (fun _u hinv => ?_)
  obtain _ := hinv
  refine TC.seq (fun K5 hK5 => ?_)
  refine TC.region ?_
  refine TL.v (Want.plain rfl) rfl rfl (PV.lss rfl rfl rfl) ?_
  refine TL.nil ?_
  refine TE.next hK5 ?_
  clear hK5
  refine TC.seq (fun K6 hK6 => ?_)
  refine TC.no rfl ?_
  refine TC.exit ?_
  refine TE.pass ?_
  clear hK6
  refine TE.pass ?_
  refine TE.hit ?_
  refine TE.next hK3 ?_
  clear hK3
  refine TC.region ?_
  refine TL.v (Want.plain rfl) rfl rfl (PV.build (cells := #[]) rfl rfl (by as_aux_lemma => kernel_rfl)) ?_
  refine TL.v (Want.plain rfl) rfl rfl (PV.mkIface rfl Try.underlying101 rfl rfl) ?_
  refine TL.panicOp (Want.plain rfl) rfl rfl ?_
  refine TE.panicked ?_
  exact ⟨rfl, rfl, rfl⟩


theorem num_does (rb : Nat) (v : Value) (bs : List UInt8) : Does Try.prog 49 #[(.pointer (some ⟨rb, 0, none⟩))] (IsB v bs) [blkA rb [v] 99] (RdPost 99 giveUp (fun n => .int .i64 n) numP v bs rb) := by
  have fin : ∀ e H, (RetP (fun x H => ∃ n r v', x = .int .i64 ((n : Nat) : Int) ∧ H = [blkA rb [v'] 99] ∧ parse 0 0 bs = some (n, r) ∧ Tail v bs v' r) (fun c H => c = giveUp ∧ H = [blkA rb [v] 99] ∧ parse 0 0 bs = none)) e H → RdPost 99 giveUp (fun n => .int .i64 n) numP v bs rb e H := by
    intro e H h
    cases e with
    | returned x => obtain ⟨n, r, v', h1, h2, h3, h4⟩ := h; exact ⟨_, r, v', h1, h2, numP_some h3, h4⟩
    | panicked c => obtain ⟨h1, h2, h3⟩ := h; exact ⟨_, h1, h2, numP_none h3⟩
    | outgrown => exact h
  refine Does.of fun F hF => ?_
  rcases id hF with ⟨rfl, rfl⟩ | ⟨b, off, cap, cs, T, z, rfl, h1, h2, h3, h4⟩
  · exact ⟨_, trivial, (num_nil rb).mono fin⟩
  · exact ⟨_, h3, (num_cells rb b off cap bs cs T z h1 h2 h4).mono fin⟩

theorem small_does (rb : Nat) (v : Value) (bs : List UInt8) (lim : Int) :
    Does Try.prog 47 #[(.pointer (some ⟨rb, 0, none⟩)), (.int .i64 (lim))] (IsB v bs) [blkA rb [v] 99] (RdPost 99 giveUp (fun n => .int .i64 n) (smallP lim) v bs rb) := by
  refine Does.body (vs := [(.pointer (some ⟨rb, 0, none⟩)), (.int .i64 (lim))]) (n := 14) Try.func47 rfl rfl rfl (fun w0 F hF => ?_)
  refine TC.seq (fun K1 hK1 => ?_)
  refine TC.region ?_
  refine TL.v (Want.plain rfl) rfl rfl (PV.assign rfl rfl) ?_
  refine TL.nil ?_
  refine TE.next hK1 ?_
  clear hK1
  refine TC.seq (fun K2 hK2 => ?_)
  refine TC.region ?_
  refine TL.v (Want.plain rfl) rfl rfl (PV.move rfl rfl) ?_
  refine TL.callP (A := [blkA rb [v] 99]) (B := []) (Want.plain rfl) rfl rfl rfl nm49 rfl (num_does rb v bs ) (fun _ s => s) (fun _ d _ => (hF).more d) (fun cP HP hP => ?_) (fun vR HR hR => ?_)
  · skip
    obtain ⟨vP, rfl, rfl, hpP⟩ := hP
    change TE _ _ _ _ _ _ _ [blkA rb [vP] 99]
    refine TE.passPanic ?_
    clear hK2
    refine TE.weak (Sub.refl _) (fun _ s => sep_keep [0] rfl s) ?_
    refine TE.panicked ?_
    exact ⟨_, rfl, rfl, by simp [smallP, pb_none hpP]⟩
  obtain ⟨a1, r1, v1, rfl, rfl, hp1, ht1⟩ := hR
  change TL _ _ _ _ _ _ _ _ _ [blkA rb [v1] 99]
  have hf1 := ht1 _ hF
  refine TL.v (Want.plain rfl) rfl rfl (PV.assign rfl rfl) ?_
  refine TL.nil ?_
  refine TE.next hK2 ?_
  clear hK2
  refine TC.seq (fun K3 hK3 => ?_)
  refine TC.seq (fun K4 hK4 => ?_)
  refine TC.region ?_
  refine TL.v (Want.plain rfl) rfl rfl (PV.move rfl rfl) ?_
  refine TL.v (Want.plain rfl) rfl rfl (PV.move rfl rfl) ?_
  refine TL.v (Want.plain rfl) rfl rfl (PV.geq rfl rfl rfl) ?_
  refine TL.dec (fun h10 => ?_) (fun h10 => ?_)
  · skip
    refine TL.nil ?_
    refine TE.next hK4 ?_
    clear hK4
    refine TC.yes rfl ?_
    refine TC.region ?_
    refine TL.v (Want.plain rfl) rfl rfl (PV.build (cells := #[]) rfl rfl (by as_aux_lemma => kernel_rfl)) ?_
    refine TL.v (Want.plain rfl) rfl rfl (PV.mkIface rfl Try.underlying101 rfl rfl) ?_
    refine TL.panicOp (Want.plain rfl) rfl rfl ?_
    refine TE.passPanic ?_
    clear hK3
    refine TE.weak (Sub.refl _) (fun _ s => sep_keep [0] rfl s) ?_
    refine TE.panicked ?_
    exact ⟨_, rfl, rfl, by simp [smallP, pb_some hp1, h10, pf]⟩
  · skip
    refine TL.nil ?_
    refine TE.next hK4 ?_
    clear hK4
    refine TC.no rfl ?_
    refine TC.skip ?_
    refine TE.next hK3 ?_
    clear hK3
    refine TC.seq (fun K5 hK5 => ?_)
    refine TC.region ?_
    refine TL.v (Want.plain rfl) rfl rfl (PV.move rfl rfl) ?_
    refine TL.v (Want.plain rfl) rfl rfl (PV.assign rfl rfl) ?_
    refine TL.nil ?_
    refine TE.next hK5 ?_
    clear hK5
    refine TC.ret ?_
    refine TE.weak (Sub.refl _) (fun _ s => sep_keep [0] rfl s) ?_
    refine TE.ret1 rfl rfl ?_
    exact ⟨_, _, _, rfl, rfl, by rw [smallP, pb_some hp1, if_neg h10]; rfl, ht1⟩


theorem rcell_does (rb : Nat) (v : Value) (bs : List UInt8) :
    Does Try.prog 60 #[(.pointer (some ⟨rb, 0, none⟩))] (IsB v bs) [blkA rb [v] 99] (RdPost 99 giveUp CellT.val cellP v bs rb) := by
  refine Does.body (vs := [(.pointer (some ⟨rb, 0, none⟩))]) (n := 21) Try.func60 rfl rfl rfl (fun w0 F hF => ?_)
  refine TC.seq (fun K1 hK1 => ?_)
  refine TC.region ?_
  refine TL.alloc (Want.plain rfl) rfl rfl rfl z34 (fun b2 => ?_)
  change TL _ _ _ _ _ _ _ _ _ [blkA b2 [(.int .i64 0), (.int .i64 0), (.int .i64 0), (.int .i64 0), (.int .i64 0), (.int .i64 0), (.int .i64 0)] 34, blkA rb [v] 99]
  refine TL.nil ?_
  refine TE.next hK1 ?_
  clear hK1
  refine TC.seq (fun K2 hK2 => ?_)
  refine TC.region ?_
  refine TL.alloc (Want.plain rfl) rfl rfl rfl z34 (fun b3 => ?_)
  change TL _ _ _ _ _ _ _ _ _ [blkA b3 [(.int .i64 0), (.int .i64 0), (.int .i64 0), (.int .i64 0), (.int .i64 0), (.int .i64 0), (.int .i64 0)] 34, blkA b2 [(.int .i64 0), (.int .i64 0), (.int .i64 0), (.int .i64 0), (.int .i64 0), (.int .i64 0), (.int .i64 0)] 34, blkA rb [v] 99]
  refine TL.nil ?_
  refine TE.next hK2 ?_
  clear hK2
  refine TC.seq (fun K3 hK3 => ?_)
  refine TC.region ?_
  refine TL.v (Want.plain rfl) rfl rfl (PV.move rfl rfl) ?_
  refine TL.callP (A := [blkA rb [v] 99]) (B := [blkA b3 [(.int .i64 0), (.int .i64 0), (.int .i64 0), (.int .i64 0), (.int .i64 0), (.int .i64 0), (.int .i64 0)] 34, blkA b2 [(.int .i64 0), (.int .i64 0), (.int .i64 0), (.int .i64 0), (.int .i64 0), (.int .i64 0), (.int .i64 0)] 34]) (Want.plain rfl) rfl rfl rfl nm47 rfl (small_does rb v bs (1099511627777)) (fun _ s => sep_selR [2] rfl s) (fun _ d _ => (hF).more d) (fun cP HP hP => ?_) (fun vR HR hR => ?_)
  · skip
    obtain ⟨vP, rfl, rfl, hpP⟩ := hP
    change TE _ _ _ _ _ _ _ [blkA rb [vP] 99, blkA b3 [(.int .i64 0), (.int .i64 0), (.int .i64 0), (.int .i64 0), (.int .i64 0), (.int .i64 0), (.int .i64 0)] 34, blkA b2 [(.int .i64 0), (.int .i64 0), (.int .i64 0), (.int .i64 0), (.int .i64 0), (.int .i64 0), (.int .i64 0)] 34]
    refine TE.passPanic ?_
    clear hK3
    refine TE.weak (Sub.refl _) (fun _ s => sep_keep [0] rfl s) ?_
    refine TE.panicked ?_
    exact ⟨_, rfl, rfl, by simp [cellP, pr, pb_none hpP]⟩
  obtain ⟨a1, r1, v1, rfl, rfl, hp1, ht1⟩ := hR
  change TL _ _ _ _ _ _ _ _ _ [blkA rb [v1] 99, blkA b3 [(.int .i64 0), (.int .i64 0), (.int .i64 0), (.int .i64 0), (.int .i64 0), (.int .i64 0), (.int .i64 0)] 34, blkA b2 [(.int .i64 0), (.int .i64 0), (.int .i64 0), (.int .i64 0), (.int .i64 0), (.int .i64 0), (.int .i64 0)] 34]
  have hf1 := ht1 _ hF
  refine TL.v (Want.plain rfl) rfl rfl (PV.fieldAddr (r := 0) rfl Try.underlying34 rfl sz3 rfl rfl) ?_
  refine TL.store1 (i := 1) (H' := [blkA rb [v1] 99, blkA b3 [(.int .i64 (a1)), (.int .i64 0), (.int .i64 0), (.int .i64 0), (.int .i64 0), (.int .i64 0), (.int .i64 0)] 34, blkA b2 [(.int .i64 0), (.int .i64 0), (.int .i64 0), (.int .i64 0), (.int .i64 0), (.int .i64 0), (.int .i64 0)] 34]) (Want.plain rfl) rfl rfl rfl rfl rfl sz3 rfl rfl (lb rfl) rfl rfl ?_
  refine TL.nil ?_
  refine TE.next hK3 ?_
  clear hK3
  refine TC.seq (fun K4 hK4 => ?_)
  refine TC.region ?_
  refine TL.v (Want.plain rfl) rfl rfl (PV.move rfl rfl) ?_
  refine TL.callP (A := [blkA rb [v1] 99]) (B := [blkA b3 [(.int .i64 (a1)), (.int .i64 0), (.int .i64 0), (.int .i64 0), (.int .i64 0), (.int .i64 0), (.int .i64 0)] 34, blkA b2 [(.int .i64 0), (.int .i64 0), (.int .i64 0), (.int .i64 0), (.int .i64 0), (.int .i64 0), (.int .i64 0)] 34]) (Want.plain rfl) rfl rfl rfl nm47 rfl (small_does rb v1 r1 (1099511627777)) (fun _ s => s) (fun _ d _ => (hf1).more d) (fun cP HP hP => ?_) (fun vR HR hR => ?_)
  · skip
    obtain ⟨vP, rfl, rfl, hpP⟩ := hP
    change TE _ _ _ _ _ _ _ [blkA rb [vP] 99, blkA b3 [(.int .i64 (a1)), (.int .i64 0), (.int .i64 0), (.int .i64 0), (.int .i64 0), (.int .i64 0), (.int .i64 0)] 34, blkA b2 [(.int .i64 0), (.int .i64 0), (.int .i64 0), (.int .i64 0), (.int .i64 0), (.int .i64 0), (.int .i64 0)] 34]
    refine TE.passPanic ?_
    clear hK4
    refine TE.weak (Sub.refl _) (fun _ s => sep_keep [0] rfl s) ?_
    refine TE.panicked ?_
    exact ⟨_, rfl, rfl, by simp [cellP, pr, pb_some hp1, pb_none hpP]⟩
  obtain ⟨a2, r2, v2, rfl, rfl, hp2, ht2⟩ := hR
  change TL _ _ _ _ _ _ _ _ _ [blkA rb [v2] 99, blkA b3 [(.int .i64 (a1)), (.int .i64 0), (.int .i64 0), (.int .i64 0), (.int .i64 0), (.int .i64 0), (.int .i64 0)] 34, blkA b2 [(.int .i64 0), (.int .i64 0), (.int .i64 0), (.int .i64 0), (.int .i64 0), (.int .i64 0), (.int .i64 0)] 34]
  have hf2 := ht2 _ hf1
  refine TL.v (Want.plain rfl) rfl rfl (PV.fieldAddr (r := 1) rfl Try.underlying34 rfl sz3 rfl rfl) ?_
  refine TL.store1 (i := 1) (H' := [blkA rb [v2] 99, blkA b3 [(.int .i64 (a1)), (.int .i64 (a2)), (.int .i64 0), (.int .i64 0), (.int .i64 0), (.int .i64 0), (.int .i64 0)] 34, blkA b2 [(.int .i64 0), (.int .i64 0), (.int .i64 0), (.int .i64 0), (.int .i64 0), (.int .i64 0), (.int .i64 0)] 34]) (Want.plain rfl) rfl rfl rfl rfl rfl sz3 rfl rfl (lb rfl) rfl rfl ?_
  refine TL.nil ?_
  refine TE.next hK4 ?_
  clear hK4
  refine TC.seq (fun K5 hK5 => ?_)
  refine TC.seq (fun K6 hK6 => ?_)
  refine TC.region ?_
  refine TL.v (Want.plain rfl) rfl rfl (PV.move rfl rfl) ?_
  refine TL.nil ?_
  refine TE.next hK6 ?_
  clear hK6
  refine TC.block ?_
  refine TC.unroll 5 ?_
  refine TC.seq (fun K7 hK7 => ?_)
  refine TC.region ?_
  refine TL.v (Want.plain rfl) rfl rfl (PV.lss rfl rfl rfl) ?_
  refine TL.nil ?_
  refine TE.next hK7 ?_
  clear hK7
  refine TC.seq (fun K8 hK8 => ?_)
  refine TC.yes rfl ?_
  refine TC.skip ?_
  refine TE.next hK8 ?_
  clear hK8
  refine TC.seq (fun K9 hK9 => ?_)
  refine TC.block ?_
  refine TC.seq (fun K10 hK10 => ?_)
  refine TC.region ?_
  refine TL.v (Want.plain rfl) rfl rfl (PV.move rfl rfl) ?_
  refine TL.v (Want.plain rfl) rfl rfl (PV.assign rfl rfl) ?_
  refine TL.nil ?_
  refine TE.next hK10 ?_
  clear hK10
  refine TC.region ?_
  refine TL.v (Want.plain rfl) rfl rfl (PV.move rfl rfl) ?_
  refine TL.v (Want.plain rfl) rfl rfl (PV.move rfl rfl) ?_
  refine TL.callP (A := [blkA rb [v2] 99]) (B := [blkA b3 [(.int .i64 (a1)), (.int .i64 (a2)), (.int .i64 0), (.int .i64 0), (.int .i64 0), (.int .i64 0), (.int .i64 0)] 34, blkA b2 [(.int .i64 0), (.int .i64 0), (.int .i64 0), (.int .i64 0), (.int .i64 0), (.int .i64 0), (.int .i64 0)] 34]) (Want.plain rfl) rfl rfl rfl nm47 rfl (small_does rb v2 r2 (1099511627777)) (fun _ s => s) (fun _ d _ => (hf2).more d) (fun cP HP hP => ?_) (fun vR HR hR => ?_)
  · skip
    obtain ⟨vP, rfl, rfl, hpP⟩ := hP
    change TE _ _ _ _ _ _ _ [blkA rb [vP] 99, blkA b3 [(.int .i64 (a1)), (.int .i64 (a2)), (.int .i64 0), (.int .i64 0), (.int .i64 0), (.int .i64 0), (.int .i64 0)] 34, blkA b2 [(.int .i64 0), (.int .i64 0), (.int .i64 0), (.int .i64 0), (.int .i64 0), (.int .i64 0), (.int .i64 0)] 34]
    refine TE.blockPanic ?_
    refine TE.passPanic ?_
    clear hK9
    refine TE.passPanic ?_
    refine TE.blockPanic ?_
    refine TE.passPanic ?_
    clear hK5
    refine TE.weak (Sub.refl _) (fun _ s => sep_keep [0] rfl s) ?_
    refine TE.panicked ?_
    exact ⟨_, rfl, rfl, by simp [cellP, pr, pb_some hp1, pb_some hp2, pb_none hpP]⟩
  obtain ⟨a3, r3, v3, rfl, rfl, hp3, ht3⟩ := hR
  change TL _ _ _ _ _ _ _ _ _ [blkA rb [v3] 99, blkA b3 [(.int .i64 (a1)), (.int .i64 (a2)), (.int .i64 0), (.int .i64 0), (.int .i64 0), (.int .i64 0), (.int .i64 0)] 34, blkA b2 [(.int .i64 0), (.int .i64 0), (.int .i64 0), (.int .i64 0), (.int .i64 0), (.int .i64 0), (.int .i64 0)] 34]
  have hf3 := ht3 _ hf2
  refine TL.v (Want.plain rfl) rfl rfl (PV.fieldAddr (r := 2) rfl Try.underlying34 rfl sz23 rfl rfl) ?_
  refine TL.v (Want.plain rfl) rfl rfl (PV.indexArr (r := 2) rfl Try.underlying23 sz3 rfl rfl (lz rfl) (lz rfl) rfl) ?_
  refine TL.store1 (i := 1) (H' := [blkA rb [v3] 99, blkA b3 [(.int .i64 (a1)), (.int .i64 (a2)), (.int .i64 (a3)), (.int .i64 0), (.int .i64 0), (.int .i64 0), (.int .i64 0)] 34, blkA b2 [(.int .i64 0), (.int .i64 0), (.int .i64 0), (.int .i64 0), (.int .i64 0), (.int .i64 0), (.int .i64 0)] 34]) (Want.plain rfl) rfl rfl rfl rfl rfl sz3 rfl rfl (lb rfl) rfl rfl ?_
  refine TL.nil ?_
  refine TE.blockEnd ?_
  refine TE.next hK9 ?_
  clear hK9
  refine TC.region ?_
  refine TL.v (Want.plain rfl) rfl rfl (PV.add (r := 1) rfl rfl rfl (by decide)) ?_
  refine TL.v (Want.plain rfl) rfl rfl (PV.move rfl rfl) ?_
  refine TL.nil ?_
  refine TE.again ?_
  refine TC.seq (fun K11 hK11 => ?_)
  refine TC.region ?_
  refine TL.v (Want.plain rfl) rfl rfl (PV.lss rfl rfl rfl) ?_
  refine TL.nil ?_
  refine TE.next hK11 ?_
  clear hK11
  refine TC.seq (fun K12 hK12 => ?_)
  refine TC.yes rfl ?_
  refine TC.skip ?_
  refine TE.next hK12 ?_
  clear hK12
  refine TC.seq (fun K13 hK13 => ?_)
  refine TC.block ?_
  refine TC.seq (fun K14 hK14 => ?_)
  refine TC.region ?_
  refine TL.v (Want.plain rfl) rfl rfl (PV.move rfl rfl) ?_
  refine TL.v (Want.plain rfl) rfl rfl (PV.assign rfl rfl) ?_
  refine TL.nil ?_
  refine TE.next hK14 ?_
  clear hK14
  refine TC.region ?_
  refine TL.v (Want.plain rfl) rfl rfl (PV.move rfl rfl) ?_
  refine TL.v (Want.plain rfl) rfl rfl (PV.move rfl rfl) ?_
  refine TL.callP (A := [blkA rb [v3] 99]) (B := [blkA b3 [(.int .i64 (a1)), (.int .i64 (a2)), (.int .i64 (a3)), (.int .i64 0), (.int .i64 0), (.int .i64 0), (.int .i64 0)] 34, blkA b2 [(.int .i64 0), (.int .i64 0), (.int .i64 0), (.int .i64 0), (.int .i64 0), (.int .i64 0), (.int .i64 0)] 34]) (Want.plain rfl) rfl rfl rfl nm47 rfl (small_does rb v3 r3 (1099511627777)) (fun _ s => s) (fun _ d _ => (hf3).more d) (fun cP HP hP => ?_) (fun vR HR hR => ?_)
  · skip
    obtain ⟨vP, rfl, rfl, hpP⟩ := hP
    change TE _ _ _ _ _ _ _ [blkA rb [vP] 99, blkA b3 [(.int .i64 (a1)), (.int .i64 (a2)), (.int .i64 (a3)), (.int .i64 0), (.int .i64 0), (.int .i64 0), (.int .i64 0)] 34, blkA b2 [(.int .i64 0), (.int .i64 0), (.int .i64 0), (.int .i64 0), (.int .i64 0), (.int .i64 0), (.int .i64 0)] 34]
    refine TE.blockPanic ?_
    refine TE.passPanic ?_
    clear hK13
    refine TE.passPanic ?_
    refine TE.blockPanic ?_
    refine TE.passPanic ?_
    clear hK5
    refine TE.weak (Sub.refl _) (fun _ s => sep_keep [0] rfl s) ?_
    refine TE.panicked ?_
    exact ⟨_, rfl, rfl, by simp [cellP, pr, pb_some hp1, pb_some hp2, pb_some hp3, pb_none hpP]⟩
  obtain ⟨a4, r4, v4, rfl, rfl, hp4, ht4⟩ := hR
  change TL _ _ _ _ _ _ _ _ _ [blkA rb [v4] 99, blkA b3 [(.int .i64 (a1)), (.int .i64 (a2)), (.int .i64 (a3)), (.int .i64 0), (.int .i64 0), (.int .i64 0), (.int .i64 0)] 34, blkA b2 [(.int .i64 0), (.int .i64 0), (.int .i64 0), (.int .i64 0), (.int .i64 0), (.int .i64 0), (.int .i64 0)] 34]
  have hf4 := ht4 _ hf3
  refine TL.v (Want.plain rfl) rfl rfl (PV.fieldAddr (r := 2) rfl Try.underlying34 rfl sz23 rfl rfl) ?_
  refine TL.v (Want.plain rfl) rfl rfl (PV.indexArr (r := 3) rfl Try.underlying23 sz3 rfl rfl (lz rfl) (lz rfl) rfl) ?_
  refine TL.store1 (i := 1) (H' := [blkA rb [v4] 99, blkA b3 [(.int .i64 (a1)), (.int .i64 (a2)), (.int .i64 (a3)), (.int .i64 (a4)), (.int .i64 0), (.int .i64 0), (.int .i64 0)] 34, blkA b2 [(.int .i64 0), (.int .i64 0), (.int .i64 0), (.int .i64 0), (.int .i64 0), (.int .i64 0), (.int .i64 0)] 34]) (Want.plain rfl) rfl rfl rfl rfl rfl sz3 rfl rfl (lb rfl) rfl rfl ?_
  refine TL.nil ?_
  refine TE.blockEnd ?_
  refine TE.next hK13 ?_
  clear hK13
  refine TC.region ?_
  refine TL.v (Want.plain rfl) rfl rfl (PV.add (r := 2) rfl rfl rfl (by decide)) ?_
  refine TL.v (Want.plain rfl) rfl rfl (PV.move rfl rfl) ?_
  refine TL.nil ?_
  refine TE.again ?_
  refine TC.seq (fun K15 hK15 => ?_)
  refine TC.region ?_
  refine TL.v (Want.plain rfl) rfl rfl (PV.lss rfl rfl rfl) ?_
  refine TL.nil ?_
  refine TE.next hK15 ?_
  clear hK15
  refine TC.seq (fun K16 hK16 => ?_)
  refine TC.yes rfl ?_
  refine TC.skip ?_
  refine TE.next hK16 ?_
  clear hK16
  refine TC.seq (fun K17 hK17 => ?_)
  refine TC.block ?_
  refine TC.seq (fun K18 hK18 => ?_)
  refine TC.region ?_
  refine TL.v (Want.plain rfl) rfl rfl (PV.move rfl rfl) ?_
  refine TL.v (Want.plain rfl) rfl rfl (PV.assign rfl rfl) ?_
  refine TL.nil ?_
  refine TE.next hK18 ?_
  clear hK18
  refine TC.region ?_
  refine TL.v (Want.plain rfl) rfl rfl (PV.move rfl rfl) ?_
  refine TL.v (Want.plain rfl) rfl rfl (PV.move rfl rfl) ?_
  refine TL.callP (A := [blkA rb [v4] 99]) (B := [blkA b3 [(.int .i64 (a1)), (.int .i64 (a2)), (.int .i64 (a3)), (.int .i64 (a4)), (.int .i64 0), (.int .i64 0), (.int .i64 0)] 34, blkA b2 [(.int .i64 0), (.int .i64 0), (.int .i64 0), (.int .i64 0), (.int .i64 0), (.int .i64 0), (.int .i64 0)] 34]) (Want.plain rfl) rfl rfl rfl nm47 rfl (small_does rb v4 r4 (1099511627777)) (fun _ s => s) (fun _ d _ => (hf4).more d) (fun cP HP hP => ?_) (fun vR HR hR => ?_)
  · skip
    obtain ⟨vP, rfl, rfl, hpP⟩ := hP
    change TE _ _ _ _ _ _ _ [blkA rb [vP] 99, blkA b3 [(.int .i64 (a1)), (.int .i64 (a2)), (.int .i64 (a3)), (.int .i64 (a4)), (.int .i64 0), (.int .i64 0), (.int .i64 0)] 34, blkA b2 [(.int .i64 0), (.int .i64 0), (.int .i64 0), (.int .i64 0), (.int .i64 0), (.int .i64 0), (.int .i64 0)] 34]
    refine TE.blockPanic ?_
    refine TE.passPanic ?_
    clear hK17
    refine TE.passPanic ?_
    refine TE.blockPanic ?_
    refine TE.passPanic ?_
    clear hK5
    refine TE.weak (Sub.refl _) (fun _ s => sep_keep [0] rfl s) ?_
    refine TE.panicked ?_
    exact ⟨_, rfl, rfl, by simp [cellP, pr, pb_some hp1, pb_some hp2, pb_some hp3, pb_some hp4, pb_none hpP]⟩
  obtain ⟨a5, r5, v5, rfl, rfl, hp5, ht5⟩ := hR
  change TL _ _ _ _ _ _ _ _ _ [blkA rb [v5] 99, blkA b3 [(.int .i64 (a1)), (.int .i64 (a2)), (.int .i64 (a3)), (.int .i64 (a4)), (.int .i64 0), (.int .i64 0), (.int .i64 0)] 34, blkA b2 [(.int .i64 0), (.int .i64 0), (.int .i64 0), (.int .i64 0), (.int .i64 0), (.int .i64 0), (.int .i64 0)] 34]
  have hf5 := ht5 _ hf4
  refine TL.v (Want.plain rfl) rfl rfl (PV.fieldAddr (r := 2) rfl Try.underlying34 rfl sz23 rfl rfl) ?_
  refine TL.v (Want.plain rfl) rfl rfl (PV.indexArr (r := 4) rfl Try.underlying23 sz3 rfl rfl (lz rfl) (lz rfl) rfl) ?_
  refine TL.store1 (i := 1) (H' := [blkA rb [v5] 99, blkA b3 [(.int .i64 (a1)), (.int .i64 (a2)), (.int .i64 (a3)), (.int .i64 (a4)), (.int .i64 (a5)), (.int .i64 0), (.int .i64 0)] 34, blkA b2 [(.int .i64 0), (.int .i64 0), (.int .i64 0), (.int .i64 0), (.int .i64 0), (.int .i64 0), (.int .i64 0)] 34]) (Want.plain rfl) rfl rfl rfl rfl rfl sz3 rfl rfl (lb rfl) rfl rfl ?_
  refine TL.nil ?_
  refine TE.blockEnd ?_
  refine TE.next hK17 ?_
  clear hK17
  refine TC.region ?_
  refine TL.v (Want.plain rfl) rfl rfl (PV.add (r := 3) rfl rfl rfl (by decide)) ?_
  refine TL.v (Want.plain rfl) rfl rfl (PV.move rfl rfl) ?_
  refine TL.nil ?_
  refine TE.again ?_
  refine TC.seq (fun K19 hK19 => ?_)
  refine TC.region ?_
  refine TL.v (Want.plain rfl) rfl rfl (PV.lss rfl rfl rfl) ?_
  refine TL.nil ?_
  refine TE.next hK19 ?_
  clear hK19
  refine TC.seq (fun K20 hK20 => ?_)
  refine TC.yes rfl ?_
  refine TC.skip ?_
  refine TE.next hK20 ?_
  clear hK20
  refine TC.seq (fun K21 hK21 => ?_)
  refine TC.block ?_
  refine TC.seq (fun K22 hK22 => ?_)
  refine TC.region ?_
  refine TL.v (Want.plain rfl) rfl rfl (PV.move rfl rfl) ?_
  refine TL.v (Want.plain rfl) rfl rfl (PV.assign rfl rfl) ?_
  refine TL.nil ?_
  refine TE.next hK22 ?_
  clear hK22
  refine TC.region ?_
  refine TL.v (Want.plain rfl) rfl rfl (PV.move rfl rfl) ?_
  refine TL.v (Want.plain rfl) rfl rfl (PV.move rfl rfl) ?_
  refine TL.callP (A := [blkA rb [v5] 99]) (B := [blkA b3 [(.int .i64 (a1)), (.int .i64 (a2)), (.int .i64 (a3)), (.int .i64 (a4)), (.int .i64 (a5)), (.int .i64 0), (.int .i64 0)] 34, blkA b2 [(.int .i64 0), (.int .i64 0), (.int .i64 0), (.int .i64 0), (.int .i64 0), (.int .i64 0), (.int .i64 0)] 34]) (Want.plain rfl) rfl rfl rfl nm47 rfl (small_does rb v5 r5 (1099511627777)) (fun _ s => s) (fun _ d _ => (hf5).more d) (fun cP HP hP => ?_) (fun vR HR hR => ?_)
  · skip
    obtain ⟨vP, rfl, rfl, hpP⟩ := hP
    change TE _ _ _ _ _ _ _ [blkA rb [vP] 99, blkA b3 [(.int .i64 (a1)), (.int .i64 (a2)), (.int .i64 (a3)), (.int .i64 (a4)), (.int .i64 (a5)), (.int .i64 0), (.int .i64 0)] 34, blkA b2 [(.int .i64 0), (.int .i64 0), (.int .i64 0), (.int .i64 0), (.int .i64 0), (.int .i64 0), (.int .i64 0)] 34]
    refine TE.blockPanic ?_
    refine TE.passPanic ?_
    clear hK21
    refine TE.passPanic ?_
    refine TE.blockPanic ?_
    refine TE.passPanic ?_
    clear hK5
    refine TE.weak (Sub.refl _) (fun _ s => sep_keep [0] rfl s) ?_
    refine TE.panicked ?_
    exact ⟨_, rfl, rfl, by simp [cellP, pr, pb_some hp1, pb_some hp2, pb_some hp3, pb_some hp4, pb_some hp5, pb_none hpP]⟩
  obtain ⟨a6, r6, v6, rfl, rfl, hp6, ht6⟩ := hR
  change TL _ _ _ _ _ _ _ _ _ [blkA rb [v6] 99, blkA b3 [(.int .i64 (a1)), (.int .i64 (a2)), (.int .i64 (a3)), (.int .i64 (a4)), (.int .i64 (a5)), (.int .i64 0), (.int .i64 0)] 34, blkA b2 [(.int .i64 0), (.int .i64 0), (.int .i64 0), (.int .i64 0), (.int .i64 0), (.int .i64 0), (.int .i64 0)] 34]
  have hf6 := ht6 _ hf5
  refine TL.v (Want.plain rfl) rfl rfl (PV.fieldAddr (r := 2) rfl Try.underlying34 rfl sz23 rfl rfl) ?_
  refine TL.v (Want.plain rfl) rfl rfl (PV.indexArr (r := 5) rfl Try.underlying23 sz3 rfl rfl (lz rfl) (lz rfl) rfl) ?_
  refine TL.store1 (i := 1) (H' := [blkA rb [v6] 99, blkA b3 [(.int .i64 (a1)), (.int .i64 (a2)), (.int .i64 (a3)), (.int .i64 (a4)), (.int .i64 (a5)), (.int .i64 (a6)), (.int .i64 0)] 34, blkA b2 [(.int .i64 0), (.int .i64 0), (.int .i64 0), (.int .i64 0), (.int .i64 0), (.int .i64 0), (.int .i64 0)] 34]) (Want.plain rfl) rfl rfl rfl rfl rfl sz3 rfl rfl (lb rfl) rfl rfl ?_
  refine TL.nil ?_
  refine TE.blockEnd ?_
  refine TE.next hK21 ?_
  clear hK21
  refine TC.region ?_
  refine TL.v (Want.plain rfl) rfl rfl (PV.add (r := 4) rfl rfl rfl (by decide)) ?_
  refine TL.v (Want.plain rfl) rfl rfl (PV.move rfl rfl) ?_
  refine TL.nil ?_
  refine TE.again ?_
  refine TC.seq (fun K23 hK23 => ?_)
  refine TC.region ?_
  refine TL.v (Want.plain rfl) rfl rfl (PV.lss rfl rfl rfl) ?_
  refine TL.nil ?_
  refine TE.next hK23 ?_
  clear hK23
  refine TC.seq (fun K24 hK24 => ?_)
  refine TC.yes rfl ?_
  refine TC.skip ?_
  refine TE.next hK24 ?_
  clear hK24
  refine TC.seq (fun K25 hK25 => ?_)
  refine TC.block ?_
  refine TC.seq (fun K26 hK26 => ?_)
  refine TC.region ?_
  refine TL.v (Want.plain rfl) rfl rfl (PV.move rfl rfl) ?_
  refine TL.v (Want.plain rfl) rfl rfl (PV.assign rfl rfl) ?_
  refine TL.nil ?_
  refine TE.next hK26 ?_
  clear hK26
  refine TC.region ?_
  refine TL.v (Want.plain rfl) rfl rfl (PV.move rfl rfl) ?_
  refine TL.v (Want.plain rfl) rfl rfl (PV.move rfl rfl) ?_
  refine TL.callP (A := [blkA rb [v6] 99]) (B := [blkA b3 [(.int .i64 (a1)), (.int .i64 (a2)), (.int .i64 (a3)), (.int .i64 (a4)), (.int .i64 (a5)), (.int .i64 (a6)), (.int .i64 0)] 34, blkA b2 [(.int .i64 0), (.int .i64 0), (.int .i64 0), (.int .i64 0), (.int .i64 0), (.int .i64 0), (.int .i64 0)] 34]) (Want.plain rfl) rfl rfl rfl nm47 rfl (small_does rb v6 r6 (1099511627777)) (fun _ s => s) (fun _ d _ => (hf6).more d) (fun cP HP hP => ?_) (fun vR HR hR => ?_)
  · skip
    obtain ⟨vP, rfl, rfl, hpP⟩ := hP
    change TE _ _ _ _ _ _ _ [blkA rb [vP] 99, blkA b3 [(.int .i64 (a1)), (.int .i64 (a2)), (.int .i64 (a3)), (.int .i64 (a4)), (.int .i64 (a5)), (.int .i64 (a6)), (.int .i64 0)] 34, blkA b2 [(.int .i64 0), (.int .i64 0), (.int .i64 0), (.int .i64 0), (.int .i64 0), (.int .i64 0), (.int .i64 0)] 34]
    refine TE.blockPanic ?_
    refine TE.passPanic ?_
    clear hK25
    refine TE.passPanic ?_
    refine TE.blockPanic ?_
    refine TE.passPanic ?_
    clear hK5
    refine TE.weak (Sub.refl _) (fun _ s => sep_keep [0] rfl s) ?_
    refine TE.panicked ?_
    exact ⟨_, rfl, rfl, by simp [cellP, pr, pb_some hp1, pb_some hp2, pb_some hp3, pb_some hp4, pb_some hp5, pb_some hp6, pb_none hpP]⟩
  obtain ⟨a7, r7, v7, rfl, rfl, hp7, ht7⟩ := hR
  change TL _ _ _ _ _ _ _ _ _ [blkA rb [v7] 99, blkA b3 [(.int .i64 (a1)), (.int .i64 (a2)), (.int .i64 (a3)), (.int .i64 (a4)), (.int .i64 (a5)), (.int .i64 (a6)), (.int .i64 0)] 34, blkA b2 [(.int .i64 0), (.int .i64 0), (.int .i64 0), (.int .i64 0), (.int .i64 0), (.int .i64 0), (.int .i64 0)] 34]
  have hf7 := ht7 _ hf6
  refine TL.v (Want.plain rfl) rfl rfl (PV.fieldAddr (r := 2) rfl Try.underlying34 rfl sz23 rfl rfl) ?_
  refine TL.v (Want.plain rfl) rfl rfl (PV.indexArr (r := 6) rfl Try.underlying23 sz3 rfl rfl (lz rfl) (lz rfl) rfl) ?_
  refine TL.store1 (i := 1) (H' := [blkA rb [v7] 99, blkA b3 [(.int .i64 (a1)), (.int .i64 (a2)), (.int .i64 (a3)), (.int .i64 (a4)), (.int .i64 (a5)), (.int .i64 (a6)), (.int .i64 (a7))] 34, blkA b2 [(.int .i64 0), (.int .i64 0), (.int .i64 0), (.int .i64 0), (.int .i64 0), (.int .i64 0), (.int .i64 0)] 34]) (Want.plain rfl) rfl rfl rfl rfl rfl sz3 rfl rfl (lb rfl) rfl rfl ?_
  refine TL.nil ?_
  refine TE.blockEnd ?_
  refine TE.next hK25 ?_
  clear hK25
  refine TC.region ?_
  refine TL.v (Want.plain rfl) rfl rfl (PV.add (r := 5) rfl rfl rfl (by decide)) ?_
  refine TL.v (Want.plain rfl) rfl rfl (PV.move rfl rfl) ?_
  refine TL.nil ?_
  refine TE.again ?_
  refine TC.seq (fun K27 hK27 => ?_)
  refine TC.region ?_
  refine TL.v (Want.plain rfl) rfl rfl (PV.lss rfl rfl rfl) ?_
  refine TL.nil ?_
  refine TE.next hK27 ?_
  clear hK27
  refine TC.seq (fun K28 hK28 => ?_)
  refine TC.no rfl ?_
  refine TC.exit ?_
  refine TE.pass ?_
  clear hK28
  refine TE.pass ?_
  refine TE.hit ?_
  refine TE.next hK5 ?_
  clear hK5
  refine TC.seq (fun K29 hK29 => ?_)
  refine TC.region ?_
  refine TL.v (Want.plain rfl) rfl rfl (PV.loadN (vs := [(.int .i64 (a1)), (.int .i64 (a2)), (.int .i64 (a3)), (.int .i64 (a4)), (.int .i64 (a5)), (.int .i64 (a6)), (.int .i64 (a7))]) rfl Try.underlying34 rfl sz34 rfl (Rd.own 1 rfl rfl) rfl rfl) ?_
  refine TL.store (vs := [(.int .i64 (a1)), (.int .i64 (a2)), (.int .i64 (a3)), (.int .i64 (a4)), (.int .i64 (a5)), (.int .i64 (a6)), (.int .i64 (a7))]) (i := 2) (H' := [blkA rb [v7] 99, blkA b3 [(.int .i64 (a1)), (.int .i64 (a2)), (.int .i64 (a3)), (.int .i64 (a4)), (.int .i64 (a5)), (.int .i64 (a6)), (.int .i64 (a7))] 34, blkA b2 [(.int .i64 (a1)), (.int .i64 (a2)), (.int .i64 (a3)), (.int .i64 (a4)), (.int .i64 (a5)), (.int .i64 (a6)), (.int .i64 (a7))] 34]) (Want.plain rfl) rfl rfl rfl rfl rfl sz34 (by simp [Value.oneCell']) rfl rfl (lbe rfl) rfl rfl ?_
  refine TL.nil ?_
  refine TE.next hK29 ?_
  clear hK29
  refine TC.ret ?_
  refine TE.retC (H' := [blkA rb [v7] 99]) rfl rfl Try.underlying34 rfl sz34 (Rd.own 2 rfl rfl) rfl (fun _ s => sep_keep [0] rfl s) ?_
  exact ⟨⟨a1, a2, #v[a3, a4, a5, a6, a7]⟩, _, _, rfl, rfl, by simp [cellP, pr, pb_some hp1, pb_some hp2, pb_some hp3, pb_some hp4, pb_some hp5, pb_some hp6, pb_some hp7], (ht1.trans (ht2.trans (ht3.trans (ht4.trans (ht5.trans (ht6.trans ht7))))))⟩


theorem rview_does (rb : Nat) (v : Value) (bs : List UInt8) :
    Does Try.prog 52 #[(.pointer (some ⟨rb, 0, none⟩))] (IsB v bs) [blkA rb [v] 99] (RdPost 99 giveUp ViewT.val viewP v bs rb) := by
  refine Does.body (vs := [(.pointer (some ⟨rb, 0, none⟩))]) (n := 21) Try.func52 rfl rfl rfl (fun w0 F hF => ?_)
  refine TC.seq (fun K1 hK1 => ?_)
  refine TC.region ?_
  refine TL.alloc (Want.plain rfl) rfl rfl rfl z25 (fun b2 => ?_)
  change TL _ _ _ _ _ _ _ _ _ [blkA b2 [(.int .i64 0), (.int .i64 0), (.int .i64 0), (.int .i64 0), (.int .i64 0), (.int .i64 0), (.int .i64 0)] 25, blkA rb [v] 99]
  refine TL.nil ?_
  refine TE.next hK1 ?_
  clear hK1
  refine TC.seq (fun K2 hK2 => ?_)
  refine TC.region ?_
  refine TL.alloc (Want.plain rfl) rfl rfl rfl z25 (fun b3 => ?_)
  change TL _ _ _ _ _ _ _ _ _ [blkA b3 [(.int .i64 0), (.int .i64 0), (.int .i64 0), (.int .i64 0), (.int .i64 0), (.int .i64 0), (.int .i64 0)] 25, blkA b2 [(.int .i64 0), (.int .i64 0), (.int .i64 0), (.int .i64 0), (.int .i64 0), (.int .i64 0), (.int .i64 0)] 25, blkA rb [v] 99]
  refine TL.nil ?_
  refine TE.next hK2 ?_
  clear hK2
  refine TC.seq (fun K3 hK3 => ?_)
  refine TC.region ?_
  refine TL.v (Want.plain rfl) rfl rfl (PV.move rfl rfl) ?_
  refine TL.callP (A := [blkA rb [v] 99]) (B := [blkA b3 [(.int .i64 0), (.int .i64 0), (.int .i64 0), (.int .i64 0), (.int .i64 0), (.int .i64 0), (.int .i64 0)] 25, blkA b2 [(.int .i64 0), (.int .i64 0), (.int .i64 0), (.int .i64 0), (.int .i64 0), (.int .i64 0), (.int .i64 0)] 25]) (Want.plain rfl) rfl rfl rfl nm49 rfl (num_does rb v bs ) (fun _ s => sep_selR [2] rfl s) (fun _ d _ => (hF).more d) (fun cP HP hP => ?_) (fun vR HR hR => ?_)
  · skip
    obtain ⟨vP, rfl, rfl, hpP⟩ := hP
    change TE _ _ _ _ _ _ _ [blkA rb [vP] 99, blkA b3 [(.int .i64 0), (.int .i64 0), (.int .i64 0), (.int .i64 0), (.int .i64 0), (.int .i64 0), (.int .i64 0)] 25, blkA b2 [(.int .i64 0), (.int .i64 0), (.int .i64 0), (.int .i64 0), (.int .i64 0), (.int .i64 0), (.int .i64 0)] 25]
    refine TE.passPanic ?_
    clear hK3
    refine TE.weak (Sub.refl _) (fun _ s => sep_keep [0] rfl s) ?_
    refine TE.panicked ?_
    exact ⟨_, rfl, rfl, by simp [viewP, pr, pb_none hpP]⟩
  obtain ⟨a1, r1, v1, rfl, rfl, hp1, ht1⟩ := hR
  change TL _ _ _ _ _ _ _ _ _ [blkA rb [v1] 99, blkA b3 [(.int .i64 0), (.int .i64 0), (.int .i64 0), (.int .i64 0), (.int .i64 0), (.int .i64 0), (.int .i64 0)] 25, blkA b2 [(.int .i64 0), (.int .i64 0), (.int .i64 0), (.int .i64 0), (.int .i64 0), (.int .i64 0), (.int .i64 0)] 25]
  have hf1 := ht1 _ hF
  refine TL.v (Want.plain rfl) rfl rfl (PV.fieldAddr (r := 0) rfl Try.underlying25 rfl sz3 rfl rfl) ?_
  refine TL.store1 (i := 1) (H' := [blkA rb [v1] 99, blkA b3 [(.int .i64 (a1)), (.int .i64 0), (.int .i64 0), (.int .i64 0), (.int .i64 0), (.int .i64 0), (.int .i64 0)] 25, blkA b2 [(.int .i64 0), (.int .i64 0), (.int .i64 0), (.int .i64 0), (.int .i64 0), (.int .i64 0), (.int .i64 0)] 25]) (Want.plain rfl) rfl rfl rfl rfl rfl sz3 rfl rfl (lb rfl) rfl rfl ?_
  refine TL.nil ?_
  refine TE.next hK3 ?_
  clear hK3
  refine TC.seq (fun K4 hK4 => ?_)
  refine TC.region ?_
  refine TL.v (Want.plain rfl) rfl rfl (PV.move rfl rfl) ?_
  refine TL.callP (A := [blkA rb [v1] 99]) (B := [blkA b3 [(.int .i64 (a1)), (.int .i64 0), (.int .i64 0), (.int .i64 0), (.int .i64 0), (.int .i64 0), (.int .i64 0)] 25, blkA b2 [(.int .i64 0), (.int .i64 0), (.int .i64 0), (.int .i64 0), (.int .i64 0), (.int .i64 0), (.int .i64 0)] 25]) (Want.plain rfl) rfl rfl rfl nm47 rfl (small_does rb v1 r1 (32)) (fun _ s => s) (fun _ d _ => (hf1).more d) (fun cP HP hP => ?_) (fun vR HR hR => ?_)
  · skip
    obtain ⟨vP, rfl, rfl, hpP⟩ := hP
    change TE _ _ _ _ _ _ _ [blkA rb [vP] 99, blkA b3 [(.int .i64 (a1)), (.int .i64 0), (.int .i64 0), (.int .i64 0), (.int .i64 0), (.int .i64 0), (.int .i64 0)] 25, blkA b2 [(.int .i64 0), (.int .i64 0), (.int .i64 0), (.int .i64 0), (.int .i64 0), (.int .i64 0), (.int .i64 0)] 25]
    refine TE.passPanic ?_
    clear hK4
    refine TE.weak (Sub.refl _) (fun _ s => sep_keep [0] rfl s) ?_
    refine TE.panicked ?_
    exact ⟨_, rfl, rfl, by simp [viewP, pr, pb_some hp1, pb_none hpP]⟩
  obtain ⟨a2, r2, v2, rfl, rfl, hp2, ht2⟩ := hR
  change TL _ _ _ _ _ _ _ _ _ [blkA rb [v2] 99, blkA b3 [(.int .i64 (a1)), (.int .i64 0), (.int .i64 0), (.int .i64 0), (.int .i64 0), (.int .i64 0), (.int .i64 0)] 25, blkA b2 [(.int .i64 0), (.int .i64 0), (.int .i64 0), (.int .i64 0), (.int .i64 0), (.int .i64 0), (.int .i64 0)] 25]
  have hf2 := ht2 _ hf1
  refine TL.v (Want.plain rfl) rfl rfl (PV.fieldAddr (r := 1) rfl Try.underlying25 rfl sz3 rfl rfl) ?_
  refine TL.store1 (i := 1) (H' := [blkA rb [v2] 99, blkA b3 [(.int .i64 (a1)), (.int .i64 (a2)), (.int .i64 0), (.int .i64 0), (.int .i64 0), (.int .i64 0), (.int .i64 0)] 25, blkA b2 [(.int .i64 0), (.int .i64 0), (.int .i64 0), (.int .i64 0), (.int .i64 0), (.int .i64 0), (.int .i64 0)] 25]) (Want.plain rfl) rfl rfl rfl rfl rfl sz3 rfl rfl (lb rfl) rfl rfl ?_
  refine TL.nil ?_
  refine TE.next hK4 ?_
  clear hK4
  refine TC.seq (fun K5 hK5 => ?_)
  refine TC.seq (fun K6 hK6 => ?_)
  refine TC.region ?_
  refine TL.v (Want.plain rfl) rfl rfl (PV.move rfl rfl) ?_
  refine TL.nil ?_
  refine TE.next hK6 ?_
  clear hK6
  refine TC.block ?_
  refine TC.unroll 5 ?_
  refine TC.seq (fun K7 hK7 => ?_)
  refine TC.region ?_
  refine TL.v (Want.plain rfl) rfl rfl (PV.lss rfl rfl rfl) ?_
  refine TL.nil ?_
  refine TE.next hK7 ?_
  clear hK7
  refine TC.seq (fun K8 hK8 => ?_)
  refine TC.yes rfl ?_
  refine TC.skip ?_
  refine TE.next hK8 ?_
  clear hK8
  refine TC.seq (fun K9 hK9 => ?_)
  refine TC.block ?_
  refine TC.seq (fun K10 hK10 => ?_)
  refine TC.region ?_
  refine TL.v (Want.plain rfl) rfl rfl (PV.move rfl rfl) ?_
  refine TL.v (Want.plain rfl) rfl rfl (PV.assign rfl rfl) ?_
  refine TL.nil ?_
  refine TE.next hK10 ?_
  clear hK10
  refine TC.region ?_
  refine TL.v (Want.plain rfl) rfl rfl (PV.move rfl rfl) ?_
  refine TL.v (Want.plain rfl) rfl rfl (PV.move rfl rfl) ?_
  refine TL.callP (A := [blkA rb [v2] 99]) (B := [blkA b3 [(.int .i64 (a1)), (.int .i64 (a2)), (.int .i64 0), (.int .i64 0), (.int .i64 0), (.int .i64 0), (.int .i64 0)] 25, blkA b2 [(.int .i64 0), (.int .i64 0), (.int .i64 0), (.int .i64 0), (.int .i64 0), (.int .i64 0), (.int .i64 0)] 25]) (Want.plain rfl) rfl rfl rfl nm47 rfl (small_does rb v2 r2 (6)) (fun _ s => s) (fun _ d _ => (hf2).more d) (fun cP HP hP => ?_) (fun vR HR hR => ?_)
  · skip
    obtain ⟨vP, rfl, rfl, hpP⟩ := hP
    change TE _ _ _ _ _ _ _ [blkA rb [vP] 99, blkA b3 [(.int .i64 (a1)), (.int .i64 (a2)), (.int .i64 0), (.int .i64 0), (.int .i64 0), (.int .i64 0), (.int .i64 0)] 25, blkA b2 [(.int .i64 0), (.int .i64 0), (.int .i64 0), (.int .i64 0), (.int .i64 0), (.int .i64 0), (.int .i64 0)] 25]
    refine TE.blockPanic ?_
    refine TE.passPanic ?_
    clear hK9
    refine TE.passPanic ?_
    refine TE.blockPanic ?_
    refine TE.passPanic ?_
    clear hK5
    refine TE.weak (Sub.refl _) (fun _ s => sep_keep [0] rfl s) ?_
    refine TE.panicked ?_
    exact ⟨_, rfl, rfl, by simp [viewP, pr, pb_some hp1, pb_some hp2, pb_none hpP]⟩
  obtain ⟨a3, r3, v3, rfl, rfl, hp3, ht3⟩ := hR
  change TL _ _ _ _ _ _ _ _ _ [blkA rb [v3] 99, blkA b3 [(.int .i64 (a1)), (.int .i64 (a2)), (.int .i64 0), (.int .i64 0), (.int .i64 0), (.int .i64 0), (.int .i64 0)] 25, blkA b2 [(.int .i64 0), (.int .i64 0), (.int .i64 0), (.int .i64 0), (.int .i64 0), (.int .i64 0), (.int .i64 0)] 25]
  have hf3 := ht3 _ hf2
  refine TL.v (Want.plain rfl) rfl rfl (PV.fieldAddr (r := 2) rfl Try.underlying25 rfl sz23 rfl rfl) ?_
  refine TL.v (Want.plain rfl) rfl rfl (PV.indexArr (r := 2) rfl Try.underlying23 sz3 rfl rfl (lz rfl) (lz rfl) rfl) ?_
  refine TL.store1 (i := 1) (H' := [blkA rb [v3] 99, blkA b3 [(.int .i64 (a1)), (.int .i64 (a2)), (.int .i64 (a3)), (.int .i64 0), (.int .i64 0), (.int .i64 0), (.int .i64 0)] 25, blkA b2 [(.int .i64 0), (.int .i64 0), (.int .i64 0), (.int .i64 0), (.int .i64 0), (.int .i64 0), (.int .i64 0)] 25]) (Want.plain rfl) rfl rfl rfl rfl rfl sz3 rfl rfl (lb rfl) rfl rfl ?_
  refine TL.nil ?_
  refine TE.blockEnd ?_
  refine TE.next hK9 ?_
  clear hK9
  refine TC.region ?_
  refine TL.v (Want.plain rfl) rfl rfl (PV.add (r := 1) rfl rfl rfl (by decide)) ?_
  refine TL.v (Want.plain rfl) rfl rfl (PV.move rfl rfl) ?_
  refine TL.nil ?_
  refine TE.again ?_
  refine TC.seq (fun K11 hK11 => ?_)
  refine TC.region ?_
  refine TL.v (Want.plain rfl) rfl rfl (PV.lss rfl rfl rfl) ?_
  refine TL.nil ?_
  refine TE.next hK11 ?_
  clear hK11
  refine TC.seq (fun K12 hK12 => ?_)
  refine TC.yes rfl ?_
  refine TC.skip ?_
  refine TE.next hK12 ?_
  clear hK12
  refine TC.seq (fun K13 hK13 => ?_)
  refine TC.block ?_
  refine TC.seq (fun K14 hK14 => ?_)
  refine TC.region ?_
  refine TL.v (Want.plain rfl) rfl rfl (PV.move rfl rfl) ?_
  refine TL.v (Want.plain rfl) rfl rfl (PV.assign rfl rfl) ?_
  refine TL.nil ?_
  refine TE.next hK14 ?_
  clear hK14
  refine TC.region ?_
  refine TL.v (Want.plain rfl) rfl rfl (PV.move rfl rfl) ?_
  refine TL.v (Want.plain rfl) rfl rfl (PV.move rfl rfl) ?_
  refine TL.callP (A := [blkA rb [v3] 99]) (B := [blkA b3 [(.int .i64 (a1)), (.int .i64 (a2)), (.int .i64 (a3)), (.int .i64 0), (.int .i64 0), (.int .i64 0), (.int .i64 0)] 25, blkA b2 [(.int .i64 0), (.int .i64 0), (.int .i64 0), (.int .i64 0), (.int .i64 0), (.int .i64 0), (.int .i64 0)] 25]) (Want.plain rfl) rfl rfl rfl nm47 rfl (small_does rb v3 r3 (6)) (fun _ s => s) (fun _ d _ => (hf3).more d) (fun cP HP hP => ?_) (fun vR HR hR => ?_)
  · skip
    obtain ⟨vP, rfl, rfl, hpP⟩ := hP
    change TE _ _ _ _ _ _ _ [blkA rb [vP] 99, blkA b3 [(.int .i64 (a1)), (.int .i64 (a2)), (.int .i64 (a3)), (.int .i64 0), (.int .i64 0), (.int .i64 0), (.int .i64 0)] 25, blkA b2 [(.int .i64 0), (.int .i64 0), (.int .i64 0), (.int .i64 0), (.int .i64 0), (.int .i64 0), (.int .i64 0)] 25]
    refine TE.blockPanic ?_
    refine TE.passPanic ?_
    clear hK13
    refine TE.passPanic ?_
    refine TE.blockPanic ?_
    refine TE.passPanic ?_
    clear hK5
    refine TE.weak (Sub.refl _) (fun _ s => sep_keep [0] rfl s) ?_
    refine TE.panicked ?_
    exact ⟨_, rfl, rfl, by simp [viewP, pr, pb_some hp1, pb_some hp2, pb_some hp3, pb_none hpP]⟩
  obtain ⟨a4, r4, v4, rfl, rfl, hp4, ht4⟩ := hR
  change TL _ _ _ _ _ _ _ _ _ [blkA rb [v4] 99, blkA b3 [(.int .i64 (a1)), (.int .i64 (a2)), (.int .i64 (a3)), (.int .i64 0), (.int .i64 0), (.int .i64 0), (.int .i64 0)] 25, blkA b2 [(.int .i64 0), (.int .i64 0), (.int .i64 0), (.int .i64 0), (.int .i64 0), (.int .i64 0), (.int .i64 0)] 25]
  have hf4 := ht4 _ hf3
  refine TL.v (Want.plain rfl) rfl rfl (PV.fieldAddr (r := 2) rfl Try.underlying25 rfl sz23 rfl rfl) ?_
  refine TL.v (Want.plain rfl) rfl rfl (PV.indexArr (r := 3) rfl Try.underlying23 sz3 rfl rfl (lz rfl) (lz rfl) rfl) ?_
  refine TL.store1 (i := 1) (H' := [blkA rb [v4] 99, blkA b3 [(.int .i64 (a1)), (.int .i64 (a2)), (.int .i64 (a3)), (.int .i64 (a4)), (.int .i64 0), (.int .i64 0), (.int .i64 0)] 25, blkA b2 [(.int .i64 0), (.int .i64 0), (.int .i64 0), (.int .i64 0), (.int .i64 0), (.int .i64 0), (.int .i64 0)] 25]) (Want.plain rfl) rfl rfl rfl rfl rfl sz3 rfl rfl (lb rfl) rfl rfl ?_
  refine TL.nil ?_
  refine TE.blockEnd ?_
  refine TE.next hK13 ?_
  clear hK13
  refine TC.region ?_
  refine TL.v (Want.plain rfl) rfl rfl (PV.add (r := 2) rfl rfl rfl (by decide)) ?_
  refine TL.v (Want.plain rfl) rfl rfl (PV.move rfl rfl) ?_
  refine TL.nil ?_
  refine TE.again ?_
  refine TC.seq (fun K15 hK15 => ?_)
  refine TC.region ?_
  refine TL.v (Want.plain rfl) rfl rfl (PV.lss rfl rfl rfl) ?_
  refine TL.nil ?_
  refine TE.next hK15 ?_
  clear hK15
  refine TC.seq (fun K16 hK16 => ?_)
  refine TC.yes rfl ?_
  refine TC.skip ?_
  refine TE.next hK16 ?_
  clear hK16
  refine TC.seq (fun K17 hK17 => ?_)
  refine TC.block ?_
  refine TC.seq (fun K18 hK18 => ?_)
  refine TC.region ?_
  refine TL.v (Want.plain rfl) rfl rfl (PV.move rfl rfl) ?_
  refine TL.v (Want.plain rfl) rfl rfl (PV.assign rfl rfl) ?_
  refine TL.nil ?_
  refine TE.next hK18 ?_
  clear hK18
  refine TC.region ?_
  refine TL.v (Want.plain rfl) rfl rfl (PV.move rfl rfl) ?_
  refine TL.v (Want.plain rfl) rfl rfl (PV.move rfl rfl) ?_
  refine TL.callP (A := [blkA rb [v4] 99]) (B := [blkA b3 [(.int .i64 (a1)), (.int .i64 (a2)), (.int .i64 (a3)), (.int .i64 (a4)), (.int .i64 0), (.int .i64 0), (.int .i64 0)] 25, blkA b2 [(.int .i64 0), (.int .i64 0), (.int .i64 0), (.int .i64 0), (.int .i64 0), (.int .i64 0), (.int .i64 0)] 25]) (Want.plain rfl) rfl rfl rfl nm47 rfl (small_does rb v4 r4 (6)) (fun _ s => s) (fun _ d _ => (hf4).more d) (fun cP HP hP => ?_) (fun vR HR hR => ?_)
  · skip
    obtain ⟨vP, rfl, rfl, hpP⟩ := hP
    change TE _ _ _ _ _ _ _ [blkA rb [vP] 99, blkA b3 [(.int .i64 (a1)), (.int .i64 (a2)), (.int .i64 (a3)), (.int .i64 (a4)), (.int .i64 0), (.int .i64 0), (.int .i64 0)] 25, blkA b2 [(.int .i64 0), (.int .i64 0), (.int .i64 0), (.int .i64 0), (.int .i64 0), (.int .i64 0), (.int .i64 0)] 25]
    refine TE.blockPanic ?_
    refine TE.passPanic ?_
    clear hK17
    refine TE.passPanic ?_
    refine TE.blockPanic ?_
    refine TE.passPanic ?_
    clear hK5
    refine TE.weak (Sub.refl _) (fun _ s => sep_keep [0] rfl s) ?_
    refine TE.panicked ?_
    exact ⟨_, rfl, rfl, by simp [viewP, pr, pb_some hp1, pb_some hp2, pb_some hp3, pb_some hp4, pb_none hpP]⟩
  obtain ⟨a5, r5, v5, rfl, rfl, hp5, ht5⟩ := hR
  change TL _ _ _ _ _ _ _ _ _ [blkA rb [v5] 99, blkA b3 [(.int .i64 (a1)), (.int .i64 (a2)), (.int .i64 (a3)), (.int .i64 (a4)), (.int .i64 0), (.int .i64 0), (.int .i64 0)] 25, blkA b2 [(.int .i64 0), (.int .i64 0), (.int .i64 0), (.int .i64 0), (.int .i64 0), (.int .i64 0), (.int .i64 0)] 25]
  have hf5 := ht5 _ hf4
  refine TL.v (Want.plain rfl) rfl rfl (PV.fieldAddr (r := 2) rfl Try.underlying25 rfl sz23 rfl rfl) ?_
  refine TL.v (Want.plain rfl) rfl rfl (PV.indexArr (r := 4) rfl Try.underlying23 sz3 rfl rfl (lz rfl) (lz rfl) rfl) ?_
  refine TL.store1 (i := 1) (H' := [blkA rb [v5] 99, blkA b3 [(.int .i64 (a1)), (.int .i64 (a2)), (.int .i64 (a3)), (.int .i64 (a4)), (.int .i64 (a5)), (.int .i64 0), (.int .i64 0)] 25, blkA b2 [(.int .i64 0), (.int .i64 0), (.int .i64 0), (.int .i64 0), (.int .i64 0), (.int .i64 0), (.int .i64 0)] 25]) (Want.plain rfl) rfl rfl rfl rfl rfl sz3 rfl rfl (lb rfl) rfl rfl ?_
  refine TL.nil ?_
  refine TE.blockEnd ?_
  refine TE.next hK17 ?_
  clear hK17
  refine TC.region ?_
  refine TL.v (Want.plain rfl) rfl rfl (PV.add (r := 3) rfl rfl rfl (by decide)) ?_
  refine TL.v (Want.plain rfl) rfl rfl (PV.move rfl rfl) ?_
  refine TL.nil ?_
  refine TE.again ?_
  refine TC.seq (fun K19 hK19 => ?_)
  refine TC.region ?_
  refine TL.v (Want.plain rfl) rfl rfl (PV.lss rfl rfl rfl) ?_
  refine TL.nil ?_
  refine TE.next hK19 ?_
  clear hK19
  refine TC.seq (fun K20 hK20 => ?_)
  refine TC.yes rfl ?_
  refine TC.skip ?_
  refine TE.next hK20 ?_
  clear hK20
  refine TC.seq (fun K21 hK21 => ?_)
  refine TC.block ?_
  refine TC.seq (fun K22 hK22 => ?_)
  refine TC.region ?_
  refine TL.v (Want.plain rfl) rfl rfl (PV.move rfl rfl) ?_
  refine TL.v (Want.plain rfl) rfl rfl (PV.assign rfl rfl) ?_
  refine TL.nil ?_
  refine TE.next hK22 ?_
  clear hK22
  refine TC.region ?_
  refine TL.v (Want.plain rfl) rfl rfl (PV.move rfl rfl) ?_
  refine TL.v (Want.plain rfl) rfl rfl (PV.move rfl rfl) ?_
  refine TL.callP (A := [blkA rb [v5] 99]) (B := [blkA b3 [(.int .i64 (a1)), (.int .i64 (a2)), (.int .i64 (a3)), (.int .i64 (a4)), (.int .i64 (a5)), (.int .i64 0), (.int .i64 0)] 25, blkA b2 [(.int .i64 0), (.int .i64 0), (.int .i64 0), (.int .i64 0), (.int .i64 0), (.int .i64 0), (.int .i64 0)] 25]) (Want.plain rfl) rfl rfl rfl nm47 rfl (small_does rb v5 r5 (6)) (fun _ s => s) (fun _ d _ => (hf5).more d) (fun cP HP hP => ?_) (fun vR HR hR => ?_)
  · skip
    obtain ⟨vP, rfl, rfl, hpP⟩ := hP
    change TE _ _ _ _ _ _ _ [blkA rb [vP] 99, blkA b3 [(.int .i64 (a1)), (.int .i64 (a2)), (.int .i64 (a3)), (.int .i64 (a4)), (.int .i64 (a5)), (.int .i64 0), (.int .i64 0)] 25, blkA b2 [(.int .i64 0), (.int .i64 0), (.int .i64 0), (.int .i64 0), (.int .i64 0), (.int .i64 0), (.int .i64 0)] 25]
    refine TE.blockPanic ?_
    refine TE.passPanic ?_
    clear hK21
    refine TE.passPanic ?_
    refine TE.blockPanic ?_
    refine TE.passPanic ?_
    clear hK5
    refine TE.weak (Sub.refl _) (fun _ s => sep_keep [0] rfl s) ?_
    refine TE.panicked ?_
    exact ⟨_, rfl, rfl, by simp [viewP, pr, pb_some hp1, pb_some hp2, pb_some hp3, pb_some hp4, pb_some hp5, pb_none hpP]⟩
  obtain ⟨a6, r6, v6, rfl, rfl, hp6, ht6⟩ := hR
  change TL _ _ _ _ _ _ _ _ _ [blkA rb [v6] 99, blkA b3 [(.int .i64 (a1)), (.int .i64 (a2)), (.int .i64 (a3)), (.int .i64 (a4)), (.int .i64 (a5)), (.int .i64 0), (.int .i64 0)] 25, blkA b2 [(.int .i64 0), (.int .i64 0), (.int .i64 0), (.int .i64 0), (.int .i64 0), (.int .i64 0), (.int .i64 0)] 25]
  have hf6 := ht6 _ hf5
  refine TL.v (Want.plain rfl) rfl rfl (PV.fieldAddr (r := 2) rfl Try.underlying25 rfl sz23 rfl rfl) ?_
  refine TL.v (Want.plain rfl) rfl rfl (PV.indexArr (r := 5) rfl Try.underlying23 sz3 rfl rfl (lz rfl) (lz rfl) rfl) ?_
  refine TL.store1 (i := 1) (H' := [blkA rb [v6] 99, blkA b3 [(.int .i64 (a1)), (.int .i64 (a2)), (.int .i64 (a3)), (.int .i64 (a4)), (.int .i64 (a5)), (.int .i64 (a6)), (.int .i64 0)] 25, blkA b2 [(.int .i64 0), (.int .i64 0), (.int .i64 0), (.int .i64 0), (.int .i64 0), (.int .i64 0), (.int .i64 0)] 25]) (Want.plain rfl) rfl rfl rfl rfl rfl sz3 rfl rfl (lb rfl) rfl rfl ?_
  refine TL.nil ?_
  refine TE.blockEnd ?_
  refine TE.next hK21 ?_
  clear hK21
  refine TC.region ?_
  refine TL.v (Want.plain rfl) rfl rfl (PV.add (r := 4) rfl rfl rfl (by decide)) ?_
  refine TL.v (Want.plain rfl) rfl rfl (PV.move rfl rfl) ?_
  refine TL.nil ?_
  refine TE.again ?_
  refine TC.seq (fun K23 hK23 => ?_)
  refine TC.region ?_
  refine TL.v (Want.plain rfl) rfl rfl (PV.lss rfl rfl rfl) ?_
  refine TL.nil ?_
  refine TE.next hK23 ?_
  clear hK23
  refine TC.seq (fun K24 hK24 => ?_)
  refine TC.yes rfl ?_
  refine TC.skip ?_
  refine TE.next hK24 ?_
  clear hK24
  refine TC.seq (fun K25 hK25 => ?_)
  refine TC.block ?_
  refine TC.seq (fun K26 hK26 => ?_)
  refine TC.region ?_
  refine TL.v (Want.plain rfl) rfl rfl (PV.move rfl rfl) ?_
  refine TL.v (Want.plain rfl) rfl rfl (PV.assign rfl rfl) ?_
  refine TL.nil ?_
  refine TE.next hK26 ?_
  clear hK26
  refine TC.region ?_
  refine TL.v (Want.plain rfl) rfl rfl (PV.move rfl rfl) ?_
  refine TL.v (Want.plain rfl) rfl rfl (PV.move rfl rfl) ?_
  refine TL.callP (A := [blkA rb [v6] 99]) (B := [blkA b3 [(.int .i64 (a1)), (.int .i64 (a2)), (.int .i64 (a3)), (.int .i64 (a4)), (.int .i64 (a5)), (.int .i64 (a6)), (.int .i64 0)] 25, blkA b2 [(.int .i64 0), (.int .i64 0), (.int .i64 0), (.int .i64 0), (.int .i64 0), (.int .i64 0), (.int .i64 0)] 25]) (Want.plain rfl) rfl rfl rfl nm47 rfl (small_does rb v6 r6 (6)) (fun _ s => s) (fun _ d _ => (hf6).more d) (fun cP HP hP => ?_) (fun vR HR hR => ?_)
  · skip
    obtain ⟨vP, rfl, rfl, hpP⟩ := hP
    change TE _ _ _ _ _ _ _ [blkA rb [vP] 99, blkA b3 [(.int .i64 (a1)), (.int .i64 (a2)), (.int .i64 (a3)), (.int .i64 (a4)), (.int .i64 (a5)), (.int .i64 (a6)), (.int .i64 0)] 25, blkA b2 [(.int .i64 0), (.int .i64 0), (.int .i64 0), (.int .i64 0), (.int .i64 0), (.int .i64 0), (.int .i64 0)] 25]
    refine TE.blockPanic ?_
    refine TE.passPanic ?_
    clear hK25
    refine TE.passPanic ?_
    refine TE.blockPanic ?_
    refine TE.passPanic ?_
    clear hK5
    refine TE.weak (Sub.refl _) (fun _ s => sep_keep [0] rfl s) ?_
    refine TE.panicked ?_
    exact ⟨_, rfl, rfl, by simp [viewP, pr, pb_some hp1, pb_some hp2, pb_some hp3, pb_some hp4, pb_some hp5, pb_some hp6, pb_none hpP]⟩
  obtain ⟨a7, r7, v7, rfl, rfl, hp7, ht7⟩ := hR
  change TL _ _ _ _ _ _ _ _ _ [blkA rb [v7] 99, blkA b3 [(.int .i64 (a1)), (.int .i64 (a2)), (.int .i64 (a3)), (.int .i64 (a4)), (.int .i64 (a5)), (.int .i64 (a6)), (.int .i64 0)] 25, blkA b2 [(.int .i64 0), (.int .i64 0), (.int .i64 0), (.int .i64 0), (.int .i64 0), (.int .i64 0), (.int .i64 0)] 25]
  have hf7 := ht7 _ hf6
  refine TL.v (Want.plain rfl) rfl rfl (PV.fieldAddr (r := 2) rfl Try.underlying25 rfl sz23 rfl rfl) ?_
  refine TL.v (Want.plain rfl) rfl rfl (PV.indexArr (r := 6) rfl Try.underlying23 sz3 rfl rfl (lz rfl) (lz rfl) rfl) ?_
  refine TL.store1 (i := 1) (H' := [blkA rb [v7] 99, blkA b3 [(.int .i64 (a1)), (.int .i64 (a2)), (.int .i64 (a3)), (.int .i64 (a4)), (.int .i64 (a5)), (.int .i64 (a6)), (.int .i64 (a7))] 25, blkA b2 [(.int .i64 0), (.int .i64 0), (.int .i64 0), (.int .i64 0), (.int .i64 0), (.int .i64 0), (.int .i64 0)] 25]) (Want.plain rfl) rfl rfl rfl rfl rfl sz3 rfl rfl (lb rfl) rfl rfl ?_
  refine TL.nil ?_
  refine TE.blockEnd ?_
  refine TE.next hK25 ?_
  clear hK25
  refine TC.region ?_
  refine TL.v (Want.plain rfl) rfl rfl (PV.add (r := 5) rfl rfl rfl (by decide)) ?_
  refine TL.v (Want.plain rfl) rfl rfl (PV.move rfl rfl) ?_
  refine TL.nil ?_
  refine TE.again ?_
  refine TC.seq (fun K27 hK27 => ?_)
  refine TC.region ?_
  refine TL.v (Want.plain rfl) rfl rfl (PV.lss rfl rfl rfl) ?_
  refine TL.nil ?_
  refine TE.next hK27 ?_
  clear hK27
  refine TC.seq (fun K28 hK28 => ?_)
  refine TC.no rfl ?_
  refine TC.exit ?_
  refine TE.pass ?_
  clear hK28
  refine TE.pass ?_
  refine TE.hit ?_
  refine TE.next hK5 ?_
  clear hK5
  refine TC.seq (fun K29 hK29 => ?_)
  refine TC.region ?_
  refine TL.v (Want.plain rfl) rfl rfl (PV.loadN (vs := [(.int .i64 (a1)), (.int .i64 (a2)), (.int .i64 (a3)), (.int .i64 (a4)), (.int .i64 (a5)), (.int .i64 (a6)), (.int .i64 (a7))]) rfl Try.underlying25 rfl sz25 rfl (Rd.own 1 rfl rfl) rfl rfl) ?_
  refine TL.store (vs := [(.int .i64 (a1)), (.int .i64 (a2)), (.int .i64 (a3)), (.int .i64 (a4)), (.int .i64 (a5)), (.int .i64 (a6)), (.int .i64 (a7))]) (i := 2) (H' := [blkA rb [v7] 99, blkA b3 [(.int .i64 (a1)), (.int .i64 (a2)), (.int .i64 (a3)), (.int .i64 (a4)), (.int .i64 (a5)), (.int .i64 (a6)), (.int .i64 (a7))] 25, blkA b2 [(.int .i64 (a1)), (.int .i64 (a2)), (.int .i64 (a3)), (.int .i64 (a4)), (.int .i64 (a5)), (.int .i64 (a6)), (.int .i64 (a7))] 25]) (Want.plain rfl) rfl rfl rfl rfl rfl sz25 (by simp [Value.oneCell']) rfl rfl (lbe rfl) rfl rfl ?_
  refine TL.nil ?_
  refine TE.next hK29 ?_
  clear hK29
  refine TC.ret ?_
  refine TE.retC (H' := [blkA rb [v7] 99]) rfl rfl Try.underlying25 rfl sz25 (Rd.own 2 rfl rfl) rfl (fun _ s => sep_keep [0] rfl s) ?_
  exact ⟨⟨a1, a2, #v[a3, a4, a5, a6, a7]⟩, _, _, rfl, rfl, by simp [viewP, pr, pb_some hp1, pb_some hp2, pb_some hp3, pb_some hp4, pb_some hp5, pb_some hp6, pb_some hp7], (ht1.trans (ht2.trans (ht3.trans (ht4.trans (ht5.trans (ht6.trans ht7))))))⟩


theorem rchange_does (rb : Nat) (v : Value) (bs : List UInt8) :
    Does Try.prog 51 #[(.pointer (some ⟨rb, 0, none⟩))] (IsB v bs) [blkA rb [v] 99] (RdPost 99 giveUp ChangeT.val changeP v bs rb) := by
  refine Does.body (vs := [(.pointer (some ⟨rb, 0, none⟩))]) (n := 14) Try.func51 rfl rfl rfl (fun w0 F hF => ?_)
  refine TC.seq (fun K1 hK1 => ?_)
  refine TC.region ?_
  refine TL.alloc (Want.plain rfl) rfl rfl rfl z42 (fun b2 => ?_)
  change TL _ _ _ _ _ _ _ _ _ [blkA b2 [(.int .i64 0), (.int .i64 0), (.int .i64 0)] 42, blkA rb [v] 99]
  refine TL.nil ?_
  refine TE.next hK1 ?_
  clear hK1
  refine TC.seq (fun K2 hK2 => ?_)
  refine TC.region ?_
  refine TL.alloc (Want.plain rfl) rfl rfl rfl z42 (fun b3 => ?_)
  change TL _ _ _ _ _ _ _ _ _ [blkA b3 [(.int .i64 0), (.int .i64 0), (.int .i64 0)] 42, blkA b2 [(.int .i64 0), (.int .i64 0), (.int .i64 0)] 42, blkA rb [v] 99]
  refine TL.nil ?_
  refine TE.next hK2 ?_
  clear hK2
  refine TC.seq (fun K3 hK3 => ?_)
  refine TC.region ?_
  refine TL.v (Want.plain rfl) rfl rfl (PV.move rfl rfl) ?_
  refine TL.callP (A := [blkA rb [v] 99]) (B := [blkA b3 [(.int .i64 0), (.int .i64 0), (.int .i64 0)] 42, blkA b2 [(.int .i64 0), (.int .i64 0), (.int .i64 0)] 42]) (Want.plain rfl) rfl rfl rfl nm47 rfl (small_does rb v bs (2)) (fun _ s => sep_selR [2] rfl s) (fun _ d _ => (hF).more d) (fun cP HP hP => ?_) (fun vR HR hR => ?_)
  · skip
    obtain ⟨vP, rfl, rfl, hpP⟩ := hP
    change TE _ _ _ _ _ _ _ [blkA rb [vP] 99, blkA b3 [(.int .i64 0), (.int .i64 0), (.int .i64 0)] 42, blkA b2 [(.int .i64 0), (.int .i64 0), (.int .i64 0)] 42]
    refine TE.passPanic ?_
    clear hK3
    refine TE.weak (Sub.refl _) (fun _ s => sep_keep [0] rfl s) ?_
    refine TE.panicked ?_
    exact ⟨_, rfl, rfl, by simp [changeP, pr, pb_none hpP]⟩
  obtain ⟨a1, r1, v1, rfl, rfl, hp1, ht1⟩ := hR
  change TL _ _ _ _ _ _ _ _ _ [blkA rb [v1] 99, blkA b3 [(.int .i64 0), (.int .i64 0), (.int .i64 0)] 42, blkA b2 [(.int .i64 0), (.int .i64 0), (.int .i64 0)] 42]
  have hf1 := ht1 _ hF
  refine TL.v (Want.plain rfl) rfl rfl (PV.fieldAddr (r := 0) rfl Try.underlying42 rfl sz3 rfl rfl) ?_
  refine TL.store1 (i := 1) (H' := [blkA rb [v1] 99, blkA b3 [(.int .i64 (a1)), (.int .i64 0), (.int .i64 0)] 42, blkA b2 [(.int .i64 0), (.int .i64 0), (.int .i64 0)] 42]) (Want.plain rfl) rfl rfl rfl rfl rfl sz3 rfl rfl (lb rfl) rfl rfl ?_
  refine TL.nil ?_
  refine TE.next hK3 ?_
  clear hK3
  refine TC.seq (fun K4 hK4 => ?_)
  refine TC.region ?_
  refine TL.v (Want.plain rfl) rfl rfl (PV.move rfl rfl) ?_
  refine TL.callP (A := [blkA rb [v1] 99]) (B := [blkA b3 [(.int .i64 (a1)), (.int .i64 0), (.int .i64 0)] 42, blkA b2 [(.int .i64 0), (.int .i64 0), (.int .i64 0)] 42]) (Want.plain rfl) rfl rfl rfl nm47 rfl (small_does rb v1 r1 (5)) (fun _ s => s) (fun _ d _ => (hf1).more d) (fun cP HP hP => ?_) (fun vR HR hR => ?_)
  · skip
    obtain ⟨vP, rfl, rfl, hpP⟩ := hP
    change TE _ _ _ _ _ _ _ [blkA rb [vP] 99, blkA b3 [(.int .i64 (a1)), (.int .i64 0), (.int .i64 0)] 42, blkA b2 [(.int .i64 0), (.int .i64 0), (.int .i64 0)] 42]
    refine TE.passPanic ?_
    clear hK4
    refine TE.weak (Sub.refl _) (fun _ s => sep_keep [0] rfl s) ?_
    refine TE.panicked ?_
    exact ⟨_, rfl, rfl, by simp [changeP, pr, pb_some hp1, pb_none hpP]⟩
  obtain ⟨a2, r2, v2, rfl, rfl, hp2, ht2⟩ := hR
  change TL _ _ _ _ _ _ _ _ _ [blkA rb [v2] 99, blkA b3 [(.int .i64 (a1)), (.int .i64 0), (.int .i64 0)] 42, blkA b2 [(.int .i64 0), (.int .i64 0), (.int .i64 0)] 42]
  have hf2 := ht2 _ hf1
  refine TL.v (Want.plain rfl) rfl rfl (PV.fieldAddr (r := 1) rfl Try.underlying42 rfl sz3 rfl rfl) ?_
  refine TL.store1 (i := 1) (H' := [blkA rb [v2] 99, blkA b3 [(.int .i64 (a1)), (.int .i64 (a2)), (.int .i64 0)] 42, blkA b2 [(.int .i64 0), (.int .i64 0), (.int .i64 0)] 42]) (Want.plain rfl) rfl rfl rfl rfl rfl sz3 rfl rfl (lb rfl) rfl rfl ?_
  refine TL.nil ?_
  refine TE.next hK4 ?_
  clear hK4
  refine TC.seq (fun K5 hK5 => ?_)
  refine TC.region ?_
  refine TL.v (Want.plain rfl) rfl rfl (PV.move rfl rfl) ?_
  refine TL.callP (A := [blkA rb [v2] 99]) (B := [blkA b3 [(.int .i64 (a1)), (.int .i64 (a2)), (.int .i64 0)] 42, blkA b2 [(.int .i64 0), (.int .i64 0), (.int .i64 0)] 42]) (Want.plain rfl) rfl rfl rfl nm47 rfl (small_does rb v2 r2 (5)) (fun _ s => s) (fun _ d _ => (hf2).more d) (fun cP HP hP => ?_) (fun vR HR hR => ?_)
  · skip
    obtain ⟨vP, rfl, rfl, hpP⟩ := hP
    change TE _ _ _ _ _ _ _ [blkA rb [vP] 99, blkA b3 [(.int .i64 (a1)), (.int .i64 (a2)), (.int .i64 0)] 42, blkA b2 [(.int .i64 0), (.int .i64 0), (.int .i64 0)] 42]
    refine TE.passPanic ?_
    clear hK5
    refine TE.weak (Sub.refl _) (fun _ s => sep_keep [0] rfl s) ?_
    refine TE.panicked ?_
    exact ⟨_, rfl, rfl, by simp [changeP, pr, pb_some hp1, pb_some hp2, pb_none hpP]⟩
  obtain ⟨a3, r3, v3, rfl, rfl, hp3, ht3⟩ := hR
  change TL _ _ _ _ _ _ _ _ _ [blkA rb [v3] 99, blkA b3 [(.int .i64 (a1)), (.int .i64 (a2)), (.int .i64 0)] 42, blkA b2 [(.int .i64 0), (.int .i64 0), (.int .i64 0)] 42]
  have hf3 := ht3 _ hf2
  refine TL.v (Want.plain rfl) rfl rfl (PV.fieldAddr (r := 2) rfl Try.underlying42 rfl sz3 rfl rfl) ?_
  refine TL.store1 (i := 1) (H' := [blkA rb [v3] 99, blkA b3 [(.int .i64 (a1)), (.int .i64 (a2)), (.int .i64 (a3))] 42, blkA b2 [(.int .i64 0), (.int .i64 0), (.int .i64 0)] 42]) (Want.plain rfl) rfl rfl rfl rfl rfl sz3 rfl rfl (lb rfl) rfl rfl ?_
  refine TL.nil ?_
  refine TE.next hK5 ?_
  clear hK5
  refine TC.seq (fun K6 hK6 => ?_)
  refine TC.region ?_
  refine TL.v (Want.plain rfl) rfl rfl (PV.loadN (vs := [(.int .i64 (a1)), (.int .i64 (a2)), (.int .i64 (a3))]) rfl Try.underlying42 rfl sz42 rfl (Rd.own 1 rfl rfl) rfl rfl) ?_
  refine TL.store (vs := [(.int .i64 (a1)), (.int .i64 (a2)), (.int .i64 (a3))]) (i := 2) (H' := [blkA rb [v3] 99, blkA b3 [(.int .i64 (a1)), (.int .i64 (a2)), (.int .i64 (a3))] 42, blkA b2 [(.int .i64 (a1)), (.int .i64 (a2)), (.int .i64 (a3))] 42]) (Want.plain rfl) rfl rfl rfl rfl rfl sz42 (by simp [Value.oneCell']) rfl rfl (lbe rfl) rfl rfl ?_
  refine TL.nil ?_
  refine TE.next hK6 ?_
  clear hK6
  refine TC.ret ?_
  refine TE.retC (H' := [blkA rb [v3] 99]) rfl rfl Try.underlying42 rfl sz42 (Rd.own 2 rfl rfl) rfl (fun _ s => sep_keep [0] rfl s) ?_
  exact ⟨⟨a1, a2, a3⟩, _, _, rfl, rfl, by simp [changeP, pr, pb_some hp1, pb_some hp2, pb_some hp3], (ht1.trans (ht2.trans ht3))⟩


theorem rballot_does (rb : Nat) (v : Value) (bs : List UInt8) :
    Does Try.prog 50 #[(.pointer (some ⟨rb, 0, none⟩))] (IsB v bs) [blkA rb [v] 99] (RdPost 99 giveUp BallotT.val ballotP v bs rb) := by
  refine Does.body (vs := [(.pointer (some ⟨rb, 0, none⟩))]) (n := 11) Try.func50 rfl rfl rfl (fun w0 F hF => ?_)
  refine TC.seq (fun K1 hK1 => ?_)
  refine TC.region ?_
  refine TL.alloc (Want.plain rfl) rfl rfl rfl z40 (fun b2 => ?_)
  change TL _ _ _ _ _ _ _ _ _ [blkA b2 [(.int .i64 0), (.int .i64 0)] 40, blkA rb [v] 99]
  refine TL.nil ?_
  refine TE.next hK1 ?_
  clear hK1
  refine TC.seq (fun K2 hK2 => ?_)
  refine TC.region ?_
  refine TL.alloc (Want.plain rfl) rfl rfl rfl z40 (fun b3 => ?_)
  change TL _ _ _ _ _ _ _ _ _ [blkA b3 [(.int .i64 0), (.int .i64 0)] 40, blkA b2 [(.int .i64 0), (.int .i64 0)] 40, blkA rb [v] 99]
  refine TL.nil ?_
  refine TE.next hK2 ?_
  clear hK2
  refine TC.seq (fun K3 hK3 => ?_)
  refine TC.region ?_
  refine TL.v (Want.plain rfl) rfl rfl (PV.move rfl rfl) ?_
  refine TL.callP (A := [blkA rb [v] 99]) (B := [blkA b3 [(.int .i64 0), (.int .i64 0)] 40, blkA b2 [(.int .i64 0), (.int .i64 0)] 40]) (Want.plain rfl) rfl rfl rfl nm49 rfl (num_does rb v bs ) (fun _ s => sep_selR [2] rfl s) (fun _ d _ => (hF).more d) (fun cP HP hP => ?_) (fun vR HR hR => ?_)
  · skip
    obtain ⟨vP, rfl, rfl, hpP⟩ := hP
    change TE _ _ _ _ _ _ _ [blkA rb [vP] 99, blkA b3 [(.int .i64 0), (.int .i64 0)] 40, blkA b2 [(.int .i64 0), (.int .i64 0)] 40]
    refine TE.passPanic ?_
    clear hK3
    refine TE.weak (Sub.refl _) (fun _ s => sep_keep [0] rfl s) ?_
    refine TE.panicked ?_
    exact ⟨_, rfl, rfl, by simp [ballotP, pr, pb_none hpP]⟩
  obtain ⟨a1, r1, v1, rfl, rfl, hp1, ht1⟩ := hR
  change TL _ _ _ _ _ _ _ _ _ [blkA rb [v1] 99, blkA b3 [(.int .i64 0), (.int .i64 0)] 40, blkA b2 [(.int .i64 0), (.int .i64 0)] 40]
  have hf1 := ht1 _ hF
  refine TL.v (Want.plain rfl) rfl rfl (PV.fieldAddr (r := 0) rfl Try.underlying40 rfl sz3 rfl rfl) ?_
  refine TL.store1 (i := 1) (H' := [blkA rb [v1] 99, blkA b3 [(.int .i64 (a1)), (.int .i64 0)] 40, blkA b2 [(.int .i64 0), (.int .i64 0)] 40]) (Want.plain rfl) rfl rfl rfl rfl rfl sz3 rfl rfl (lb rfl) rfl rfl ?_
  refine TL.nil ?_
  refine TE.next hK3 ?_
  clear hK3
  refine TC.seq (fun K4 hK4 => ?_)
  refine TC.region ?_
  refine TL.v (Want.plain rfl) rfl rfl (PV.move rfl rfl) ?_
  refine TL.callP (A := [blkA rb [v1] 99]) (B := [blkA b3 [(.int .i64 (a1)), (.int .i64 0)] 40, blkA b2 [(.int .i64 0), (.int .i64 0)] 40]) (Want.plain rfl) rfl rfl rfl nm47 rfl (small_does rb v1 r1 (5)) (fun _ s => s) (fun _ d _ => (hf1).more d) (fun cP HP hP => ?_) (fun vR HR hR => ?_)
  · skip
    obtain ⟨vP, rfl, rfl, hpP⟩ := hP
    change TE _ _ _ _ _ _ _ [blkA rb [vP] 99, blkA b3 [(.int .i64 (a1)), (.int .i64 0)] 40, blkA b2 [(.int .i64 0), (.int .i64 0)] 40]
    refine TE.passPanic ?_
    clear hK4
    refine TE.weak (Sub.refl _) (fun _ s => sep_keep [0] rfl s) ?_
    refine TE.panicked ?_
    exact ⟨_, rfl, rfl, by simp [ballotP, pr, pb_some hp1, pb_none hpP]⟩
  obtain ⟨a2, r2, v2, rfl, rfl, hp2, ht2⟩ := hR
  change TL _ _ _ _ _ _ _ _ _ [blkA rb [v2] 99, blkA b3 [(.int .i64 (a1)), (.int .i64 0)] 40, blkA b2 [(.int .i64 0), (.int .i64 0)] 40]
  have hf2 := ht2 _ hf1
  refine TL.v (Want.plain rfl) rfl rfl (PV.fieldAddr (r := 1) rfl Try.underlying40 rfl sz3 rfl rfl) ?_
  refine TL.store1 (i := 1) (H' := [blkA rb [v2] 99, blkA b3 [(.int .i64 (a1)), (.int .i64 (a2))] 40, blkA b2 [(.int .i64 0), (.int .i64 0)] 40]) (Want.plain rfl) rfl rfl rfl rfl rfl sz3 rfl rfl (lb rfl) rfl rfl ?_
  refine TL.nil ?_
  refine TE.next hK4 ?_
  clear hK4
  refine TC.seq (fun K5 hK5 => ?_)
  refine TC.region ?_
  refine TL.v (Want.plain rfl) rfl rfl (PV.loadN (vs := [(.int .i64 (a1)), (.int .i64 (a2))]) rfl Try.underlying40 rfl sz40 rfl (Rd.own 1 rfl rfl) rfl rfl) ?_
  refine TL.store (vs := [(.int .i64 (a1)), (.int .i64 (a2))]) (i := 2) (H' := [blkA rb [v2] 99, blkA b3 [(.int .i64 (a1)), (.int .i64 (a2))] 40, blkA b2 [(.int .i64 (a1)), (.int .i64 (a2))] 40]) (Want.plain rfl) rfl rfl rfl rfl rfl sz40 (by simp [Value.oneCell']) rfl rfl (lbe rfl) rfl rfl ?_
  refine TL.nil ?_
  refine TE.next hK5 ?_
  clear hK5
  refine TC.ret ?_
  refine TE.retC (H' := [blkA rb [v2] 99]) rfl rfl Try.underlying40 rfl sz40 (Rd.own 2 rfl rfl) rfl (fun _ s => sep_keep [0] rfl s) ?_
  exact ⟨⟨a1, a2⟩, _, _, rfl, rfl, by simp [ballotP, pr, pb_some hp1, pb_some hp2], (ht1.trans ht2)⟩


theorem rrow_does (rb : Nat) (v : Value) (bs : List UInt8) :
    Does Try.prog 48 #[(.pointer (some ⟨rb, 0, none⟩))] (IsB v bs) [blkA rb [v] 99] (RdPost 99 giveUp RowT.val rowP v bs rb) := by
  refine Does.body (vs := [(.pointer (some ⟨rb, 0, none⟩))]) (n := 45) Try.func48 rfl rfl rfl (fun w0 F hF => ?_)
  refine TC.seq (fun K1 hK1 => ?_)
  refine TC.region ?_
  refine TL.alloc (Want.plain rfl) rfl rfl rfl z38 (fun b2 => ?_)
  change TL _ _ _ _ _ _ _ _ _ [blkA b2 (Api.ints Api.RowT.zero.flat) 38, blkA rb [v] 99]
  refine TL.nil ?_
  refine TE.next hK1 ?_
  clear hK1
  refine TC.seq (fun K2 hK2 => ?_)
  refine TC.region ?_
  refine TL.alloc (Want.plain rfl) rfl rfl rfl z38 (fun b3 => ?_)
  change TL _ _ _ _ _ _ _ _ _ [blkA b3 (Api.ints Api.RowT.zero.flat) 38, blkA b2 (Api.ints Api.RowT.zero.flat) 38, blkA rb [v] 99]
  refine TL.nil ?_
  refine TE.next hK2 ?_
  clear hK2
  refine TC.seq (fun K3 hK3 => ?_)
  refine TC.region ?_
  refine TL.v (Want.plain rfl) rfl rfl (PV.move rfl rfl) ?_
  refine TL.callP (A := [blkA rb [v] 99]) (B := [blkA b3 (Api.ints Api.RowT.zero.flat) 38, blkA b2 (Api.ints Api.RowT.zero.flat) 38]) (Want.plain rfl) rfl rfl rfl nm49 rfl (num_does rb v bs ) (fun _ s => sep_selR [2] rfl s) (fun _ d _ => (hF).more d) (fun cP HP hP => ?_) (fun vR HR hR => ?_)
  · skip
    obtain ⟨vP, rfl, rfl, hpP⟩ := hP
    change TE _ _ _ _ _ _ _ [blkA rb [vP] 99, blkA b3 (Api.ints Api.RowT.zero.flat) 38, blkA b2 (Api.ints Api.RowT.zero.flat) 38]
    refine TE.passPanic ?_
    clear hK3
    refine TE.weak (Sub.refl _) (fun _ s => sep_keep [0] rfl s) ?_
    refine TE.panicked ?_
    exact ⟨_, rfl, rfl, by rw [rowP, pb_none hpP]⟩
  obtain ⟨a1, r1, v1, rfl, rfl, hp1, ht1⟩ := hR
  change TL _ _ _ _ _ _ _ _ _ [blkA rb [v1] 99, blkA b3 (Api.ints Api.RowT.zero.flat) 38, blkA b2 (Api.ints Api.RowT.zero.flat) 38]
  have hf1 := ht1 _ hF
  refine TL.v (Want.plain rfl) rfl rfl (PV.fieldAddr (r := 0) rfl Try.underlying38 rfl sz3 rfl rfl) ?_
  refine TL.store (vs := [.int .i64 a1]) (i := 1) (H' := [blkA rb [v1] 99, blkA b3 (ints (({ Api.RowT.zero with version := a1 } : RowT)).flat) 38, blkA b2 (Api.ints Api.RowT.zero.flat) 38]) (Want.plain rfl) rfl rfl rfl rfl rfl sz3 (ints_one [a1]) rfl rfl (by rw [RowT.len]; show _ + 1 ≤ 174; omega) (RowT.wr_version _ _) rfl ?_
  refine TL.nil ?_
  refine TE.next hK3 ?_
  clear hK3
  refine TC.seq (fun K4 hK4 => ?_)
  refine TC.seq (fun K5 hK5 => ?_)
  refine TC.region ?_
  refine TL.v (Want.plain rfl) rfl rfl (PV.move rfl rfl) ?_
  refine TL.nil ?_
  refine TE.next hK5 ?_
  clear hK5
  refine TC.block ?_
  refine TC.loop (α := (Nat) × (RowT) × (Value) × (List UInt8)) (fun ⟨k, x, u, r⟩ => k ≤ 4 ∧ IsB u r F ∧ Tail v bs u r ∧ rowP bs = pb (cellsP (4 - k) k x) (heirsP 5 0) r) (fun ⟨k, x, u, r⟩ => [(0, (.pointer (some ⟨rb, 0, none⟩))), (2, (.pointer (some ⟨b2, 0, none⟩))), (3, (.pointer (some ⟨b3, 0, none⟩))), (10, (.int .i64 ((k : Nat))))]) (fun ⟨k, x, u, r⟩ => [blkA b3 (ints (x).flat) 38, blkA b2 (Api.ints Api.RowT.zero.flat) 38, blkA rb [u] 99]) (fun ⟨k, x, u, r⟩ => 4 - k) (0, ({ Api.RowT.zero with version := a1 } : RowT), v1, r1)
      ⟨by omega, hf1, ht1, by rw [rowP, pb_some hp1]⟩ (Sub.r (Sub.r (Sub.r (Sub.cons rfl (by congr 1) (Sub.nil _)))))
      (fun _ s => sep_keep [1, 1, 0] rfl s) (fun ⟨k, x, u, r⟩ hinv => ?_)
  obtain ⟨hk, hf, htl, hp⟩ := hinv
  refine TC.seq (fun K6 hK6 => ?_)
  refine TC.region ?_
  refine TL.v (Want.plain rfl) rfl rfl (PV.lss rfl rfl rfl) ?_
  refine TL.dec (fun h11 => ?_) (fun h11 => ?_)
  · skip
    refine TL.nil ?_
    refine TE.next hK6 ?_
    clear hK6
    refine TC.seq (fun K7 hK7 => ?_)
    refine TC.yes rfl ?_
    refine TC.skip ?_
    refine TE.next hK7 ?_
    clear hK7
    refine TC.seq (fun K8 hK8 => ?_)
    refine TC.block ?_
    refine TC.seq (fun K9 hK9 => ?_)
    refine TC.region ?_
    refine TL.v (Want.plain rfl) rfl rfl (PV.move rfl rfl) ?_
    refine TL.v (Want.plain rfl) rfl rfl (PV.assign rfl rfl) ?_
    refine TL.nil ?_
    refine TE.next hK9 ?_
    clear hK9
    refine TC.region ?_
    refine TL.v (Want.plain rfl) rfl rfl (PV.move rfl rfl) ?_
    refine TL.v (Want.plain rfl) rfl rfl (PV.move rfl rfl) ?_
    refine TL.callP (A := [blkA rb [u] 99]) (B := [blkA b3 (ints (x).flat) 38, blkA b2 (Api.ints Api.RowT.zero.flat) 38]) (Want.plain rfl) rfl rfl rfl nm60 rfl (rcell_does rb u r ) (fun _ s => sep_selR [2] rfl s) (fun _ d _ => (hf).more d) (fun cP HP hP => ?_) (fun vR HR hR => ?_)
    · skip
      obtain ⟨vP, rfl, rfl, hpP⟩ := hP
      change TE _ _ _ _ _ _ _ [blkA rb [vP] 99, blkA b3 (ints (x).flat) 38, blkA b2 (Api.ints Api.RowT.zero.flat) 38]
      refine TE.blockPanic ?_
      refine TE.passPanic ?_
      clear hK8
      refine TE.passPanic ?_
      refine TE.blockPanic ?_
      refine TE.passPanic ?_
      clear hK4
      refine TE.weak (Sub.refl _) (fun _ s => sep_keep [0] rfl s) ?_
      refine TE.panicked ?_
      exact ⟨_, rfl, rfl, by rw [hp, cellsP_stop (by omega) hpP]⟩
    obtain ⟨a2, r2, v2, rfl, rfl, hp2, ht2⟩ := hR
    change TL _ _ _ _ _ _ _ _ _ [blkA rb [v2] 99, blkA b3 (ints (x).flat) 38, blkA b2 (Api.ints Api.RowT.zero.flat) 38]
    have hf2 := ht2 _ hf
    refine TL.v (Want.plain rfl) rfl rfl (PV.fieldAddr (r := 1) rfl Try.underlying38 rfl sz35 rfl rfl) ?_
    refine TL.v (Want.plain rfl) rfl rfl (PV.indexArr (r := 1 + k * 7) rfl Try.underlying35 sz34 rfl rfl (by omega) (by omega) (by omega)) ?_
    refine TL.store (vs := ints a2.flat) (i := 1) (H' := [blkA rb [v2] 99, blkA b3 (ints (({ x with cells := (x).cells.set k a2 (by omega) } : RowT)).flat) 38, blkA b2 (Api.ints Api.RowT.zero.flat) 38]) (Want.plain rfl) rfl rfl rfl rfl rfl (by rw [CellT.len]; exact sz34) (ints_one _) rfl rfl (by rw [RowT.len, CellT.len]; omega) (RowT.wr_cell _ k (by omega) _) rfl ?_
    refine TL.nil ?_
    refine TE.blockEnd ?_
    refine TE.next hK8 ?_
    clear hK8
    refine TC.region ?_
    refine TL.v (Want.plain rfl) rfl rfl (PV.add rfl rfl rfl (wrap_i64 (by omega) (by omega))) ?_
    refine TL.v (Want.plain rfl) rfl rfl (PV.move rfl rfl) ?_
    refine TL.nil ?_
    exact TE.round ((k + 1, ({ x with cells := (x).cells.set k a2 (by omega) } : RowT), v2, r2) : (Nat) × (RowT) × (Value) × (List UInt8)) ⟨by omega, hf2, (htl.trans ht2), by rw [hp, cellsP_step (by omega) hp2]⟩ (by show _ - _ < _ - _; omega)
      (Sub.r (Sub.r (Sub.r (Sub.r (Sub.nil _)))))
      (fun _ s => sep_keep [1, 1, 0] rfl s)
  · skip
    refine TL.nil ?_
    refine TE.next hK6 ?_
    clear hK6
    refine TC.seq (fun K10 hK10 => ?_)
    refine TC.no rfl ?_
    refine TC.exit ?_
    refine TE.pass ?_
    clear hK10
    refine TE.pass ?_
    refine TE.hit ?_
    refine TE.next hK4 ?_
    clear hK4
    refine TC.seq (fun K11 hK11 => ?_)
    refine TC.seq (fun K12 hK12 => ?_)
    refine TC.region ?_
    refine TL.v (Want.plain rfl) rfl rfl (PV.move rfl rfl) ?_
    refine TL.nil ?_
    refine TE.next hK12 ?_
    clear hK12
    refine TC.block ?_
    refine TC.loop (α := (Nat) × (RowT) × (Value) × (List UInt8)) (fun ⟨i, x, u, r⟩ => i ≤ 5 ∧ IsB u r F ∧ Tail v bs u r ∧ rowP bs = heirsP (5 - i) i x r) (fun ⟨i, x, u, r⟩ => [(0, (.pointer (some ⟨rb, 0, none⟩))), (2, (.pointer (some ⟨b2, 0, none⟩))), (3, (.pointer (some ⟨b3, 0, none⟩))), (19, (.int .i64 ((i : Nat))))]) (fun ⟨i, x, u, r⟩ => [blkA b3 (ints (x).flat) 38, blkA b2 (Api.ints Api.RowT.zero.flat) 38, blkA rb [u] 99]) (fun ⟨i, x, u, r⟩ => 5 - i) (0, x, u, r)
        ⟨by omega, hf, htl, by rw [hp, cellsP_end (by omega)]⟩ (Sub.r (Sub.r (Sub.r (Sub.cons rfl (by congr 1) (Sub.nil _)))))
        (fun _ s => sep_keep [0, 0, 0] rfl s) (fun ⟨i, x, u, r⟩ hinv => ?_)
    obtain ⟨hi, hf, htl, hp⟩ := hinv
    refine TC.seq (fun K13 hK13 => ?_)
    refine TC.region ?_
    refine TL.v (Want.plain rfl) rfl rfl (PV.lss rfl rfl rfl) ?_
    refine TL.dec (fun h20 => ?_) (fun h20 => ?_)
    · skip
      refine TL.nil ?_
      refine TE.next hK13 ?_
      clear hK13
      refine TC.seq (fun K14 hK14 => ?_)
      refine TC.yes rfl ?_
      refine TC.skip ?_
      refine TE.next hK14 ?_
      clear hK14
      refine TC.seq (fun K15 hK15 => ?_)
      refine TC.block ?_
      refine TC.seq (fun K16 hK16 => ?_)
      refine TC.region ?_
      refine TL.v (Want.plain rfl) rfl rfl (PV.move rfl rfl) ?_
      refine TL.v (Want.plain rfl) rfl rfl (PV.assign rfl rfl) ?_
      refine TL.nil ?_
      refine TE.next hK16 ?_
      clear hK16
      refine TC.seq (fun K17 hK17 => ?_)
      refine TC.region ?_
      refine TL.v (Want.plain rfl) rfl rfl (PV.move rfl rfl) ?_
      refine TL.v (Want.plain rfl) rfl rfl (PV.move rfl rfl) ?_
      refine TL.callP (A := [blkA rb [u] 99]) (B := [blkA b3 (ints (x).flat) 38, blkA b2 (Api.ints Api.RowT.zero.flat) 38]) (Want.plain rfl) rfl rfl rfl nm49 rfl (num_does rb u r ) (fun _ s => sep_selR [2] rfl s) (fun _ d _ => (hf).more d) (fun cP HP hP => ?_) (fun vR HR hR => ?_)
      · skip
        obtain ⟨vP, rfl, rfl, hpP⟩ := hP
        change TE _ _ _ _ _ _ _ [blkA rb [vP] 99, blkA b3 (ints (x).flat) 38, blkA b2 (Api.ints Api.RowT.zero.flat) 38]
        refine TE.passPanic ?_
        clear hK17
        refine TE.blockPanic ?_
        refine TE.passPanic ?_
        clear hK15
        refine TE.passPanic ?_
        refine TE.blockPanic ?_
        refine TE.passPanic ?_
        clear hK11
        refine TE.weak (Sub.refl _) (fun _ s => sep_keep [0] rfl s) ?_
        refine TE.panicked ?_
        exact ⟨_, rfl, rfl, by rw [hp, heirsP_stop (by omega) hpP]⟩
      obtain ⟨a2, r2, v2, rfl, rfl, hp2, ht2⟩ := hR
      change TL _ _ _ _ _ _ _ _ _ [blkA rb [v2] 99, blkA b3 (ints (x).flat) 38, blkA b2 (Api.ints Api.RowT.zero.flat) 38]
      have hf2 := ht2 _ hf
      refine TL.v (Want.plain rfl) rfl rfl (PV.fieldAddr (r := 29) rfl Try.underlying38 rfl sz23 rfl rfl) ?_
      refine TL.v (Want.plain rfl) rfl rfl (PV.indexArr (r := 29 + i) rfl Try.underlying23 sz3 rfl rfl (by omega) (by omega) (by omega)) ?_
      refine TL.store (vs := [.int .i64 a2]) (i := 1) (H' := [blkA rb [v2] 99, blkA b3 (ints (({ x with heir := (x).heir.set i a2 } : RowT)).flat) 38, blkA b2 (Api.ints Api.RowT.zero.flat) 38]) (Want.plain rfl) rfl rfl rfl rfl rfl sz3 (ints_one [a2]) rfl rfl (by rw [RowT.len]; show _ + 1 ≤ 174; omega) (RowT.wr_heir _ i (by omega) _) rfl ?_
      refine TL.nil ?_
      refine TE.next hK17 ?_
      clear hK17
      refine TC.seq (fun K18 hK18 => ?_)
      refine TC.region ?_
      refine TL.v (Want.plain rfl) rfl rfl (PV.move rfl rfl) ?_
      refine TL.v (Want.plain rfl) rfl rfl (PV.fieldAddr (r := 29) rfl Try.underlying38 rfl sz23 rfl rfl) ?_
      refine TL.v (Want.plain rfl) rfl rfl (PV.indexArr (r := 29 + i) rfl Try.underlying23 sz3 rfl rfl (by omega) (by omega) (by omega)) ?_
      refine TL.v (Want.plain rfl) rfl rfl (PV.load1 (v := (.int .i64 (a2))) rfl Try.underlying3 rfl rfl (Rd.own 1 rfl rfl) (by rw [RowT.get_heir _ i (by omega)]; simp)) ?_
      refine TL.v (Want.plain rfl) rfl rfl (PV.gtr rfl rfl rfl) ?_
      refine TL.dec (fun h31 => ?_) (fun h31 => ?_)
      · skip
        refine TL.nil ?_
        refine TE.next hK18 ?_
        clear hK18
        refine TC.yes rfl ?_
        refine TC.seq (fun K19 hK19 => ?_)
        refine TC.region ?_
        refine TL.v (Want.plain rfl) rfl rfl (PV.move rfl rfl) ?_
        refine TL.nil ?_
        refine TE.next hK19 ?_
        clear hK19
        refine TC.block ?_
        refine TC.loop (α := (Nat) × (RowT) × (Value) × (List UInt8)) (fun ⟨k, y, uL, rL⟩ => k ≤ 4 ∧ IsB uL rL F ∧ Tail v bs uL rL ∧ rowP bs = pb (leftP (4 - k) i k y) (heirsP (5 - (i + 1)) (i + 1)) rL) (fun ⟨k, y, uL, rL⟩ => [(0, (.pointer (some ⟨rb, 0, none⟩))), (2, (.pointer (some ⟨b2, 0, none⟩))), (3, (.pointer (some ⟨b3, 0, none⟩))), (5, (.int .i64 ((i : Nat)))), (19, (.int .i64 ((i : Nat)))), (32, (.int .i64 ((k : Nat))))]) (fun ⟨k, y, uL, rL⟩ => [blkA b3 (ints (y).flat) 38, blkA b2 (Api.ints Api.RowT.zero.flat) 38, blkA rb [uL] 99]) (fun ⟨k, y, uL, rL⟩ => 4 - k) (0, ({ x with heir := (x).heir.set i a2 } : RowT), v2, r2)
            ⟨by omega, hf2, (htl.trans ht2), by rw [hp, heirsP_yes (by omega) hp2 h31]⟩ (Sub.r (Sub.r (Sub.r (Sub.r (Sub.r (Sub.cons rfl (by congr 1) (Sub.nil _)))))))
            (fun _ s => sep_keep [1, 1, 0] rfl s) (fun ⟨k, y, uL, rL⟩ hinv => ?_)
        obtain ⟨hk, hfL, htlL, hpL⟩ := hinv
        refine TC.seq (fun K20 hK20 => ?_)
        refine TC.region ?_
        refine TL.v (Want.plain rfl) rfl rfl (PV.lss rfl rfl rfl) ?_
        refine TL.dec (fun h33 => ?_) (fun h33 => ?_)
        · skip
          refine TL.nil ?_
          refine TE.next hK20 ?_
          clear hK20
          refine TC.seq (fun K21 hK21 => ?_)
          refine TC.yes rfl ?_
          refine TC.skip ?_
          refine TE.next hK21 ?_
          clear hK21
          refine TC.seq (fun K22 hK22 => ?_)
          refine TC.block ?_
          refine TC.seq (fun K23 hK23 => ?_)
          refine TC.region ?_
          refine TL.v (Want.plain rfl) rfl rfl (PV.move rfl rfl) ?_
          refine TL.v (Want.plain rfl) rfl rfl (PV.assign rfl rfl) ?_
          refine TL.nil ?_
          refine TE.next hK23 ?_
          clear hK23
          refine TC.draw (fun w => Frm F w ∧ True) mixed rfl (fun _ s => ⟨Frm.of s, trivial⟩) ?_
          refine TD.take (i := 0) rfl (by kernel_rfl) (by kernel_rfl) (by kernel_rfl) (fun _ _ _ _ h => h) (Want.plain rfl) rfl rfl (PV.move rfl rfl) ?_
          refine TD.take (i := 1) rfl (by kernel_rfl) (by kernel_rfl) (by kernel_rfl) (fun _ _ _ _ h => h) (Want.plain rfl) rfl rfl (PV.move rfl rfl) ?_
          refine TD.take (i := 2) rfl (by kernel_rfl) (by kernel_rfl) (by kernel_rfl) (fun _ _ _ _ h => h) (Want.plain rfl) rfl rfl (PV.move rfl rfl) ?_
          refine TD.take (i := 4) rfl (by kernel_rfl) (by kernel_rfl) (by kernel_rfl) (fun _ _ _ _ h => h) (Want.plain rfl) rfl rfl (PV.fieldAddr (r := 34) rfl Try.underlying38 rfl sz36 rfl rfl) ?_
          refine TD.take (i := 5) rfl (by kernel_rfl) (by kernel_rfl) (by kernel_rfl) (fun _ _ _ _ h => h) (Want.plain rfl) rfl rfl (PV.indexArr (r := 34 + i * 28) rfl Try.underlying36 sz35 rfl rfl (by omega) (by omega) (by omega)) ?_
          refine TD.all [3] (by kernel_rfl) rfl ?_
          refine AllT.cons rfl ?_ ?_
          · skip
            refine TL.callP (A := [blkA rb [uL] 99]) (B := [blkA b3 (ints (y).flat) 38, blkA b2 (Api.ints Api.RowT.zero.flat) 38]) (Want.plain rfl) rfl rfl rfl nm60 rfl (rcell_does rb uL rL ) (fun _ s => sep_selR [2] rfl s) (fun _ d _ => (hfL).more d) (fun cP HP hP => ?_) (fun vR HR hR => ?_)
            · skip
              obtain ⟨vP, rfl, rfl, hpP⟩ := hP
              change TE _ _ _ _ _ _ _ [blkA rb [vP] 99, blkA b3 (ints (y).flat) 38, blkA b2 (Api.ints Api.RowT.zero.flat) 38]
              refine TE.passPanic ?_
              refine TE.blockPanic ?_
              refine TE.passPanic ?_
              clear hK22
              refine TE.passPanic ?_
              refine TE.blockPanic ?_
              refine TE.blockPanic ?_
              refine TE.passPanic ?_
              clear hK15
              refine TE.passPanic ?_
              refine TE.blockPanic ?_
              refine TE.passPanic ?_
              clear hK11
              refine TE.weak (Sub.refl _) (fun _ s => sep_keep [0] rfl s) ?_
              refine TE.panicked ?_
              exact ⟨_, rfl, rfl, by rw [hpL, leftP_stop (by omega) hpP]⟩
            obtain ⟨a3, r3, v3, rfl, rfl, hp3, ht3⟩ := hR
            change TL _ _ _ _ _ _ _ _ _ [blkA rb [v3] 99, blkA b3 (ints (y).flat) 38, blkA b2 (Api.ints Api.RowT.zero.flat) 38]
            have hf3 := ht3 _ hfL
            refine TL.nil ?_
            refine TE.draw (fun _ s => ⟨Frm.of s, trivial⟩) ?_
            refine TD.take (i := 6) rfl (by kernel_rfl) (by kernel_rfl) (by kernel_rfl) (fun _ _ _ _ h => h) (Want.plain rfl) rfl rfl (PV.indexArr (r := 34 + i * 28 + k * 7) rfl Try.underlying35 sz34 rfl rfl (by omega) (by omega) (by omega)) ?_
            refine TD.all [7] (by kernel_rfl) rfl ?_
            refine AllT.cons rfl ?_ ?_
            · skip
              refine TL.store (vs := ints a3.flat) (i := 1) (H' := [blkA rb [v3] 99, blkA b3 (ints (({ y with left := (y).left.set i (((y).left[i]'(by omega)).set k a3 (by omega)) (by omega) } : RowT)).flat) 38, blkA b2 (Api.ints Api.RowT.zero.flat) 38]) (Want.plain rfl) rfl rfl rfl rfl rfl (by rw [CellT.len]; exact sz34) (ints_one _) rfl rfl (by rw [RowT.len, CellT.len]; omega) (RowT.wr_left _ i k (by omega) (by omega) _) rfl ?_
              refine TL.nil ?_
              refine TE.draw (fun _ s => ⟨Frm.of s, trivial⟩) ?_
              refine TD.done (by kernel_rfl) ?_
              refine TE.blockEnd ?_
              refine TE.next hK22 ?_
              clear hK22
              refine TC.region ?_
              refine TL.v (Want.plain rfl) rfl rfl (PV.add rfl rfl rfl (wrap_i64 (by omega) (by omega))) ?_
              refine TL.v (Want.plain rfl) rfl rfl (PV.move rfl rfl) ?_
              refine TL.nil ?_
              exact TE.round ((k + 1, ({ y with left := (y).left.set i (((y).left[i]'(by omega)).set k a3 (by omega)) (by omega) } : RowT), v3, r3) : (Nat) × (RowT) × (Value) × (List UInt8)) ⟨by omega, hf3, (htlL.trans ht3), by rw [hpL, leftP_step (by omega) (by omega) hp3]⟩ (by show _ - _ < _ - _; omega)
                (Sub.r (Sub.r (Sub.r (Sub.r (Sub.r (Sub.r (Sub.nil _)))))))
                (fun _ s => sep_keep [1, 1, 0] rfl s)
            exact AllT.nil
          exact AllT.nil
        · skip
          refine TL.nil ?_
          refine TE.next hK20 ?_
          clear hK20
          refine TC.seq (fun K24 hK24 => ?_)
          refine TC.no rfl ?_
          refine TC.exit ?_
          refine TE.pass ?_
          clear hK24
          refine TE.pass ?_
          refine TE.hit ?_
          refine TE.blockEnd ?_
          refine TE.next hK15 ?_
          clear hK15
          refine TC.region ?_
          refine TL.v (Want.plain rfl) rfl rfl (PV.add rfl rfl rfl (wrap_i64 (by omega) (by omega))) ?_
          refine TL.v (Want.plain rfl) rfl rfl (PV.move rfl rfl) ?_
          refine TL.nil ?_
          exact TE.round ((i + 1, y, uL, rL) : (Nat) × (RowT) × (Value) × (List UInt8)) ⟨by omega, hfL, htlL, by rw [hpL, leftP_end (by omega)]⟩ (by show _ - _ < _ - _; omega)
            (Sub.r (Sub.r (Sub.r (Sub.r (Sub.nil _)))))
            (fun _ s => sep_keep [0, 0, 0] rfl s)
      · skip
        refine TL.nil ?_
        refine TE.next hK18 ?_
        clear hK18
        refine TC.no rfl ?_
        refine TC.skip ?_
        refine TE.blockEnd ?_
        refine TE.next hK15 ?_
        clear hK15
        refine TC.region ?_
        refine TL.v (Want.plain rfl) rfl rfl (PV.add rfl rfl rfl (wrap_i64 (by omega) (by omega))) ?_
        refine TL.v (Want.plain rfl) rfl rfl (PV.move rfl rfl) ?_
        refine TL.nil ?_
        exact TE.round ((i + 1, ({ x with heir := (x).heir.set i a2 } : RowT), v2, r2) : (Nat) × (RowT) × (Value) × (List UInt8)) ⟨by omega, hf2, (htl.trans ht2), by rw [hp, heirsP_no (by omega) hp2 h31]⟩ (by show _ - _ < _ - _; omega)
          (Sub.r (Sub.r (Sub.r (Sub.r (Sub.nil _)))))
          (fun _ s => sep_keep [1, 1, 0] rfl s)
    · skip
      refine TL.nil ?_
      refine TE.next hK13 ?_
      clear hK13
      refine TC.seq (fun K25 hK25 => ?_)
      refine TC.no rfl ?_
      refine TC.exit ?_
      refine TE.pass ?_
      clear hK25
      refine TE.pass ?_
      refine TE.hit ?_
      refine TE.next hK11 ?_
      clear hK11
      refine TC.seq (fun K26 hK26 => ?_)
      refine TC.region ?_
      refine TL.v (Want.plain rfl) rfl rfl (PV.loadN (vs := ints (x).flat) rfl Try.underlying38 rfl sz38 rfl (Rd.own 0 rfl rfl) (RowT.len _) (by rw [List.drop_zero, List.take_of_length_le (by rw [RowT.len]; decide)])) ?_
      refine TL.store (vs := ints (x).flat) (i := 1) (H' := [blkA b3 (ints (x).flat) 38, blkA b2 (ints (x).flat) 38, blkA rb [u] 99]) (Want.plain rfl) rfl rfl rfl rfl rfl (by rw [RowT.len]; exact sz38) (ints_one _) rfl rfl (by rw [RowT.len, Nat.zero_add, RowT.len]; decide) (wr_whole (by rw [RowT.len, RowT.len])) rfl ?_
      refine TL.nil ?_
      refine TE.next hK26 ?_
      clear hK26
      refine TC.ret ?_
      refine TE.retC (H' := [blkA rb [u] 99]) rfl rfl Try.underlying38 rfl sz38 (Rd.own 1 rfl rfl) (RowT.len _) (fun _ s => sep_keep [2] rfl s) ?_
      exact ⟨x, _, _, rfl, rfl, by rw [hp, heirsP_end (by omega)], htl⟩


end Go.Proofs.Ytdekgkmbcdlekaa
