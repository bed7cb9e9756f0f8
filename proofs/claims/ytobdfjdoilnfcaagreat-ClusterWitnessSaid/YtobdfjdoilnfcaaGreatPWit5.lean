/-
  Joined texts: what a statement's proof reaches.
-/
import Derived.Test.YtobdfjdoilnfcaaGreatPWit4
set_option maxHeartbeats 8000000
section
namespace Go.Proofs.YtobdfjdoilnfcaaGreat

open Go Leg Codec Api Dsk Wal

set_option linter.unusedSimpArgs false
set_option linter.unusedVariables false

set_option maxRecDepth 100000

set_option maxHeartbeats 8000000

structure SendOk (T : Nat) (ov : Value) (sf : Nat) (E : List SaidT → HP) : Prop where
  me : IsMethod Tryz.prog T ov "Send" sf
  nm : Named Tryz.prog sf
  send : ∀ (l : List SaidT) (to' : Int) (m : MsgT), l.length ≤ 1000000 → Leg.Does Tryz.prog sf #[ov, .int .i64 to', .agg (ints m.flat).toArray] (fun _ => True) [E l] (Ret (fun _ H => H = [E (l ++ [SaidT.mk to' m])]))
abbrev dkL (d : Nat) (recs : List (List UInt8)) : HP := pack (fun D : { D : DS // LogD D recs ∧ D.dn = false ∧ D.ar = false } => [dk d D.1])
abbrev lgL (lg d : Nat) (recs : List (List UInt8)) : HP := lgP lg d (((recs).length : Nat) : Int) ((sizeS (recs) : Nat) : Int)
def PutOk (lg d : Nat) (E : List (List UInt8) → List SaidT → HP) : Prop := ∀ (x : Value) (bs : List UInt8) (recs : List (List UInt8)) (l : List SaidT), sizeS recs + piecesN bs.length ≤ 2048 → bs.length ≤ 3000 →
  Leg.Does Tryz.prog 143 #[.pointer (some ⟨lg, 0, none⟩), x] (IsW x bs) [lgL lg d recs, E recs l] (Ret (fun v H => v = .int .i64 0 ∧ H = [lgL lg d (recs ++ [bs]), E (recs ++ [bs]) l]))
theorem SaidT.flat_length (x : SaidT) : x.flat.length = 193 := ints_len (SaidT.len x)
theorem ReplyT.flat_length (x : ReplyT) : x.flat.length = 3 := rfl

theorem send_does (r : Nat) (T : Nat) (ov : Value) (sf : Nat) (E : List SaidT → HP) (hS : SendOk T ov sf E) (x : RepT) (to' : Int) (m : MsgT) (l : List SaidT) (hl : l.length ≤ 1000000) (hto : to' ≠ x.id) :
    Leg.Does Tryz.prog 117 #[(.pointer (some ⟨r, 0, none⟩)), (.iface T ov), (.int .i64 (to')), (.agg (ints m.flat).toArray)] (fun _ => True) [blkA r (RepT.cells x) 102, E (l)] (Ret (fun _ H => H = [blkA r (RepT.cells x) 102, E (l ++ [SaidT.mk to' m])])) := by
 refine Leg.Does.body (n := 28) Tryz.func117 rfl rfl rfl (fun w0 F hF => ?_)
 refine sr fun _ J1 => ?_
 refine TL.box (Want.plain rfl) rfl rfl rfl rfl (fun b7 => ?_)
 change TL _ _ _ _ _ _ _ _ _ [blkA b7 (ints m.flat) 146, blkA r (RepT.cells x) 102, E (l)]
 refine nx J1 ?_
 refine TC.seq fun _ J2 => ?_
 refine sr fun _ J3 => ?_
 refine PS ?_
 refine PS ?_
 refine PS ?_
 refine FA 0 Tryz.underlying102 sz3 ?_
 refine tp (PV.load1 (v := (.int .i64 (x.id))) rfl Tryz.underlying3 rfl rfl (RO 1) (RepT.at_id x rfl)) ?_
 refine PS ?_
 refine TL.dec (fun h13 => ?_) (fun h13 => ?_)
 · exact absurd h13 hto
 refine nx J3 ?_
 refine CN ?_
 refine CX J2 ?_
 refine sr fun _ J4 => ?_
 refine PS ?_
 refine tp (PV.ifaceNotNil rfl Tryz.underlying136 rfl) ?_
 refine nx J4 ?_
 refine CY ?_
 refine TC.region ?_
 refine PS ?_
 refine PS ?_
 refine tp (PV.loadN (vs := ints m.flat) rfl Tryz.underlying146 rfl sz146 rfl (RO 0) (MsgT.len m) (whole (MsgT.len m))) ?_
 refine TL.callI (Want.plain rfl) rfl rfl rfl rfl hS.me hS.nm rfl (hS.send (l) to' m hl) (fun _ s => sep_selR [2] rfl s) (fun _ _ _ => trivial) (fun vR HR hR => ?_)
 obtain rfl := hR
 refine TL.nil ?_
 refine WK [2, 0] ?_
 refine TE.end0 rfl ?_
 exact rfl
theorem wit2_does (who : Int) (hm : machB who = true) : Leg.Does Tryz.prog 21 #[.int .i64 who] (fun _ => True) [] (Ret (fun r' H => ∃ u, r' = u ∧ H = [own u 2 [.int .i64 ((who + 1) % 5), .int .i64 ((who + 2) % 5)] 3 1])) := by
  have := witnesses_does who
  rw [show witL who = [(who + 1) % 5, (who + 2) % 5] by rw [witL, if_pos hm]] at this
  exact this

theorem tellRow_does (r : Nat) (T : Nat) (ov : Value) (sf : Nat) (E : List SaidT → HP) (hS : SendOk T ov sf E) (x : RepT) (l : List SaidT) (hl : l.length ≤ 900000) (hid : machB x.id = true) :
    Leg.Does Tryz.prog 77 #[(.pointer (some ⟨r, 0, none⟩)), (.iface T ov)] (fun _ => True) [blkA r (RepT.cells x) 102, E (l)] (Ret (fun _ H => H = [blkA r (RepT.cells x) 102, E (l ++ tellL x)])) := by
 refine Leg.Does.body (n := 40) Tryz.func77 rfl rfl rfl (fun w0 F hF => ?_)
 have hid2 : 0 ≤ x.id ∧ x.id < 5 := of_decide_eq_true hid
 refine TC.seq fun _ J1 => ?_
 refine D1 0 mixed ?_
 refine PD 0 ?_
 refine PD 1 ?_
 refine FD 2 0 Tryz.underlying102 sz3 ?_
 refine ta 3 rfl (PV.load1 (v := (.int .i64 (x.id))) rfl Tryz.underlying3 rfl rfl (fun _ h => h.2.1) (RepT.at_id x rfl)) ?_
 refine PD 4 ?_
 refine PD 5 ?_
 refine FD 6 9 Tryz.underlying102 sz64 ?_
 refine ta 7 rfl (PV.loadN (vs := ints x.own.flat) rfl Tryz.underlying64 rfl sz64 rfl (fun _ h => h.2.1) (RowT.len x.own) (RepT.sub_own x 0 rfl (by decide) (whole (RowT.len x.own)))) ?_
 refine ta 8 rfl (PV.buildSegs (cs := ints (MsgT.mk 0 x.id x.own 0 0 BallotT.zero BallotT.zero ChangeT.zero ViewT.zero).flat) (segs := [[Value.int .i64 0], [Value.int .i64 0], ints RowT.zero.flat, [Value.int .i64 0], [Value.int .i64 0], ints BallotT.zero.flat, ints BallotT.zero.flat, ints ChangeT.zero.flat, ints ViewT.zero.flat]) (res := [[Value.int .i64 0], [Value.int .i64 x.id], ints x.own.flat, [Value.int .i64 0], [Value.int .i64 0], ints BallotT.zero.flat, ints BallotT.zero.flat, ints ChangeT.zero.flat, ints ViewT.zero.flat]) (parts := [(0, [Value.int .i64 0]), (1, [Value.int .i64 x.id]), (2, ints x.own.flat)]) rfl rfl Tryz.underlying146 (by kernel_rfl) (by kernel_rfl) rfl (putSegs_step rfl ((rfl : [Value.int .i64 0].length = 1).trans (rfl : [Value.int .i64 0].length = 1).symm) (putSegs_step rfl ((rfl : [Value.int .i64 x.id].length = 1).trans (rfl : [Value.int .i64 0].length = 1).symm) (putSegs_step rfl ((RowT.len x.own).trans (RowT.len RowT.zero).symm) putSegs_nil))) (MsgT.eq (MsgT.mk 0 x.id x.own 0 0 BallotT.zero BallotT.zero ChangeT.zero ViewT.zero)).symm) ?_
 refine TD.all [9] (by kernel_rfl) rfl ?_
 refine AllT.cons rfl ?_ ?_
 refine TL.alloc (Want.plain rfl) rfl rfl rfl z146 (fun b4 => ?_)
 change TL _ _ _ _ _ _ _ _ _ [blkA b4 (ints MsgT.zero.flat) 146, blkA r (RepT.cells x) 102, E (l)]
 refine TL.nil ?_
 refine E1 1 ?_
 refine TD.all [10] (by kernel_rfl) rfl ?_
 refine AllT.cons rfl ?_ ?_
 refine TL.store (vs := ints (MsgT.mk 0 x.id x.own 0 0 BallotT.zero BallotT.zero ChangeT.zero ViewT.zero).flat) (i := 0) (Want.plain rfl) rfl rfl rfl rfl rfl (by rw [(MsgT.len (MsgT.mk 0 x.id x.own 0 0 BallotT.zero BallotT.zero ChangeT.zero ViewT.zero))]; exact sz146) (ints_one _) rfl rfl (by have h0 := (MsgT.len MsgT.zero); have h1 := (MsgT.len (MsgT.mk 0 x.id x.own 0 0 BallotT.zero BallotT.zero ChangeT.zero ViewT.zero)); omega) (wwhole ((MsgT.len MsgT.zero).trans (MsgT.len (MsgT.mk 0 x.id x.own 0 0 BallotT.zero BallotT.zero ChangeT.zero ViewT.zero)).symm)) rfl ?_
 refine TL.nil ?_
 refine E1 1 ?_
 refine TD.done (by kernel_rfl) ?_
 refine TE.next J1 ?_
 clear J1
 refine sr fun _ J2 => ?_
 refine PS ?_
 refine PS ?_
 refine FA 0 Tryz.underlying102 sz3 ?_
 refine tp (PV.load1 (v := (.int .i64 (x.id))) rfl Tryz.underlying3 rfl rfl (RO 1) (RepT.at_id x rfl)) ?_
 refine CR nm21 (wit2_does x.id hid) (fun _ s => s) fun vR HR hR => ?_
 obtain ⟨_, rfl, rfl⟩ := hR
 revert vR
 intro uw
 refine TL.ownLen 0 rfl rfl (fun hluw _ => ?_)
 refine TL.ownAt 0 rfl rfl (by omega) (fun gw capw hvw hcapw => ?_)
 refine tp (PV.lenV rfl Tryz.underlying50 rfl hluw) ?_
 refine PS ?_
 refine nx J2 ?_
 clear J2
 refine TC.block ?_
 refine TC.unroll 2 ?_
 refine sr fun _ J3 => ?_
 refine PS ?_
 refine nx J3 ?_
 clear J3
 refine TC.seq fun _ J4 => ?_
 refine CY ?_
 refine CX J4 ?_
 clear J4
 refine TC.seq fun _ J5 => ?_
 refine TC.block ?_
 refine sr fun _ J6 => ?_
 refine tp (PV.indexSlV (r := 0) hvw rfl Tryz.underlying50 sz3 rfl rfl (by omega) (by omega) rfl) ?_
 refine tp (PV.load1X (v := (.int .i64 (((x.id + 1) % 5)))) rfl Tryz.underlying3 rfl rfl (RdX.own 0 rfl hvw rfl) rfl) ?_
 refine PS ?_
 refine nx J6 ?_
 clear J6
 refine sr fun _ J7 => ?_
 refine PS ?_
 refine PS ?_
 refine FA 1939 Tryz.underlying102 sz3 ?_
 refine tp (PV.load1 (v := (.int .i64 (x.kept))) rfl Tryz.underlying3 rfl rfl (RO 2) (RepT.at_kept x rfl)) ?_
 refine PS ?_
 refine tp (PV.shr (r := (x.kept.fdiv (2 ^ min (((x.id + 1) % 5)).toNat IntKind.i64.bits))) rfl rfl rfl (by omega) rfl) ?_
 refine tp (PV.and (r := ((x.kept.fdiv (2 ^ min (((x.id + 1) % 5)).toNat IntKind.i64.bits)) % 2)) rfl rfl rfl (mask (k := 1) (by decide) _)) ?_
 refine PS ?_
 refine TL.dec (fun h33 => ?_) (fun h33 => ?_)
 refine nx J7 ?_
 clear J7
 refine CY ?_
 refine TC.region ?_
 refine PS ?_
 refine PS ?_
 refine PS ?_
 refine tp (PV.loadN (vs := ints (MsgT.mk 0 x.id x.own 0 0 BallotT.zero BallotT.zero ChangeT.zero ViewT.zero).flat) rfl Tryz.underlying146 rfl sz146 rfl (RO 1) (MsgT.len (MsgT.mk 0 x.id x.own 0 0 BallotT.zero BallotT.zero ChangeT.zero ViewT.zero)) (whole (MsgT.len (MsgT.mk 0 x.id x.own 0 0 BallotT.zero BallotT.zero ChangeT.zero ViewT.zero)))) ?_
 refine CR nm117 (send_does r T ov sf E hS x ((x.id + 1) % 5) (MsgT.mk 0 x.id x.own 0 0 BallotT.zero BallotT.zero ChangeT.zero ViewT.zero) (l) (by first | omega | (simp only [List.length_append, List.length_cons, List.length_nil]; omega)) (by omega)) (SM [2, 2]) fun vR HR hR => ?_
 obtain rfl := hR
 refine TL.nil ?_
 refine TE.blockEnd ?_
 refine TE.next J5 ?_
 clear J5
 refine TC.region ?_
 refine tp (PV.add (r := 1) rfl rfl rfl (by decide)) ?_
 refine PS ?_
 refine TL.nil ?_
 refine TE.again ?_
 refine sr fun _ J8 => ?_
 refine PS ?_
 refine nx J8 ?_
 clear J8
 refine TC.seq fun _ J9 => ?_
 refine CY ?_
 refine CX J9 ?_
 clear J9
 refine TC.seq fun _ J10 => ?_
 refine TC.block ?_
 refine sr fun _ J11 => ?_
 refine tp (PV.indexSlV (r := 1) hvw rfl Tryz.underlying50 sz3 rfl rfl (by omega) (by omega) rfl) ?_
 refine tp (PV.load1X (v := (.int .i64 (((x.id + 2) % 5)))) rfl Tryz.underlying3 rfl rfl (RdX.own 2 rfl hvw rfl) rfl) ?_
 refine PS ?_
 refine nx J11 ?_
 clear J11
 refine sr fun _ J12 => ?_
 refine PS ?_
 refine PS ?_
 refine FA 1939 Tryz.underlying102 sz3 ?_
 refine tp (PV.load1 (v := (.int .i64 (x.kept))) rfl Tryz.underlying3 rfl rfl (RO 0) (RepT.at_kept x rfl)) ?_
 refine PS ?_
 refine tp (PV.shr (r := (x.kept.fdiv (2 ^ min (((x.id + 2) % 5)).toNat IntKind.i64.bits))) rfl rfl rfl (by omega) rfl) ?_
 refine tp (PV.and (r := ((x.kept.fdiv (2 ^ min (((x.id + 2) % 5)).toNat IntKind.i64.bits)) % 2)) rfl rfl rfl (mask (k := 1) (by decide) _)) ?_
 refine PS ?_
 refine TL.dec (fun h33 => ?_) (fun h33 => ?_)
 refine nx J12 ?_
 clear J12
 refine CY ?_
 refine TC.region ?_
 refine PS ?_
 refine PS ?_
 refine PS ?_
 refine tp (PV.loadN (vs := ints (MsgT.mk 0 x.id x.own 0 0 BallotT.zero BallotT.zero ChangeT.zero ViewT.zero).flat) rfl Tryz.underlying146 rfl sz146 rfl (RO 3) (MsgT.len (MsgT.mk 0 x.id x.own 0 0 BallotT.zero BallotT.zero ChangeT.zero ViewT.zero)) (whole (MsgT.len (MsgT.mk 0 x.id x.own 0 0 BallotT.zero BallotT.zero ChangeT.zero ViewT.zero)))) ?_
 refine CR nm117 (send_does r T ov sf E hS x ((x.id + 2) % 5) (MsgT.mk 0 x.id x.own 0 0 BallotT.zero BallotT.zero ChangeT.zero ViewT.zero) (l ++ [SaidT.mk ((x.id + 1) % 5) (MsgT.mk 0 x.id x.own 0 0 BallotT.zero BallotT.zero ChangeT.zero ViewT.zero)]) (by first | omega | (simp only [List.length_append, List.length_cons, List.length_nil]; omega)) (by omega)) (fun _ s => s) fun vR HR hR => ?_
 obtain rfl := hR
 refine TL.nil ?_
 refine TE.blockEnd ?_
 refine TE.next J10 ?_
 clear J10
 refine TC.region ?_
 refine tp (PV.add (r := 2) rfl rfl rfl (by decide)) ?_
 refine PS ?_
 refine TL.nil ?_
 refine TE.again ?_
 refine sr fun _ J13 => ?_
 refine PS ?_
 refine nx J13 ?_
 clear J13
 refine TC.seq fun _ J14 => ?_
 refine CN ?_
 refine TC.exit ?_
 refine TE.pass ?_
 clear J14
 refine TE.pass ?_
 refine TE.hit ?_
 refine WK [0, 0] ?_
 refine TE.end0 rfl ?_
 exact congrArg (fun q => [blkA r (RepT.cells x) 102, E q]) (show l ++ [SaidT.mk ((x.id + 1) % 5) (MsgT.mk 0 x.id x.own 0 0 BallotT.zero BallotT.zero ChangeT.zero ViewT.zero)] ++ [SaidT.mk ((x.id + 2) % 5) (MsgT.mk 0 x.id x.own 0 0 BallotT.zero BallotT.zero ChangeT.zero ViewT.zero)] = l ++ tellL x by rw [tellL, witL, if_pos hid]; simp [bit0, rowMsg, MsgT.zero, *])
 refine nx J12 ?_
 clear J12
 refine CN ?_
 refine TC.skip ?_
 refine TE.blockEnd ?_
 refine TE.next J10 ?_
 clear J10
 refine TC.region ?_
 refine tp (PV.add (r := 2) rfl rfl rfl (by decide)) ?_
 refine PS ?_
 refine TL.nil ?_
 refine TE.again ?_
 refine sr fun _ J15 => ?_
 refine PS ?_
 refine nx J15 ?_
 clear J15
 refine TC.seq fun _ J16 => ?_
 refine CN ?_
 refine TC.exit ?_
 refine TE.pass ?_
 clear J16
 refine TE.pass ?_
 refine TE.hit ?_
 refine WK [0, 0] ?_
 refine TE.end0 rfl ?_
 exact congrArg (fun q => [blkA r (RepT.cells x) 102, E q]) (show l ++ [SaidT.mk ((x.id + 1) % 5) (MsgT.mk 0 x.id x.own 0 0 BallotT.zero BallotT.zero ChangeT.zero ViewT.zero)] = l ++ tellL x by rw [tellL, witL, if_pos hid]; simp [bit0, rowMsg, MsgT.zero, *])
 refine nx J7 ?_
 clear J7
 refine CN ?_
 refine TC.skip ?_
 refine TE.blockEnd ?_
 refine TE.next J5 ?_
 clear J5
 refine TC.region ?_
 refine tp (PV.add (r := 1) rfl rfl rfl (by decide)) ?_
 refine PS ?_
 refine TL.nil ?_
 refine TE.again ?_
 refine sr fun _ J17 => ?_
 refine PS ?_
 refine nx J17 ?_
 clear J17
 refine TC.seq fun _ J18 => ?_
 refine CY ?_
 refine CX J18 ?_
 clear J18
 refine TC.seq fun _ J19 => ?_
 refine TC.block ?_
 refine sr fun _ J20 => ?_
 refine tp (PV.indexSlV (r := 1) hvw rfl Tryz.underlying50 sz3 rfl rfl (by omega) (by omega) rfl) ?_
 refine tp (PV.load1X (v := (.int .i64 (((x.id + 2) % 5)))) rfl Tryz.underlying3 rfl rfl (RdX.own 0 rfl hvw rfl) rfl) ?_
 refine PS ?_
 refine nx J20 ?_
 clear J20
 refine sr fun _ J21 => ?_
 refine PS ?_
 refine PS ?_
 refine FA 1939 Tryz.underlying102 sz3 ?_
 refine tp (PV.load1 (v := (.int .i64 (x.kept))) rfl Tryz.underlying3 rfl rfl (RO 2) (RepT.at_kept x rfl)) ?_
 refine PS ?_
 refine tp (PV.shr (r := (x.kept.fdiv (2 ^ min (((x.id + 2) % 5)).toNat IntKind.i64.bits))) rfl rfl rfl (by omega) rfl) ?_
 refine tp (PV.and (r := ((x.kept.fdiv (2 ^ min (((x.id + 2) % 5)).toNat IntKind.i64.bits)) % 2)) rfl rfl rfl (mask (k := 1) (by decide) _)) ?_
 refine PS ?_
 refine TL.dec (fun h33 => ?_) (fun h33 => ?_)
 refine nx J21 ?_
 clear J21
 refine CY ?_
 refine TC.region ?_
 refine PS ?_
 refine PS ?_
 refine PS ?_
 refine tp (PV.loadN (vs := ints (MsgT.mk 0 x.id x.own 0 0 BallotT.zero BallotT.zero ChangeT.zero ViewT.zero).flat) rfl Tryz.underlying146 rfl sz146 rfl (RO 1) (MsgT.len (MsgT.mk 0 x.id x.own 0 0 BallotT.zero BallotT.zero ChangeT.zero ViewT.zero)) (whole (MsgT.len (MsgT.mk 0 x.id x.own 0 0 BallotT.zero BallotT.zero ChangeT.zero ViewT.zero)))) ?_
 refine CR nm117 (send_does r T ov sf E hS x ((x.id + 2) % 5) (MsgT.mk 0 x.id x.own 0 0 BallotT.zero BallotT.zero ChangeT.zero ViewT.zero) (l) (by first | omega | (simp only [List.length_append, List.length_cons, List.length_nil]; omega)) (by omega)) (SM [2, 2]) fun vR HR hR => ?_
 obtain rfl := hR
 refine TL.nil ?_
 refine TE.blockEnd ?_
 refine TE.next J19 ?_
 clear J19
 refine TC.region ?_
 refine tp (PV.add (r := 2) rfl rfl rfl (by decide)) ?_
 refine PS ?_
 refine TL.nil ?_
 refine TE.again ?_
 refine sr fun _ J22 => ?_
 refine PS ?_
 refine nx J22 ?_
 clear J22
 refine TC.seq fun _ J23 => ?_
 refine CN ?_
 refine TC.exit ?_
 refine TE.pass ?_
 clear J23
 refine TE.pass ?_
 refine TE.hit ?_
 refine WK [0, 0] ?_
 refine TE.end0 rfl ?_
 exact congrArg (fun q => [blkA r (RepT.cells x) 102, E q]) (show l ++ [SaidT.mk ((x.id + 2) % 5) (MsgT.mk 0 x.id x.own 0 0 BallotT.zero BallotT.zero ChangeT.zero ViewT.zero)] = l ++ tellL x by rw [tellL, witL, if_pos hid]; simp [bit0, rowMsg, MsgT.zero, *])
 refine nx J21 ?_
 clear J21
 refine CN ?_
 refine TC.skip ?_
 refine TE.blockEnd ?_
 refine TE.next J19 ?_
 clear J19
 refine TC.region ?_
 refine tp (PV.add (r := 2) rfl rfl rfl (by decide)) ?_
 refine PS ?_
 refine TL.nil ?_
 refine TE.again ?_
 refine sr fun _ J24 => ?_
 refine PS ?_
 refine nx J24 ?_
 clear J24
 refine TC.seq fun _ J25 => ?_
 refine CN ?_
 refine TC.exit ?_
 refine TE.pass ?_
 clear J25
 refine TE.pass ?_
 refine TE.hit ?_
 refine WK [2, 2] ?_
 refine TE.end0 rfl ?_
 exact congrArg (fun q => [blkA r (RepT.cells x) 102, E q]) (show l = l ++ tellL x by rw [tellL, witL, if_pos hid]; simp [bit0, rowMsg, MsgT.zero, *])
 exact AllT.nil
 exact AllT.nil
theorem tellNews_does (r : Nat) (T : Nat) (ov : Value) (sf : Nat) (E : List SaidT → HP) (hS : SendOk T ov sf E) (x : RepT) (y : RowT) (l : List SaidT) (hl : l.length ≤ 900000) :
    Leg.Does Tryz.prog 82 #[(.pointer (some ⟨r, 0, none⟩)), (.iface T ov), (.agg (ints y.flat).toArray)] (fun _ => True) [blkA r (RepT.cells x) 102, E (l)] (Ret (fun _ H => H = [blkA r (RepT.cells x) 102, E (l ++ newsL x.id y)])) := by
 refine Leg.Does.body (n := 27) Tryz.func82 rfl rfl rfl (fun w0 F hF => ?_)
 refine sr fun _ J1 => ?_
 refine TL.box (Want.plain rfl) rfl rfl rfl rfl (fun b5 => ?_)
 change TL _ _ _ _ _ _ _ _ _ [blkA b5 (ints y.flat) 64, blkA r (RepT.cells x) 102, E (l)]
 refine nx J1 (sr fun _ J2 => ?_)
 refine PS ?_
 refine nx J2 ?_
 refine TC.block ?_
 refine TC.loop (α := (Nat)) (fun k => k ≤ 5) (fun k => [(0, (.pointer (some ⟨r, 0, none⟩))), (1, (.iface T ov)), (5, (.pointer (some ⟨b5, 0, none⟩))), (7, (.int .i64 (((k : Nat) : Int))))]) (fun k => [blkA b5 (ints y.flat) 64, blkA r (RepT.cells x) 102, E (l ++ newsTo x.id y k)]) (fun k => 5 - k) 0
     (Nat.zero_le _) (Sub.r (Sub.r (Sub.r (Sub.cons rfl (by congr 1) (Sub.nil _)))))
     (fun _ s => by simpa [newsTo] using s) (fun k hinv => ?_)
 obtain hk := hinv
 have hnl : (newsTo x.id y k).length ≤ k := by unfold newsTo; rw [List.length_map]; exact Nat.le_trans (List.length_filter_le _ _) (by simp)
 refine sr fun _ J3 => ?_
 refine PS ?_
 refine TL.dec (fun h8 => ?_) (fun h8 => ?_)
 refine nx J3 ?_
 refine TC.seq fun _ J4 => ?_
 refine CY ?_
 refine CX J4 ?_
 refine TC.seq fun _ J5 => ?_
 refine TC.block ?_
 refine sr fun _ J6 => ?_
 refine PS ?_
 refine PS ?_
 refine nx J6 (sr fun _ J7 => ?_)
 refine PS ?_
 refine PS ?_
 refine PS ?_
 refine FA 0 Tryz.underlying102 sz3 ?_
 refine tp (PV.load1 (v := (.int .i64 (x.id))) rfl Tryz.underlying3 rfl rfl (RO 1) (RepT.at_id x rfl)) ?_
 refine PS ?_
 refine TL.dec (fun h15 => ?_) (fun h15 => ?_)
 refine nx J7 ?_
 refine CY ?_
 refine D2 1 0 mixed ?_
 refine PD 0 ?_
 refine PD 1 ?_
 refine PD 2 ?_
 refine PD 3 ?_
 refine PD 4 ?_
 refine FD 5 0 Tryz.underlying102 sz3 ?_
 refine ta 6 rfl (PV.load1 (v := (.int .i64 (x.id))) rfl Tryz.underlying3 rfl rfl (fun _ h => h.2.1) (RepT.at_id x rfl)) ?_
 refine ta 7 rfl (PV.loadN (vs := ints y.flat) rfl Tryz.underlying64 rfl sz64 rfl (fun _ h => h.2.2.1) (RowT.len y) (whole (RowT.len y))) ?_
 refine ta 8 rfl (PV.buildSegs (cs := ints (MsgT.mk 2 x.id y 0 0 BallotT.zero BallotT.zero ChangeT.zero ViewT.zero).flat) (segs := [[Value.int .i64 0], [Value.int .i64 0], ints RowT.zero.flat, [Value.int .i64 0], [Value.int .i64 0], ints BallotT.zero.flat, ints BallotT.zero.flat, ints ChangeT.zero.flat, ints ViewT.zero.flat]) (res := [[Value.int .i64 2], [Value.int .i64 x.id], ints y.flat, [Value.int .i64 0], [Value.int .i64 0], ints BallotT.zero.flat, ints BallotT.zero.flat, ints ChangeT.zero.flat, ints ViewT.zero.flat]) (parts := [(0, [Value.int .i64 2]), (1, [Value.int .i64 x.id]), (2, ints y.flat)]) rfl rfl Tryz.underlying146 (by kernel_rfl) (by kernel_rfl) rfl (putSegs_step rfl ((rfl : [Value.int .i64 2].length = 1).trans (rfl : [Value.int .i64 0].length = 1).symm) (putSegs_step rfl ((rfl : [Value.int .i64 x.id].length = 1).trans (rfl : [Value.int .i64 0].length = 1).symm) (putSegs_step rfl ((RowT.len y).trans (RowT.len RowT.zero).symm) putSegs_nil))) (MsgT.eq (MsgT.mk 2 x.id y 0 0 BallotT.zero BallotT.zero ChangeT.zero ViewT.zero)).symm) ?_
 refine TD.all [9] (by kernel_rfl) rfl ?_
 refine AllT.cons rfl ?_ ?_
 refine CR nm117 (send_does r T ov sf E hS x ((k : Nat) : Int) (MsgT.mk 2 x.id y 0 0 BallotT.zero BallotT.zero ChangeT.zero ViewT.zero) (l ++ newsTo x.id y k) (by simp only [List.length_append]; omega) h15) (SM [1, 1]) fun vR HR hR => ?_
 obtain rfl := hR
 refine TL.nil ?_
 refine E2 0 2 ?_
 refine TD.done (by kernel_rfl) ?_
 refine TE.blockEnd ?_
 refine TE.next J5 ?_
 refine TC.region ?_
 refine tp (PV.add rfl rfl rfl (wrap_i64 (by omega) (by omega))) ?_
 refine PS ?_
 refine TL.nil ?_
 exact TE.round ((k + 1) : (Nat)) (by omega) (by show 5 - (k + 1) < 5 - k; omega)
   (Sub.r (Sub.r (Sub.r (Sub.cons rfl (by simp) (Sub.nil _)))))
   (fun _ s => by
      show sep [blkA b5 (ints y.flat) 64, blkA r (RepT.cells x) 102, E (l ++ newsTo x.id y (k + 1))] _
      rw [newsTo_succ, if_neg h15]
      rw [← List.append_assoc]
      exact sep_keep [2, 0, 0] rfl s)
 exact AllT.nil
 refine nx J7 ?_
 refine CN ?_
 refine TC.skip ?_
 refine TE.blockEnd ?_
 refine TE.next J5 ?_
 refine TC.region ?_
 refine tp (PV.add rfl rfl rfl (wrap_i64 (by omega) (by omega))) ?_
 refine PS ?_
 refine TL.nil ?_
 exact TE.round ((k + 1) : (Nat)) (by omega) (by show 5 - (k + 1) < 5 - k; omega)
   (Sub.r (Sub.r (Sub.r (Sub.cons rfl (by simp) (Sub.nil _)))))
   (fun _ s => by
      show sep [blkA b5 (ints y.flat) 64, blkA r (RepT.cells x) 102, E (l ++ newsTo x.id y (k + 1))] _
      rw [newsTo_succ, if_pos (by omega)]
      rw [List.append_nil]
      exact sep_keep [0, 0, 0] rfl s)
 refine nx J3 ?_
 refine TC.seq fun _ J8 => ?_
 refine CN ?_
 refine TC.exit ?_
 refine TE.pass ?_
 refine TE.pass ?_
 refine TE.hit ?_
 refine WK [1, 1] ?_
 refine TE.end0 rfl ?_
 obtain rfl : k = 5 := by omega
 exact rfl
theorem due0_does (r : Nat) (x : RepT) (hal : Alone x) :
    Leg.Does Tryz.prog 118 #[(.pointer (some ⟨r, 0, none⟩))] (fun _ => True) [blkA r (RepT.cells x) 102] (Ret (fun r' H => r' = .slice none 0 0 ∧ H = [blkA r (RepT.cells x) 102])) := by
 refine Leg.Does.body (n := 44) Tryz.func118 rfl rfl rfl (fun w0 F hF => ?_)
 refine sr fun _ J1 => ?_
 refine PS ?_
 refine nx J1 (sr fun _ J2 => ?_)
 refine PS ?_
 refine nx J2 ?_
 refine TC.seq fun _ J3 => ?_
 refine sr fun _ J4 => ?_
 refine PS ?_
 refine nx J4 ?_
 refine TC.block ?_
 refine TC.loop (α := (Nat)) (fun k => k ≤ 5) (fun k => [(0, (.pointer (some ⟨r, 0, none⟩))), (2, (.slice none 0 0)), (3, (.slice none 0 0)), (7, (.int .i64 (((k : Nat) : Int))))]) (fun k => [blkA r (RepT.cells x) 102]) (fun k => 5 - k) 0
     (Nat.zero_le _) (Sub.r (Sub.r (Sub.r (Sub.cons rfl (by congr 1) (Sub.nil _)))))
     (fun _ s => s) (fun k hinv => ?_)
 obtain hk := hinv
 refine sr fun _ J5 => ?_
 refine PS ?_
 refine TL.dec (fun h8 => ?_) (fun h8 => ?_)
 refine nx J5 ?_
 refine TC.seq fun _ J6 => ?_
 refine CY ?_
 refine CX J6 ?_
 refine TC.seq fun _ J7 => ?_
 refine TC.block ?_
 refine sr fun _ J8 => ?_
 refine PS ?_
 refine PS ?_
 refine nx J8 (sr fun _ J9 => ?_)
 refine PS ?_
 refine PS ?_
 refine FA 2 Tryz.underlying102 sz44 ?_
 refine tp (PV.loadN (vs := ints x.view.flat) rfl Tryz.underlying44 rfl sz44 rfl (RO 0) (ViewT.len x.view) (RepT.sub_view x 0 rfl (by decide) (whole (ViewT.len x.view)))) ?_
 refine PS ?_
 refine CR nm53 (heir_does x.view ((k : Nat) : Int) hal.1) (fun _ s => s) fun vR HR hR => ?_
 obtain ⟨rfl, rfl⟩ := hR
 refine PS ?_
 refine tp (PV.extract (vs := [(.int .i64 (((heirV x.view ((k : Nat) : Int)).getD 0))), (.bool ((heirV x.view ((k : Nat) : Int)).isSome))]) rfl rfl rfl) ?_
 refine tp (PV.extract (vs := [(.int .i64 (((heirV x.view ((k : Nat) : Int)).getD 0))), (.bool ((heirV x.view ((k : Nat) : Int)).isSome))]) rfl rfl rfl) ?_
 refine TL.decB (fun h18 => ?_) (fun h18 => ?_)
 refine PS ?_
 refine PS ?_
 refine nx J9 (sr fun _ J10 => ?_)
 refine PS ?_
 refine PS ?_
 refine PS ?_
 refine PS ?_
 refine PS ?_
 refine FA 0 Tryz.underlying102 sz3 ?_
 refine tq (PV.load1 (v := (.int .i64 (x.id))) rfl Tryz.underlying3 rfl rfl (RO 0) (RepT.at_id x rfl)) ?_
 refine PS ?_
 refine TL.dec (fun h26 => ?_) (fun h26 => ?_)
 · exact absurd (by cases hq : heirV x.view ((k : Nat) : Int) with | none => rw [hq] at h18; cases h18 | some z => rw [hq] at h26; rw [← h26]; rfl) (hal.2 k (by omega))
 refine PS ?_
 refine PS ?_
 refine UF ?_
 refine UF ?_
 refine UF ?_
 refine UF ?_
 refine UF ?_
 refine UF ?_
 refine UF ?_
 refine UF ?_
 refine PS ?_
 refine nx J10 ?_
 refine CN ?_
 refine TC.skip ?_
 refine TE.blockEnd ?_
 refine TE.next J7 ?_
 refine TC.region ?_
 refine tp (PV.add rfl rfl rfl (wrap_i64 (by omega) (by omega))) ?_
 refine PS ?_
 refine TL.nil ?_
 exact TE.round ((k + 1) : (Nat)) (by omega) (by show 5 - (k + 1) < 5 - k; omega)
   (Sub.r (Sub.r (Sub.r (Sub.cons rfl (by simp) (Sub.nil _)))))
   (fun _ s => s)
 refine PS ?_
 refine PS ?_
 refine nx J9 (sr fun _ J11 => ?_)
 refine PS ?_
 refine PS ?_
 refine UF ?_
 refine UF ?_
 refine UF ?_
 refine UF ?_
 refine UF ?_
 refine UF ?_
 refine PS ?_
 refine PS ?_
 refine UF ?_
 refine UF ?_
 refine UF ?_
 refine UF ?_
 refine UF ?_
 refine UF ?_
 refine UF ?_
 refine UF ?_
 refine PS ?_
 refine nx J11 ?_
 refine CN ?_
 refine TC.skip ?_
 refine TE.blockEnd ?_
 refine TE.next J7 ?_
 refine TC.region ?_
 refine tp (PV.add rfl rfl rfl (wrap_i64 (by omega) (by omega))) ?_
 refine PS ?_
 refine TL.nil ?_
 exact TE.round ((k + 1) : (Nat)) (by omega) (by show 5 - (k + 1) < 5 - k; omega)
   (Sub.r (Sub.r (Sub.r (Sub.cons rfl (by simp) (Sub.nil _)))))
   (fun _ s => s)
 refine nx J5 ?_
 refine TC.seq fun _ J12 => ?_
 refine CN ?_
 refine TC.exit ?_
 refine TE.pass ?_
 refine TE.pass ?_
 refine TE.hit ?_
 refine TE.next J3 ?_
 refine sr fun _ J13 => ?_
 refine PS ?_
 refine PS ?_
 refine nx J13 ?_
 refine TC.ret ?_
 refine WK [0] ?_
 refine TE.ret1 rfl rfl ?_
 exact ⟨rfl, rfl⟩
theorem comeInto0_does (r : Nat) (T : Nat) (ov : Value) (x : RepT) (e : HP) (hal : Alone x) :
    Leg.Does Tryz.prog 78 #[(.pointer (some ⟨r, 0, none⟩)), (.iface T ov)] (fun _ => True) [blkA r (RepT.cells x) 102, e] (Ret (fun _ H => H = [blkA r (RepT.cells x) 102, e])) := by
 refine Leg.Does.body (n := 80) Tryz.func78 rfl rfl rfl (fun w0 F hF => ?_)
 refine sr fun _ J1 => ?_
 refine PS ?_
 refine CR nm118 (due0_does r x hal) (fun _ s => s) fun vR HR hR => ?_
 obtain ⟨rfl, rfl⟩ := hR
 refine PS ?_
 refine nx J1 ?_
 refine TC.seq fun _ J2 => ?_
 refine sr fun _ J3 => ?_
 refine PS ?_
 refine PS ?_
 refine FA 1938 Tryz.underlying102 sz4 ?_
 refine tp (PV.load1 (v := (.bool (x.busy))) rfl Tryz.underlying4 rfl rfl (RO 0) (RepT.at_busy x rfl)) ?_
 refine TL.decB (fun h19 => ?_) (fun h19 => ?_)
 refine PS ?_
 refine UT ?_
 refine UT ?_
 refine UT ?_
 refine PS ?_
 refine nx J3 ?_
 refine CY ?_
 refine TC.ret ?_
 refine TE.passRet ?_
 refine WK [0, 0] ?_
 refine TE.ret0 rfl ?_
 exact rfl
 refine PS ?_
 refine PS ?_
 refine tq (PV.lenSl rfl Tryz.underlying50 rfl) ?_
 refine PS ?_
 refine PS ?_
 refine nx J3 ?_
 refine CY ?_
 refine TC.ret ?_
 refine TE.passRet ?_
 refine WK [0, 0] ?_
 refine TE.ret0 rfl ?_
 exact rfl
theorem claim0_does (r : Nat) (T : Nat) (ov : Value) (x : RepT) (e : HP) (hal : Alone x) :
    Leg.Does Tryz.prog 79 #[(.pointer (some ⟨r, 0, none⟩)), (.iface T ov)] (fun _ => True) [blkA r (RepT.cells x) 102, e] (Ret (fun _ H => H = [blkA r (RepT.cells x) 102, e])) := by
 refine Leg.Does.body (n := 39) Tryz.func79 rfl rfl rfl (fun w0 F hF => ?_)
 refine sr fun _ J1 => ?_
 refine PS ?_
 refine CR nm118 (due0_does r x hal) (fun _ s => s) fun vR HR hR => ?_
 obtain ⟨rfl, rfl⟩ := hR
 refine tp (PV.lenSl rfl Tryz.underlying50 rfl) ?_
 refine PS ?_
 refine nx J1 ?_
 refine TC.block ?_
 refine TC.unroll 1 ?_
 refine sr fun _ J2 => ?_
 refine PS ?_
 refine nx J2 ?_
 refine TC.seq fun _ J3 => ?_
 refine CN ?_
 refine TC.exit ?_
 refine TE.pass ?_
 refine TE.pass ?_
 refine TE.hit ?_
 refine WK [0, 0] ?_
 refine TE.end0 rfl ?_
 exact rfl
end Go.Proofs.YtobdfjdoilnfcaaGreat
end

section
namespace Go.Proofs.YtobdfjdoilnfcaaGreat

open Go Leg Codec Api Dsk Wal

set_option linter.unusedSimpArgs false
set_option linter.unusedVariables false

set_option maxRecDepth 100000

set_option maxHeartbeats 8000000

theorem put_does (r lg d : Nat) (E : List (List UInt8) → List SaidT → HP) (hP : PutOk lg d E) (x : RepT) (m : RecT) (recs : List (List UInt8)) (l : List SaidT) (hlog : x.log = .pointer (some ⟨lg, 0, none⟩)) (hroom : sizeS recs + piecesN (encR m).length ≤ 2048) (hlen : (encR m).length ≤ 3000) :
    Leg.Does Tryz.prog 103 #[(.pointer (some ⟨r, 0, none⟩)), (.agg (ints m.flat).toArray)] (fun _ => True) [blkA r (RepT.cells x) 102, lgL lg d (recs), E (recs) (l)] (Ret (fun r' H => r' = .int .i64 0 ∧ H = [blkA r (RepT.cells x) 102, lgL lg d (recs ++ [encR m]), E (recs ++ [encR m]) l])) := by
 refine Leg.Does.body (n := 12) Tryz.func103 rfl rfl rfl (fun w0 F hF => ?_)
 refine sr fun _ J1 => ?_
 refine TL.box (Want.plain rfl) rfl rfl rfl rfl (fun b3 => ?_)
 change TL _ _ _ _ _ _ _ _ _ [blkA b3 (ints m.flat) 131, blkA r (RepT.cells x) 102, lgL lg d (recs), E (recs) (l)]
 refine PS ?_
 refine nx J1 ?_
 refine TC.seq fun _ J2 => ?_
 refine D2 1 0 mixed ?_
 refine PD 0 ?_
 refine PD 1 ?_
 refine FD 2 1 Tryz.underlying102 sz90 ?_
 refine ta 3 rfl (PV.load1 (v := (.pointer (some ⟨lg, 0, none⟩))) rfl Tryz.underlying90 rfl rfl (fun _ h => h.2.1) ((RepT.at_log x rfl).trans (congrArg some hlog))) ?_
 refine ta 4 rfl (PV.loadN (vs := ints m.flat) rfl Tryz.underlying131 rfl sz131 rfl (fun _ h => h.2.2.1) (RecT.len m) (whole (RecT.len m))) ?_
 refine TD.all [5] (by kernel_rfl) rfl ?_
 refine AllT.cons rfl ?_ ?_
 refine CR nm144 (record_does m) (fun _ s => s) fun vR HR hR => ?_
 obtain ⟨_, rfl, rfl⟩ := hR
 revert vR
 intro ue
 refine TL.nil ?_
 refine E2 2 1 ?_
 refine TD.all [6] (by kernel_rfl) rfl ?_
 refine AllT.cons rfl ?_ ?_
 refine CQ nm143 (hP ue (encR m) (recs) (l) hroom hlen) (SM [3, 3]) (fun g d s => IsB.w (isB_own 0 rfl rfl g d s)) fun vR HR hR => ?_
 obtain ⟨rfl, rfl⟩ := hR
 refine TL.nil ?_
 refine E2 4 3 ?_
 refine PD 7 ?_
 refine TD.done (by kernel_rfl) ?_
 refine TE.next J2 ?_
 refine TC.ret ?_
 refine WK [4, 0, 0] ?_
 refine TE.ret1 rfl rfl ?_
 exact ⟨rfl, rfl⟩
 exact AllT.nil
 exact AllT.nil
theorem reply_does (r : Nat) (x : RepT) (op err val : Int) (rs : List ReplyT) (hrs : rs.length ≤ 1000000) :
    Leg.Does Tryz.prog 68 #[(.pointer (some ⟨r, 0, none⟩)), (.int .i64 (op)), (.int .i64 (err)), (.int .i64 (val))] (fun _ => True) [blkA r (RepT.cells x) 102, own x.replies ((rs).length) (ints (List.flatMap ReplyT.flat (rs))) 37 3] (Ret (fun _ H => ∃ v', v'.oneCell' = true ∧ H = [blkA r (RepT.cells { x with replies := v' }) 102, own v' (rs ++ [ReplyT.mk op err val]).length (ints (List.flatMap ReplyT.flat (rs ++ [ReplyT.mk op err val]))) 37 3])) := by
 refine Leg.Does.body (n := 21) Tryz.func68 rfl rfl rfl (fun w0 F hF => ?_)
 refine TC.region ?_
 refine PS ?_
 refine PS ?_
 refine PS ?_
 refine FA 1942 Tryz.underlying102 sz31 ?_
 refine tp (PV.load1 (v := x.replies) rfl Tryz.underlying31 rfl rfl (RO 0) (RepT.at_replies x rfl)) ?_
 refine PS ?_
 refine PS ?_
 refine PS ?_
 refine tp (PV.buildSegs (cs := ints (ReplyT.mk op err val).flat) (segs := [[Value.int .i64 0], [Value.int .i64 0], [Value.int .i64 0]]) (res := [[Value.int .i64 op], [Value.int .i64 err], [Value.int .i64 val]]) (parts := [(0, [Value.int .i64 op]), (1, [Value.int .i64 err]), (2, [Value.int .i64 val])]) rfl rfl Tryz.underlying37 (by kernel_rfl) (by kernel_rfl) rfl (putSegs_step rfl ((rfl : [Value.int .i64 op].length = 1).trans (rfl : [Value.int .i64 0].length = 1).symm) (putSegs_step rfl ((rfl : [Value.int .i64 err].length = 1).trans (rfl : [Value.int .i64 0].length = 1).symm) (putSegs_step rfl ((rfl : [Value.int .i64 val].length = 1).trans (rfl : [Value.int .i64 0].length = 1).symm) putSegs_nil))) (ReplyT.eq (ReplyT.mk op err val)).symm) ?_
 refine TL.buildSlice (cells := (ints (ReplyT.mk op err val).flat).toArray) (Want.plain rfl) rfl rfl rfl Tryz.underlying31 in37 rfl rfl rfl (fill_at (ReplyT.len (ReplyT.mk op err val)) (by simp)) (fun b17 => ?_)
 change TL _ _ _ _ _ _ _ _ _ [blkA b17 (ints (ReplyT.mk op err val).flat) 37, blkA r (RepT.cells x) 102, own x.replies ((rs).length) (ints (List.flatMap ReplyT.flat (rs))) 37 3]
 refine TL.append (k := 2) (news := ints (ReplyT.mk op err val).flat) (nn' := (rs ++ [ReplyT.mk op err val]).length) (xs' := ints (List.flatMap ReplyT.flat (rs ++ [ReplyT.mk op err val]))) (Want.plain rfl) rfl rfl rfl Tryz.underlying31 in37 rfl rfl rfl rfl rfl rfl (fun _ _ => Src.rd (ReplyT.len _) (RO 0) (by rw [List.drop_zero, List.take_length])) (ints_one _) (by simp only [maxLen]; omega) (by omega) (by simp) (by simp [ints]) (fun v18 ov18 => ?_)
 refine PS ?_
 refine FA 1942 Tryz.underlying102 sz31 ?_
 refine TL.store1 (i := 1) (Want.plain rfl) rfl rfl rfl rfl ov18 sz31 rfl rfl (by have h0 := (RepT.len x); omega) (RepT.set_replies x rfl _) rfl ?_
 refine TL.nil ?_
 refine WK [1, 1] ?_
 refine TE.end0 rfl ?_
 exact ⟨_, ov18, rfl⟩
theorem rValue_does (r : Nat) (x : RepT) (key : Int) :
    Leg.Does Tryz.prog 23 #[(.pointer (some ⟨r, 0, none⟩)), (.int .i64 (key))] (fun _ => True) [blkA r (RepT.cells x) 102] (Ret (fun r' H => r' = .int .i64 (bookValue x.book key) ∧ H = [blkA r (RepT.cells x) 102])) := by
 refine Leg.Does.body (n := 10) Tryz.func23 rfl rfl rfl (fun w0 F hF => ?_)
 refine sr fun _ J1 => ?_
 refine PS ?_
 refine nx J1 (sr fun _ J2 => ?_)
 refine PS ?_
 refine PS ?_
 refine FA 1068 Tryz.underlying102 sz100 ?_
 refine PS ?_
 refine CR nm51 (bookValue_does r 1068 102 (fun u => RepT.cells { x with book := u }) (RepT.arnd_book x) x.book key) (fun _ s => s) fun vR HR hR => ?_
 obtain ⟨rfl, rfl⟩ := hR
 refine PS ?_
 refine nx J2 ?_
 refine TC.ret ?_
 refine WK [0] ?_
 refine TE.ret1 rfl rfl ?_
 exact ⟨rfl, rfl⟩
theorem rBusy_does (r : Nat) (x : RepT) :
    Leg.Does Tryz.prog 24 #[(.pointer (some ⟨r, 0, none⟩))] (fun _ => True) [blkA r (RepT.cells x) 102] (Ret (fun r' H => r' = .bool x.busy ∧ H = [blkA r (RepT.cells x) 102])) := by
 refine Leg.Does.body (n := 7) Tryz.func24 rfl rfl rfl (fun w0 F hF => ?_)
 refine sr fun _ J1 => ?_
 refine PS ?_
 refine nx J1 (sr fun _ J2 => ?_)
 refine PS ?_
 refine PS ?_
 refine FA 1938 Tryz.underlying102 sz4 ?_
 refine tp (PV.load1 (v := (.bool (x.busy))) rfl Tryz.underlying4 rfl rfl (RO 0) (RepT.at_busy x rfl)) ?_
 refine PS ?_
 refine nx J2 ?_
 refine TC.ret ?_
 refine WK [0] ?_
 refine TE.ret1 rfl rfl ?_
 exact ⟨rfl, rfl⟩
theorem replies_does (r : Nat) (x : RepT) (rs : List ReplyT) (hrs : rs.length ≤ 1000000) :
    Leg.Does Tryz.prog 16 #[(.pointer (some ⟨r, 0, none⟩))] (fun _ => True) [blkA r (RepT.cells x) 102, own x.replies ((rs).length) (ints (List.flatMap ReplyT.flat (rs))) 37 3] (Ret (fun r' H => ∃ u, r' = u ∧ H = [blkA r (RepT.cells x) 102, own x.replies rs.length (ints (List.flatMap ReplyT.flat rs)) 37 3, own u rs.length (ints (List.flatMap ReplyT.flat rs)) 37 3])) := by
 refine Leg.Does.body (n := 8) Tryz.func16 rfl rfl rfl (fun w0 F hF => ?_)
 refine sr fun _ J1 => ?_
 refine TL.ownNilI 37 3 (fun _ => ?_)
 refine PS ?_
 refine nx J1 (sr fun _ J2 => ?_)
 refine PS ?_
 refine PS ?_
 refine FA 1942 Tryz.underlying102 sz31 ?_
 refine tp (PV.load1 (v := x.replies) rfl Tryz.underlying31 rfl rfl (RO 1) (RepT.at_replies x rfl)) ?_
 refine TL.append (k := 0) (news := ints (List.flatMap ReplyT.flat rs)) (nn' := rs.length) (xs' := ints (List.flatMap ReplyT.flat rs)) (Want.plain rfl) rfl rfl rfl Tryz.underlying31 in37 rfl rfl rfl rfl rfl rfl (fun _ s => Src.own 2 rfl rfl s) (ints_one _) (by simp only [maxLen]; omega) (by omega) (by simp) (by simp) (fun v7 ov7 => ?_)
 refine PS ?_
 refine nx J2 ?_
 refine TC.ret ?_
 refine WK [1, 1, 0] ?_
 refine TE.ret1 rfl rfl ?_
 exact ⟨_, rfl, rfl⟩
end Go.Proofs.YtobdfjdoilnfcaaGreat
end

section
namespace Api
open Go Leg Codec Dsk Wal
def mirRec (w : Int) (x : RowT) : RecT := { RecT.zero with kind := 1, whose := w, row := x }
theorem mirRec_len (w : Int) (x : RowT) : (encR (mirRec w x)).length ≤ 1760 := by
  have h1 := encRow_len x
  have h2 := encs_len [(1 : Int), w]
  rw [show encR (mirRec w x) = encs [(1 : Int), w] ++ encRow x from rfl, List.length_append]
  simp only [List.length_cons, List.length_nil] at h2
  omega
theorem pieces34 {n : Nat} (h : n ≤ 1760) : piecesN n ≤ 34 := by unfold piecesN; split <;> omega
def keptMsg (v : Int) : MsgT := { MsgT.zero with kind := 1, version := v }
def rowB (x : RepT) (from' w : Int) : Bool := decide (w = from') && !mirSealed x.mirror w
def takeB (x : RepT) (from' w : Int) (y : RowT) : Bool := rowB x from' w && mirTakes x.mirror w y
def rowX (x : RepT) (from' w : Int) (y : RowT) : RepT := if takeB x from' w y then { x with mirror := (mirKeep x.mirror w y).1 } else x
def rowC (x : RepT) (from' w : Int) (y : RowT) (recs : List (List UInt8)) : List (List UInt8) := if takeB x from' w y then recs ++ [encR (mirRec w y)] else recs
def rowO (x : RepT) (from' w : Int) (y : RowT) : List SaidT := if rowB x from' w then [⟨from', keptMsg (mirRow (rowX x from' w y).mirror w).version⟩] else []
section
variable {x : RepT} {from' w : Int} {y : RowT} {recs : List (List UInt8)}
theorem row_no (h : rowB x from' w = false) : rowX x from' w y = x ∧ rowC x from' w y recs = recs ∧ rowO x from' w y = [] := by
  have e : takeB x from' w y = false := by unfold takeB; rw [h]; rfl
  unfold rowO rowX rowC
  rw [e, h]
  exact ⟨rfl, rfl, rfl⟩
theorem row_old (h : rowB x from' w = true) (t : mirTakes x.mirror w y = false) : rowX x from' w y = x ∧ rowC x from' w y recs = recs ∧ rowO x from' w y = [⟨from', keptMsg (mirRow x.mirror w).version⟩] := by
  have e : takeB x from' w y = false := by unfold takeB; rw [h, t]; rfl
  unfold rowO rowX rowC
  rw [e, h]
  exact ⟨rfl, rfl, rfl⟩
theorem row_yes (h : rowB x from' w = true) (t : mirTakes x.mirror w y = true) : rowX x from' w y = { x with mirror := (mirKeep x.mirror w y).1 } ∧ rowC x from' w y recs = recs ++ [encR (mirRec w y)] ∧ rowO x from' w y = [⟨from', keptMsg (mirRow (mirKeep x.mirror w y).1 w).version⟩] := by
  have e : takeB x from' w y = true := by unfold takeB; rw [h, t]; rfl
  unfold rowO rowX rowC
  rw [e, h]
  exact ⟨rfl, rfl, rfl⟩
end
section
variable {x : RepT} {from' w : Int} {v : ViewT} {recs : List (List UInt8)}
end
end Api
end

section
namespace Go.Proofs.YtobdfjdoilnfcaaGreat

open Go Leg Codec Api Dsk Wal

set_option linter.unusedSimpArgs false
set_option linter.unusedVariables false

set_option maxRecDepth 100000

set_option maxHeartbeats 8000000

theorem grow_does (r lg d : Nat) (T : Nat) (ov : Value) (sf : Nat) (E : List (List UInt8) → List SaidT → HP) (hS : ∀ c, SendOk T ov sf (E c)) (hP : PutOk lg d E) (x : RepT) (y : RowT) (op : Int) (recs : List (List UInt8)) (l : List SaidT) (hlog : x.log = .pointer (some ⟨lg, 0, none⟩)) (hroom : sizeS recs + piecesN (encR (rowRec y)).length ≤ 2048) (hl : l.length ≤ 900000) (hid : machB x.id = true) :
    Leg.Does Tryz.prog 69 #[(.pointer (some ⟨r, 0, none⟩)), (.iface T ov), (.agg (ints y.flat).toArray), (.int .i64 (op))] (fun _ => True) [blkA r (RepT.cells x) 102, lgL lg d (recs), E (recs) (l)] (Ret (fun r' H => r' = .int .i64 0 ∧ H = [blkA r (RepT.cells (growF x y op)) 102, lgL lg d (recs ++ [encR (rowRec y)]), E (recs ++ [encR (rowRec y)]) (l ++ tellL (growF x y op))])) := by
 refine Leg.Does.body (vs := [(.pointer (some ⟨r, 0, none⟩)), (.iface T ov), (.agg (ints y.flat).toArray), (.int .i64 (op))]) (n := 34) Tryz.func69 rfl rfl rfl (fun w0 F hF => ?_)
 refine sr fun _ J1 => ?_
 refine TL.box (Want.plain rfl) rfl rfl rfl rfl (fun b6 => ?_)
 change TL _ _ _ _ _ _ _ _ _ [blkA b6 (ints y.flat) 64, blkA r (RepT.cells x) 102, lgL lg d (recs), E (recs) (l)]
 refine sg' ?_
 refine nx J1 ?_
 refine TC.seq fun _ J2 => ?_
 refine sr fun _ J3 => ?_
 refine mv ?_
 refine tp (PV.loadN (vs := ints y.flat) rfl Tryz.underlying64 rfl sz64 rfl (Rd.own 0 rfl rfl) (RowT.len y) (whole (RowT.len y))) ?_
 refine tp (PV.buildSegs (cs := ints (RecT.mk 0 0 y 0 BallotT.zero ChangeT.zero ViewT.zero).flat) (segs := [[Value.int .i64 0], [Value.int .i64 0], ints RowT.zero.flat, [Value.int .i64 0], ints BallotT.zero.flat, ints ChangeT.zero.flat, ints ViewT.zero.flat]) (res := [[Value.int .i64 0], [Value.int .i64 0], ints y.flat, [Value.int .i64 0], ints BallotT.zero.flat, ints ChangeT.zero.flat, ints ViewT.zero.flat]) (parts := [(0, [Value.int .i64 0]), (2, ints y.flat)]) rfl rfl Tryz.underlying131 (by kernel_rfl) (by kernel_rfl) rfl (putSegs_step rfl ((rfl : [Value.int .i64 0].length = 1).trans (rfl : [Value.int .i64 0].length = 1).symm) (putSegs_step rfl ((RowT.len y).trans (RowT.len RowT.zero).symm) putSegs_nil)) (RecT.eq (RecT.mk 0 0 y 0 BallotT.zero ChangeT.zero ViewT.zero)).symm) ?_
 refine TL.callR (A := [blkA r (RepT.cells x) 102, lgL lg d (recs), E (recs) (l)]) (Want.plain rfl) rfl rfl rfl nm103 rfl (put_does r lg d E hP x (RecT.mk 0 0 y 0 BallotT.zero ChangeT.zero ViewT.zero) (recs) (l) hlog hroom (Nat.le_trans (rowRec_len y) (by decide))) (fun _ s => sep_selR [1, 1, 1] rfl s) (fun _ _ _ => trivial) (fun vR HR hR => ?_)
 obtain ⟨rfl, rfl⟩ := hR
 change TL _ _ _ _ _ _ _ _ _ [blkA r (RepT.cells x) 102, lgL lg d (recs ++ [encR (RecT.mk 0 0 y 0 BallotT.zero ChangeT.zero ViewT.zero)]), E (recs ++ [encR (RecT.mk 0 0 y 0 BallotT.zero ChangeT.zero ViewT.zero)]) (l), blkA b6 (ints y.flat) 64]
 refine sg' ?_
 refine nx J3 ?_
 refine sr fun _ J4 => ?_
 refine mv ?_
 refine tp (PV.neq rfl rfl rfl) ?_
 refine nx J4 ?_
 refine TC.no rfl ?_
 refine TC.skip ?_
 refine TE.next J2 ?_
 refine sr fun _ J5 => ?_
 refine mv ?_
 refine mv ?_
 refine mv ?_
 refine mv ?_
 refine tp (PV.loadN (vs := ints y.flat) rfl Tryz.underlying64 rfl sz64 rfl (Rd.own 3 rfl rfl) (RowT.len y) (whole (RowT.len y))) ?_
 refine mv ?_
 refine tp (PV.nilCheck rfl rfl) ?_
 refine tp (PV.fieldAddr (r := 9) rfl Tryz.underlying102 rfl sz64 rfl rfl) ?_
 refine TL.store (vs := ints y.flat) (i := 0) (H' := [blkA r (RepT.cells (RepT.mk x.id x.log x.view y x.mirror x.acc x.round x.vote x.book x.busy x.kept x.waits x.ops x.replies x.told x.last)) 102, lgL lg d (recs ++ [encR (RecT.mk 0 0 y 0 BallotT.zero ChangeT.zero ViewT.zero)]), E (recs ++ [encR (RecT.mk 0 0 y 0 BallotT.zero ChangeT.zero ViewT.zero)]) (l), blkA b6 (ints y.flat) 64]) (Want.plain rfl) rfl rfl rfl rfl rfl (by rw [(RowT.len y)]; exact sz64) (ints_one _) rfl rfl (by have h0 := (RepT.len x); have h1 := (RowT.len y); omega) (RepT.wr_own_ x 0 rfl (by have h1 := (RowT.len y); omega) (wwhole ((RowT.len x.own).trans (RowT.len y).symm))) rfl ?_
 refine tp (PV.nilCheck rfl rfl) ?_
 refine tp (PV.fieldAddr (r := 1938) rfl Tryz.underlying102 rfl sz4 rfl rfl) ?_
 refine TL.store1 (i := 0) (H' := [blkA r (RepT.cells (RepT.mk x.id x.log x.view y x.mirror x.acc x.round x.vote x.book true x.kept x.waits x.ops x.replies x.told x.last)) 102, lgL lg d (recs ++ [encR (RecT.mk 0 0 y 0 BallotT.zero ChangeT.zero ViewT.zero)]), E (recs ++ [encR (RecT.mk 0 0 y 0 BallotT.zero ChangeT.zero ViewT.zero)]) (l), blkA b6 (ints y.flat) 64]) (Want.plain rfl) rfl rfl rfl rfl rfl sz4 rfl rfl (by have h0 := (RepT.len (RepT.mk x.id x.log x.view y x.mirror x.acc x.round x.vote x.book x.busy x.kept x.waits x.ops x.replies x.told x.last)); omega) (RepT.set_busy (RepT.mk x.id x.log x.view y x.mirror x.acc x.round x.vote x.book x.busy x.kept x.waits x.ops x.replies x.told x.last) rfl _) rfl ?_
 refine tp (PV.nilCheck rfl rfl) ?_
 refine tp (PV.fieldAddr (r := 1939) rfl Tryz.underlying102 rfl sz3 rfl rfl) ?_
 refine TL.store1 (i := 0) (H' := [blkA r (RepT.cells (RepT.mk x.id x.log x.view y x.mirror x.acc x.round x.vote x.book true 0 x.waits x.ops x.replies x.told x.last)) 102, lgL lg d (recs ++ [encR (RecT.mk 0 0 y 0 BallotT.zero ChangeT.zero ViewT.zero)]), E (recs ++ [encR (RecT.mk 0 0 y 0 BallotT.zero ChangeT.zero ViewT.zero)]) (l), blkA b6 (ints y.flat) 64]) (Want.plain rfl) rfl rfl rfl rfl rfl sz3 rfl rfl (by have h0 := (RepT.len (RepT.mk x.id x.log x.view y x.mirror x.acc x.round x.vote x.book true x.kept x.waits x.ops x.replies x.told x.last)); omega) (RepT.set_kept (RepT.mk x.id x.log x.view y x.mirror x.acc x.round x.vote x.book true x.kept x.waits x.ops x.replies x.told x.last) rfl _) rfl ?_
 refine tp (PV.nilCheck rfl rfl) ?_
 refine tp (PV.fieldAddr (r := 1940) rfl Tryz.underlying102 rfl sz3 rfl rfl) ?_
 refine TL.store1 (i := 0) (H' := [blkA r (RepT.cells (RepT.mk x.id x.log x.view y x.mirror x.acc x.round x.vote x.book true 0 op x.ops x.replies x.told x.last)) 102, lgL lg d (recs ++ [encR (RecT.mk 0 0 y 0 BallotT.zero ChangeT.zero ViewT.zero)]), E (recs ++ [encR (RecT.mk 0 0 y 0 BallotT.zero ChangeT.zero ViewT.zero)]) (l), blkA b6 (ints y.flat) 64]) (Want.plain rfl) rfl rfl rfl rfl rfl sz3 rfl rfl (by have h0 := (RepT.len (RepT.mk x.id x.log x.view y x.mirror x.acc x.round x.vote x.book true 0 x.waits x.ops x.replies x.told x.last)); omega) (RepT.set_waits (RepT.mk x.id x.log x.view y x.mirror x.acc x.round x.vote x.book true 0 x.waits x.ops x.replies x.told x.last) rfl _) rfl ?_
 refine nx J5 ?_
 refine sr fun _ J6 => ?_
 refine mv ?_
 refine mv ?_
 refine TL.callR (A := [blkA r (RepT.cells (RepT.mk x.id x.log x.view y x.mirror x.acc x.round x.vote x.book true 0 op x.ops x.replies x.told x.last)) 102, E (recs ++ [encR (RecT.mk 0 0 y 0 BallotT.zero ChangeT.zero ViewT.zero)]) (l)]) (Want.plain rfl) rfl rfl rfl nm77 rfl (tellRow_does r T ov sf (E (recs ++ [encR (RecT.mk 0 0 y 0 BallotT.zero ChangeT.zero ViewT.zero)])) (hS (recs ++ [encR (RecT.mk 0 0 y 0 BallotT.zero ChangeT.zero ViewT.zero)])) (RepT.mk x.id x.log x.view y x.mirror x.acc x.round x.vote x.book true 0 op x.ops x.replies x.told x.last) (l) hl hid) (fun _ s => sep_selR [0, 1] rfl s) (fun _ _ _ => trivial) (fun vR HR hR => ?_)
 obtain rfl := hR
 change TL _ _ _ _ _ _ _ _ _ [blkA r (RepT.cells (RepT.mk x.id x.log x.view y x.mirror x.acc x.round x.vote x.book true 0 op x.ops x.replies x.told x.last)) 102, E (recs ++ [encR (RecT.mk 0 0 y 0 BallotT.zero ChangeT.zero ViewT.zero)]) (l ++ tellL (RepT.mk x.id x.log x.view y x.mirror x.acc x.round x.vote x.book true 0 op x.ops x.replies x.told x.last)), lgL lg d (recs ++ [encR (RecT.mk 0 0 y 0 BallotT.zero ChangeT.zero ViewT.zero)]), blkA b6 (ints y.flat) 64]
 refine nx J6 ?_
 refine sr fun _ J7 => ?_
 refine sg' ?_
 refine nx J7 ?_
 refine TC.ret ?_
 refine TE.weak (Sub.refl _) (fun _ s => sep_keep [0, 1, 0] rfl s) ?_
 refine TE.ret1 rfl rfl ?_
 exact ⟨rfl, rfl⟩
theorem planI_does (r : Nat) (x : RepT) (o : OpT) (hk0 : o.kind = 0) :
    Leg.Does Tryz.prog 67 #[(.pointer (some ⟨r, 0, none⟩)), (.agg (ints o.flat).toArray)] (fun _ => True) [blkA r (RepT.cells x) 102] (Ret (fun r' H => r' = .tuple #[.agg (ints (planF x o).1.flat).toArray, .int .i64 (planF x o).2.1, .int .i64 (planF x o).2.2] ∧ H = [blkA r (RepT.cells x) 102])) := by
 refine Leg.Does.body (n := 121) Tryz.func67 rfl rfl rfl (fun w0 F hF => ?_)
 refine sr fun _ J1 => ?_
 refine TL.box (Want.plain rfl) rfl rfl rfl rfl (fun b3 => ?_)
 change TL _ _ _ _ _ _ _ _ _ [blkA b3 (ints o.flat) 30, blkA r (RepT.cells x) 102]
 refine TL.alloc (Want.plain rfl) rfl rfl rfl z64 (fun b4 => ?_)
 change TL _ _ _ _ _ _ _ _ _ [blkA b4 (ints RowT.zero.flat) 64, blkA b3 (ints o.flat) 30, blkA r (RepT.cells x) 102]
 refine PS ?_
 refine PS ?_
 refine nx J1 ?_
 clear J1
 refine TC.seq fun _ J2 => ?_
 refine TC.seq fun _ J3 => ?_
 refine D1 2 mixed ?_
 refine PD 0 ?_
 refine PD 1 ?_
 refine FD 2 2 Tryz.underlying102 sz44 ?_
 refine ta 3 rfl (PV.loadN (vs := ints x.view.flat) rfl Tryz.underlying44 rfl sz44 rfl (fun _ h => h.2.1) (ViewT.len x.view) (RepT.sub_view x 0 rfl (by decide) (whole (ViewT.len x.view)))) ?_
 refine PD 4 ?_
 refine PD 5 ?_
 refine FD 6 0 Tryz.underlying102 sz3 ?_
 refine ta 7 rfl (PV.load1 (v := (.int .i64 (x.id))) rfl Tryz.underlying3 rfl rfl (fun _ h => h.2.1) (RepT.at_id x rfl)) ?_
 refine TD.all [8] (by kernel_rfl) rfl ?_
 refine AllT.cons rfl ?_ ?_
 refine CR nm32 (member_does x.view x.id) (fun _ s => s) fun vR HR hR => ?_
 obtain ⟨rfl, rfl⟩ := hR
 refine TL.decB (fun h17 => ?_) (fun h17 => ?_)
 refine TL.nil ?_
 refine E1 2 ?_
 refine ta 9 rfl (PV.not (r := false) rfl rfl rfl) ?_
 refine TD.done (by kernel_rfl) ?_
 refine TE.next J3 ?_
 clear J3
 refine CN ?_
 refine CX J2 ?_
 clear J2
 refine TC.seq fun _ J4 => ?_
 refine sr fun _ J5 => ?_
 refine FA 3 Tryz.underlying30 sz3 ?_
 refine tp (PV.load1 (v := (.int .i64 (o.key))) rfl Tryz.underlying3 rfl rfl (RO 1) (OpT.at_key o rfl)) ?_
 refine PS ?_
 refine TL.dec (fun h22 => ?_) (fun h22 => ?_)
 have hkb : keyB o.key = false := decide_eq_false (by omega)
 refine PS ?_
 refine UT ?_
 refine UT ?_
 refine UT ?_
 refine PS ?_
 refine nx J5 ?_
 clear J5
 refine CY ?_
 refine sr fun _ J6 => ?_
 refine tp (PV.build (cells := (ints RowT.zero.flat).toArray) rfl rfl (by as_aux_lemma => kernel_rfl)) ?_
 refine TL.store (vs := ints RowT.zero.flat) (i := 0) (Want.plain rfl) rfl rfl rfl rfl rfl (by rw [(RowT.len RowT.zero)]; exact sz64) (ints_one _) rfl rfl (by have h0 := (RowT.len RowT.zero); have h1 := (RowT.len RowT.zero); omega) (wwhole ((RowT.len RowT.zero).trans (RowT.len RowT.zero).symm)) rfl ?_
 refine PS ?_
 refine PS ?_
 refine nx J6 ?_
 clear J6
 refine TC.ret ?_
 refine TE.passRet ?_
 clear J4
 refine TE.retCTT (H' := [blkA r (RepT.cells x) 102]) rfl rfl rfl rfl Tryz.underlying64 rfl sz64 (RO 0) (RowT.len RowT.zero) (fun _ s => sep_keep [2] rfl s) ?_
 exact ⟨by simp [planF, growOf, *], rfl⟩
 refine PS ?_
 refine FA 3 Tryz.underlying30 sz3 ?_
 refine tq (PV.load1 (v := (.int .i64 (o.key))) rfl Tryz.underlying3 rfl rfl (RO 1) (OpT.at_key o rfl)) ?_
 refine PS ?_
 refine TL.dec (fun h26 => ?_) (fun h26 => ?_)
 have hkb : keyB o.key = false := decide_eq_false (by omega)
 refine PS ?_
 refine nx J5 ?_
 clear J5
 refine CY ?_
 refine sr fun _ J7 => ?_
 refine tp (PV.build (cells := (ints RowT.zero.flat).toArray) rfl rfl (by as_aux_lemma => kernel_rfl)) ?_
 refine TL.store (vs := ints RowT.zero.flat) (i := 0) (Want.plain rfl) rfl rfl rfl rfl rfl (by rw [(RowT.len RowT.zero)]; exact sz64) (ints_one _) rfl rfl (by have h0 := (RowT.len RowT.zero); have h1 := (RowT.len RowT.zero); omega) (wwhole ((RowT.len RowT.zero).trans (RowT.len RowT.zero).symm)) rfl ?_
 refine PS ?_
 refine PS ?_
 refine nx J7 ?_
 clear J7
 refine TC.ret ?_
 refine TE.passRet ?_
 clear J4
 refine TE.retCTT (H' := [blkA r (RepT.cells x) 102]) rfl rfl rfl rfl Tryz.underlying64 rfl sz64 (RO 0) (RowT.len RowT.zero) (fun _ s => sep_keep [2] rfl s) ?_
 exact ⟨by simp [planF, growOf, *], rfl⟩
 have hkb : keyB o.key = true := decide_eq_true (by omega)
 refine PS ?_
 refine nx J5 ?_
 clear J5
 refine CN ?_
 refine CX J4 ?_
 clear J4
 refine TC.seq fun _ J8 => ?_
 refine sr fun _ J9 => ?_
 refine FA 0 Tryz.underlying30 sz3 ?_
 refine tp (PV.load1 (v := (.int .i64 (o.kind))) rfl Tryz.underlying3 rfl rfl (RO 1) (OpT.at_kind o rfl)) ?_
 refine PS ?_
 refine TL.dec (fun h31 => ?_) (fun h31 => ?_)
 · exact absurd h31 (by omega)
 refine nx J9 ?_
 clear J9
 refine CN ?_
 refine CX J8 ?_
 clear J8
 refine TC.seq fun _ J10 => ?_
 refine sr fun _ J11 => ?_
 refine PS ?_
 refine PS ?_
 refine FA 1938 Tryz.underlying102 sz4 ?_
 refine tp (PV.load1 (v := (.bool (x.busy))) rfl Tryz.underlying4 rfl rfl (RO 2) (RepT.at_busy x rfl)) ?_
 refine TL.decB (fun h42 => ?_) (fun h42 => ?_)
 refine nx J11 ?_
 clear J11
 refine CY ?_
 refine sr fun _ J12 => ?_
 refine tp (PV.build (cells := (ints RowT.zero.flat).toArray) rfl rfl (by as_aux_lemma => kernel_rfl)) ?_
 refine TL.store (vs := ints RowT.zero.flat) (i := 0) (Want.plain rfl) rfl rfl rfl rfl rfl (by rw [(RowT.len RowT.zero)]; exact sz64) (ints_one _) rfl rfl (by have h0 := (RowT.len RowT.zero); have h1 := (RowT.len RowT.zero); omega) (wwhole ((RowT.len RowT.zero).trans (RowT.len RowT.zero).symm)) rfl ?_
 refine PS ?_
 refine PS ?_
 refine nx J12 ?_
 clear J12
 refine TC.ret ?_
 refine TE.passRet ?_
 clear J10
 refine TE.retCTT (H' := [blkA r (RepT.cells x) 102]) rfl rfl rfl rfl Tryz.underlying64 rfl sz64 (RO 0) (RowT.len RowT.zero) (fun _ s => sep_keep [2] rfl s) ?_
 exact ⟨by simp [planF, growOf, *], rfl⟩
 refine nx J11 ?_
 clear J11
 refine CN ?_
 refine CX J10 ?_
 clear J10
 refine sr fun _ J13 => ?_
 refine TL.alloc (Want.plain rfl) rfl rfl rfl z64 (fun b7 => ?_)
 change TL _ _ _ _ _ _ _ _ _ [blkA b7 (ints RowT.zero.flat) 64, blkA b4 (ints RowT.zero.flat) 64, blkA b3 (ints o.flat) 30, blkA r (RepT.cells x) 102]
 refine nx J13 ?_
 clear J13
 refine sr fun _ J14 => ?_
 refine PS ?_
 refine nx J14 ?_
 clear J14
 refine TC.seq fun _ J15 => ?_
 refine sr fun _ J16 => ?_
 refine FA 0 Tryz.underlying30 sz3 ?_
 refine tp (PV.load1 (v := (.int .i64 (o.kind))) rfl Tryz.underlying3 rfl rfl (RO 2) (OpT.at_kind o rfl)) ?_
 refine nx J16 ?_
 clear J16
 refine TC.block ?_
 refine sr fun _ J17 => ?_
 refine PS ?_
 refine TL.dec (fun h47 => ?_) (fun h47 => ?_)
 refine PS ?_
 refine nx J17 ?_
 clear J17
 refine CY ?_
 refine D2 3 2 mixed ?_
 refine PD 0 ?_
 refine PD 1 ?_
 refine FD 2 9 Tryz.underlying102 sz64 ?_
 refine ta 3 rfl (PV.loadN (vs := ints x.own.flat) rfl Tryz.underlying64 rfl sz64 rfl (fun _ h => h.2.1) (RowT.len x.own) (RepT.sub_own x 0 rfl (by decide) (whole (RowT.len x.own)))) ?_
 refine FD 4 3 Tryz.underlying30 sz3 ?_
 refine ta 5 rfl (PV.load1 (v := (.int .i64 (o.key))) rfl Tryz.underlying3 rfl rfl (fun _ h => h.2.2.1) (OpT.at_key o rfl)) ?_
 refine FD 6 4 Tryz.underlying30 sz3 ?_
 refine ta 7 rfl (PV.load1 (v := (.int .i64 (o.n))) rfl Tryz.underlying3 rfl rfl (fun _ h => h.2.2.1) (OpT.at_n o rfl)) ?_
 refine TD.all [8] (by kernel_rfl) rfl ?_
 refine AllT.cons rfl ?_ ?_
 refine CR nm100 (rowInc_does x.own o.key o.n) (fun _ s => s) fun vR HR hR => ?_
 obtain ⟨rfl, rfl⟩ := hR
 refine TL.nil ?_
 refine E2 3 2 ?_
 refine PD 9 ?_
 refine ta 10 rfl (PV.extract (vs := [(.agg (ints ((rowInc x.own o.key o.n).1).flat).toArray), (.int .i64 ((rowInc x.own o.key o.n).2))]) rfl rfl rfl) ?_
 refine ta 11 rfl (PV.extract (vs := [(.agg (ints ((rowInc x.own o.key o.n).1).flat).toArray), (.int .i64 ((rowInc x.own o.key o.n).2))]) rfl rfl rfl) ?_
 refine TD.all [12] (by kernel_rfl) rfl ?_
 refine AllT.cons rfl ?_ ?_
 refine TL.store (vs := ints ((rowInc x.own o.key o.n).1).flat) (i := 0) (Want.plain rfl) rfl rfl rfl rfl rfl (by rw [(RowT.len ((rowInc x.own o.key o.n).1))]; exact sz64) (ints_one _) rfl rfl (by have h0 := (RowT.len RowT.zero); have h1 := (RowT.len ((rowInc x.own o.key o.n).1)); omega) (wwhole ((RowT.len RowT.zero).trans (RowT.len ((rowInc x.own o.key o.n).1)).symm)) rfl ?_
 refine TL.nil ?_
 refine E2 3 2 ?_
 refine PD 13 ?_
 refine TD.done (by kernel_rfl) ?_
 refine TE.blockEnd ?_
 refine TE.next J15 ?_
 clear J15
 refine TC.seq fun _ J18 => ?_
 refine sr fun _ J19 => ?_
 refine PS ?_
 refine PS ?_
 refine TL.dec (fun h98 => ?_) (fun h98 => ?_)
 refine nx J19 ?_
 clear J19
 refine CY ?_
 refine sr fun _ J20 => ?_
 refine tp (PV.build (cells := (ints RowT.zero.flat).toArray) rfl rfl (by as_aux_lemma => kernel_rfl)) ?_
 refine PS ?_
 refine TL.store (vs := ints RowT.zero.flat) (i := 1) (Want.plain rfl) rfl rfl rfl rfl rfl (by rw [(RowT.len RowT.zero)]; exact sz64) (ints_one _) rfl rfl (by have h0 := (RowT.len RowT.zero); have h1 := (RowT.len RowT.zero); omega) (wwhole ((RowT.len RowT.zero).trans (RowT.len RowT.zero).symm)) rfl ?_
 refine PS ?_
 refine PS ?_
 refine nx J20 ?_
 clear J20
 refine TC.ret ?_
 refine TE.passRet ?_
 clear J18
 refine TE.retCTT (H' := [blkA r (RepT.cells x) 102]) rfl rfl rfl rfl Tryz.underlying64 rfl sz64 (RO 1) (RowT.len RowT.zero) (fun _ s => sep_keep [3] rfl s) ?_
 exact ⟨by simp [planF, growOf, *], rfl⟩
 refine nx J19 ?_
 clear J19
 refine CN ?_
 refine CX J18 ?_
 clear J18
 refine TC.seq fun _ J21 => ?_
 refine TC.seq fun _ J22 => ?_
 refine D2 2 3 mixed ?_
 refine FD 0 0 Tryz.underlying30 sz3 ?_
 refine ta 1 rfl (PV.load1 (v := (.int .i64 (o.kind))) rfl Tryz.underlying3 rfl rfl (fun _ h => h.2.1) (OpT.at_kind o rfl)) ?_
 refine PD 2 ?_
 refine TD.dec (fun h103 => ?_) (fun h103 => ?_)
 · exact absurd hk0 h103
 refine PD 3 ?_
 refine NT 4 ?_
 refine NT 5 ?_
 refine NT 6 ?_
 refine NT 7 ?_
 refine NT 8 ?_
 refine NT 9 ?_
 refine NT 10 ?_
 refine NT 11 ?_
 refine NT 12 ?_
 refine NT 13 ?_
 refine NT 14 ?_
 refine NT 15 ?_
 refine NT 16 ?_
 refine PD 17 ?_
 refine TD.done (by kernel_rfl) ?_
 refine TE.next J22 ?_
 clear J22
 refine CN ?_
 refine CX J21 ?_
 clear J21
 refine sr fun _ J23 => ?_
 refine tp (PV.loadN (vs := ints ((rowInc x.own o.key o.n).1).flat) rfl Tryz.underlying64 rfl sz64 rfl (RO 0) (RowT.len ((rowInc x.own o.key o.n).1)) (whole (RowT.len ((rowInc x.own o.key o.n).1)))) ?_
 refine TL.store (vs := ints ((rowInc x.own o.key o.n).1).flat) (i := 1) (Want.plain rfl) rfl rfl rfl rfl rfl (by rw [(RowT.len ((rowInc x.own o.key o.n).1))]; exact sz64) (ints_one _) rfl rfl (by have h0 := (RowT.len RowT.zero); have h1 := (RowT.len ((rowInc x.own o.key o.n).1)); omega) (wwhole ((RowT.len RowT.zero).trans (RowT.len ((rowInc x.own o.key o.n).1)).symm)) rfl ?_
 refine PS ?_
 refine PS ?_
 refine nx J23 ?_
 clear J23
 refine TC.ret ?_
 refine TE.retCTT (H' := [blkA r (RepT.cells x) 102]) rfl rfl rfl rfl Tryz.underlying64 rfl sz64 (RO 1) (RowT.len ((rowInc x.own o.key o.n).1)) (fun _ s => sep_keep [3] rfl s) ?_
 exact ⟨by simp [planF, growOf, *], rfl⟩
 exact AllT.nil
 exact AllT.nil
 · exact absurd hk0 h47
 refine TL.nil ?_
 refine E1 2 ?_
 refine ta 9 rfl (PV.not (r := true) rfl rfl rfl) ?_
 refine TD.done (by kernel_rfl) ?_
 refine TE.next J3 ?_
 clear J3
 refine CY ?_
 refine sr fun _ J24 => ?_
 refine tp (PV.build (cells := (ints RowT.zero.flat).toArray) rfl rfl (by as_aux_lemma => kernel_rfl)) ?_
 refine TL.store (vs := ints RowT.zero.flat) (i := 0) (Want.plain rfl) rfl rfl rfl rfl rfl (by rw [(RowT.len RowT.zero)]; exact sz64) (ints_one _) rfl rfl (by have h0 := (RowT.len RowT.zero); have h1 := (RowT.len RowT.zero); omega) (wwhole ((RowT.len RowT.zero).trans (RowT.len RowT.zero).symm)) rfl ?_
 refine PS ?_
 refine PS ?_
 refine nx J24 ?_
 clear J24
 refine TC.ret ?_
 refine TE.passRet ?_
 clear J2
 refine TE.retCTT (H' := [blkA r (RepT.cells x) 102]) rfl rfl rfl rfl Tryz.underlying64 rfl sz64 (RO 0) (RowT.len RowT.zero) (fun _ s => sep_keep [2] rfl s) ?_
 exact ⟨by simp [planF, growOf, *], rfl⟩
 exact AllT.nil
theorem clientI_does (r lg d : Nat) (T : Nat) (ov : Value) (sf : Nat) (E : List (List UInt8) → List SaidT → HP) (hS : ∀ c, SendOk T ov sf (E c)) (hP : PutOk lg d E) (x : RepT) (o : OpT) (recs : List (List UInt8)) (rs : List ReplyT) (l : List SaidT) (hlog : x.log = .pointer (some ⟨lg, 0, none⟩)) (hroom : (cN x o).2.2 = 0 → ¬ o.kind = 3 → sizeS recs + piecesN (encR (rowRec (cN x o).1)).length ≤ 2048) (hl : l.length ≤ 900000) (hrs : rs.length ≤ 1000000) (hid : machB x.id = true) (hk0 : o.kind = 0) :
    Leg.Does Tryz.prog 41 #[(.pointer (some ⟨r, 0, none⟩)), (.iface T ov), (.agg (ints o.flat).toArray)] (fun _ => True) [blkA r (RepT.cells x) 102, lgL lg d (recs), E (recs) (l), own x.replies ((rs).length) (ints (List.flatMap ReplyT.flat (rs))) 37 3] (Ret (fun r' H => r' = .int .i64 (cN x o).2.2 ∧ ∃ v', v'.oneCell' = true ∧ H = [blkA r (RepT.cells { clientX x o with replies := v' }) 102, lgL lg d (clientC x o recs), E (clientC x o recs) (l ++ clientO x o), own v' (clientR x o rs).length (ints (List.flatMap ReplyT.flat (clientR x o rs))) 37 3])) := by
 refine Leg.Does.body (n := 74) Tryz.func41 rfl rfl rfl (fun w0 F hF => ?_)
 refine sr fun _ J1 => ?_
 refine TL.ownLen 3 rfl rfl (fun _ hone => ?_)
 refine TL.box (Want.plain rfl) rfl rfl rfl rfl (fun b5 => ?_)
 change TL _ _ _ _ _ _ _ _ _ [blkA b5 (ints o.flat) 30, blkA r (RepT.cells x) 102, lgL lg d (recs), E (recs) (l), own x.replies ((rs).length) (ints (List.flatMap ReplyT.flat (rs))) 37 3]
 refine PS ?_
 refine nx J1 (sr fun _ J2 => ?_)
 refine PS ?_
 refine PS ?_
 refine FA 1941 Tryz.underlying102 sz3 ?_
 refine tp (PV.load1 (v := (.int .i64 (x.ops))) rfl Tryz.underlying3 rfl rfl (RO 1) (RepT.at_ops x rfl)) ?_
 refine tp (PV.add (r := (w64 (x.ops + 1))) rfl rfl rfl rfl) ?_
 refine PS ?_
 refine FA 1941 Tryz.underlying102 sz3 ?_
 refine TL.store1 (i := 1) (Want.plain rfl) rfl rfl rfl rfl rfl sz3 rfl rfl (by have h0 := (RepT.len x); omega) (RepT.set_ops x rfl _) rfl ?_
 refine nx J2 (sr fun _ J3 => ?_)
 refine PS ?_
 refine PS ?_
 refine FA 1941 Tryz.underlying102 sz3 ?_
 refine tp (PV.load1 (v := (.int .i64 ((w64 (x.ops + 1))))) rfl Tryz.underlying3 rfl rfl (RO 1) (RepT.at_ops _ rfl)) ?_
 refine PS ?_
 refine nx J3 ?_
 refine TC.seq fun _ J4 => ?_
 refine TC.seq fun _ J5 => ?_
 refine D2 1 0 mixed ?_
 refine PD 0 ?_
 refine PD 1 ?_
 refine FD 2 2 Tryz.underlying102 sz44 ?_
 refine ta 3 rfl (PV.loadN (vs := ints x.view.flat) rfl Tryz.underlying44 rfl sz44 rfl (fun _ h => h.2.1) (ViewT.len x.view) (RepT.sub_view (RepT.mk x.id x.log x.view x.own x.mirror x.acc x.round x.vote x.book x.busy x.kept x.waits (w64 (x.ops + 1)) x.replies x.told x.last) 0 rfl (by decide) (whole (ViewT.len x.view)))) ?_
 refine PD 4 ?_
 refine PD 5 ?_
 refine FD 6 0 Tryz.underlying102 sz3 ?_
 refine ta 7 rfl (PV.load1 (v := (.int .i64 (x.id))) rfl Tryz.underlying3 rfl rfl (fun _ h => h.2.1) (RepT.at_id _ rfl)) ?_
 refine TD.all [8] (by kernel_rfl) rfl ?_
 refine AllT.cons rfl ?_ ?_
 refine CR nm32 (member_does x.view x.id) (fun _ s => s) fun vR HR hR => ?_
 obtain ⟨rfl, rfl⟩ := hR
 refine TL.decB (fun h30 => ?_) (fun h30 => ?_)
 refine TL.nil ?_
 refine E2 1 0 ?_
 refine PD 9 ?_
 refine FD 10 0 Tryz.underlying30 sz3 ?_
 refine tb 11 rfl (PV.load1 (v := (.int .i64 (o.kind))) rfl Tryz.underlying3 rfl rfl (fun _ h => h.2.2.1) (OpT.at_kind o rfl)) ?_
 refine PD 12 ?_
 refine TD.dec (fun h34 => ?_) (fun h34 => ?_)
 · exact absurd h34 (by omega)
 refine PD 13 ?_
 refine TD.done (by kernel_rfl) ?_
 refine TE.next J5 ?_
 refine CN ?_
 refine CX J4 ?_
 refine sr fun _ J6 => ?_
 refine PS ?_
 refine tp (PV.loadN (vs := ints o.flat) rfl Tryz.underlying30 rfl sz30 rfl (RO 0) (OpT.len o) (whole (OpT.len o))) ?_
 refine CR nm67 (planI_does r (RepT.mk x.id x.log x.view x.own x.mirror x.acc x.round x.vote x.book x.busy x.kept x.waits (w64 (x.ops + 1)) x.replies x.told x.last) o hk0) (SM [1]) fun vR HR hR => ?_
 obtain ⟨rfl, rfl⟩ := hR
 refine PS ?_
 refine tp (PV.extract (vs := [(.agg (ints ((planF (opsF x) o).1).flat).toArray), (.int .i64 ((planF (opsF x) o).2.1)), (.int .i64 ((planF (opsF x) o).2.2))]) rfl rfl rfl) ?_
 refine tp (PV.extract (vs := [(.agg (ints ((planF (opsF x) o).1).flat).toArray), (.int .i64 ((planF (opsF x) o).2.1)), (.int .i64 ((planF (opsF x) o).2.2))]) rfl rfl rfl) ?_
 refine tp (PV.extract (vs := [(.agg (ints ((planF (opsF x) o).1).flat).toArray), (.int .i64 ((planF (opsF x) o).2.1)), (.int .i64 ((planF (opsF x) o).2.2))]) rfl rfl rfl) ?_
 refine TL.alloc (Want.plain rfl) rfl rfl rfl z64 (fun b8 => ?_)
 change TL _ _ _ _ _ _ _ _ _ [blkA b8 (ints RowT.zero.flat) 64, blkA r (RepT.cells (RepT.mk x.id x.log x.view x.own x.mirror x.acc x.round x.vote x.book x.busy x.kept x.waits (w64 (x.ops + 1)) x.replies x.told x.last)) 102, blkA b5 (ints o.flat) 30, lgL lg d (recs), E (recs) (l), own x.replies ((rs).length) (ints (List.flatMap ReplyT.flat (rs))) 37 3]
 refine TL.store (vs := ints ((planF (opsF x) o).1).flat) (i := 0) (Want.plain rfl) rfl rfl rfl rfl rfl (by rw [(RowT.len ((planF (opsF x) o).1))]; exact sz64) (ints_one _) rfl rfl (by have h0 := (RowT.len RowT.zero); have h1 := (RowT.len ((planF (opsF x) o).1)); omega) (wwhole ((RowT.len RowT.zero).trans (RowT.len ((planF (opsF x) o).1)).symm)) rfl ?_
 refine PS ?_
 refine PS ?_
 refine nx J6 ?_
 refine TC.seq fun _ J7 => ?_
 refine sr fun _ J8 => ?_
 refine PS ?_
 refine PS ?_
 refine TL.dec (fun h50 => ?_) (fun h50 => ?_)
 refine PS ?_
 refine UT ?_
 refine UT ?_
 refine UT ?_
 refine PS ?_
 refine nx J8 ?_
 refine CY ?_
 refine sr fun _ J9 => ?_
 refine PS ?_
 refine PS ?_
 refine PS ?_
 refine PS ?_
 refine CR nm68 (reply_does r (RepT.mk x.id x.log x.view x.own x.mirror x.acc x.round x.vote x.book x.busy x.kept x.waits (w64 (x.ops + 1)) x.replies x.told x.last) (w64 (x.ops + 1)) ((planF (opsF x) o).2.2) ((planF (opsF x) o).2.1) (rs) hrs) (SM [1, 4]) fun vR HR hR => ?_
 obtain ⟨vr1, hovr1, rfl⟩ := hR
 refine nx J9 (sr fun _ J10 => ?_)
 refine PS ?_
 refine PS ?_
 refine nx J10 ?_
 refine TC.ret ?_
 refine TE.passRet ?_
 refine WK [0, 3, 3, 0] ?_
 refine TE.ret1 rfl rfl ?_
 have e : doneB x o = true := decide_eq_true (.inl h50)
 simp only [clientX, clientC, clientR, clientO, e, Bool.false_eq_true, ↓reduceIte, List.append_nil]
 exact ⟨rfl, _, hovr1, rfl⟩
 refine PS ?_
 refine FA 0 Tryz.underlying30 sz3 ?_
 refine tq (PV.load1 (v := (.int .i64 (o.kind))) rfl Tryz.underlying3 rfl rfl (RO 2) (OpT.at_kind o rfl)) ?_
 refine PS ?_
 refine TL.dec (fun h54 => ?_) (fun h54 => ?_)
 · exact absurd h54 (by omega)
 refine PS ?_
 refine nx J8 ?_
 refine CN ?_
 refine CX J7 ?_
 refine TC.seq fun _ J11 => ?_
 refine sr fun _ J12 => ?_
 refine PS ?_
 refine PS ?_
 refine tp (PV.loadN (vs := ints ((planF (opsF x) o).1).flat) rfl Tryz.underlying64 rfl sz64 rfl (RO 0) (RowT.len ((planF (opsF x) o).1)) (whole (RowT.len ((planF (opsF x) o).1)))) ?_
 refine PS ?_
 refine CR nm69 (grow_does r lg d T ov sf E hS hP (RepT.mk x.id x.log x.view x.own x.mirror x.acc x.round x.vote x.book x.busy x.kept x.waits (w64 (x.ops + 1)) x.replies x.told x.last) ((planF (opsF x) o).1) (w64 (x.ops + 1)) (recs) (l) hlog (hroom (show (planF (opsF x) o).2.2 = 0 by omega) h54) hl hid) (SM [1, 2, 2]) fun vR HR hR => ?_
 obtain ⟨rfl, rfl⟩ := hR
 refine PS ?_
 refine nx J12 (sr fun _ J13 => ?_)
 refine PS ?_
 refine PS ?_
 refine nx J13 ?_
 refine CN ?_
 refine CX J11 ?_
 refine sr fun _ J14 => ?_
 refine PS ?_
 refine PS ?_
 refine nx J14 ?_
 refine TC.ret ?_
 refine WK [0, 0, 0, 2] ?_
 refine TE.ret1 rfl rfl ?_
 have e0 : (cN x o).2.2 = 0 := by show (planF (opsF x) o).2.2 = 0; omega
 have e : doneB x o = false := decide_eq_false (fun h => by rcases h with h | h; exact h e0; exact h54 h)
 simp only [clientX, clientC, clientR, clientO, e, Bool.false_eq_true, ↓reduceIte, List.append_nil]
 exact ⟨by rw [e0], _, hone, rfl⟩
 refine TL.nil ?_
 refine E2 1 0 ?_
 refine PD 9 ?_
 refine NT 10 ?_
 refine NT 11 ?_
 refine NT 12 ?_
 refine PD 13 ?_
 refine TD.done (by kernel_rfl) ?_
 refine TE.next J5 ?_
 refine CN ?_
 refine CX J4 ?_
 refine sr fun _ J15 => ?_
 refine PS ?_
 refine tp (PV.loadN (vs := ints o.flat) rfl Tryz.underlying30 rfl sz30 rfl (RO 0) (OpT.len o) (whole (OpT.len o))) ?_
 refine CR nm67 (planI_does r (RepT.mk x.id x.log x.view x.own x.mirror x.acc x.round x.vote x.book x.busy x.kept x.waits (w64 (x.ops + 1)) x.replies x.told x.last) o hk0) (SM [1]) fun vR HR hR => ?_
 obtain ⟨rfl, rfl⟩ := hR
 refine PS ?_
 refine tp (PV.extract (vs := [(.agg (ints ((planF (opsF x) o).1).flat).toArray), (.int .i64 ((planF (opsF x) o).2.1)), (.int .i64 ((planF (opsF x) o).2.2))]) rfl rfl rfl) ?_
 refine tp (PV.extract (vs := [(.agg (ints ((planF (opsF x) o).1).flat).toArray), (.int .i64 ((planF (opsF x) o).2.1)), (.int .i64 ((planF (opsF x) o).2.2))]) rfl rfl rfl) ?_
 refine tp (PV.extract (vs := [(.agg (ints ((planF (opsF x) o).1).flat).toArray), (.int .i64 ((planF (opsF x) o).2.1)), (.int .i64 ((planF (opsF x) o).2.2))]) rfl rfl rfl) ?_
 refine TL.alloc (Want.plain rfl) rfl rfl rfl z64 (fun b8 => ?_)
 change TL _ _ _ _ _ _ _ _ _ [blkA b8 (ints RowT.zero.flat) 64, blkA r (RepT.cells (RepT.mk x.id x.log x.view x.own x.mirror x.acc x.round x.vote x.book x.busy x.kept x.waits (w64 (x.ops + 1)) x.replies x.told x.last)) 102, blkA b5 (ints o.flat) 30, lgL lg d (recs), E (recs) (l), own x.replies ((rs).length) (ints (List.flatMap ReplyT.flat (rs))) 37 3]
 refine TL.store (vs := ints ((planF (opsF x) o).1).flat) (i := 0) (Want.plain rfl) rfl rfl rfl rfl rfl (by rw [(RowT.len ((planF (opsF x) o).1))]; exact sz64) (ints_one _) rfl rfl (by have h0 := (RowT.len RowT.zero); have h1 := (RowT.len ((planF (opsF x) o).1)); omega) (wwhole ((RowT.len RowT.zero).trans (RowT.len ((planF (opsF x) o).1)).symm)) rfl ?_
 refine PS ?_
 refine PS ?_
 refine nx J15 ?_
 refine TC.seq fun _ J16 => ?_
 refine sr fun _ J17 => ?_
 refine PS ?_
 refine PS ?_
 refine TL.dec (fun h50 => ?_) (fun h50 => ?_)
 refine PS ?_
 refine UT ?_
 refine UT ?_
 refine UT ?_
 refine PS ?_
 refine nx J17 ?_
 refine CY ?_
 refine sr fun _ J18 => ?_
 refine PS ?_
 refine PS ?_
 refine PS ?_
 refine PS ?_
 refine CR nm68 (reply_does r (RepT.mk x.id x.log x.view x.own x.mirror x.acc x.round x.vote x.book x.busy x.kept x.waits (w64 (x.ops + 1)) x.replies x.told x.last) (w64 (x.ops + 1)) ((planF (opsF x) o).2.2) ((planF (opsF x) o).2.1) (rs) hrs) (SM [1, 4]) fun vR HR hR => ?_
 obtain ⟨vr1, hovr1, rfl⟩ := hR
 refine nx J18 (sr fun _ J19 => ?_)
 refine PS ?_
 refine PS ?_
 refine nx J19 ?_
 refine TC.ret ?_
 refine TE.passRet ?_
 refine WK [0, 3, 3, 0] ?_
 refine TE.ret1 rfl rfl ?_
 have e : doneB x o = true := decide_eq_true (.inl h50)
 simp only [clientX, clientC, clientR, clientO, e, Bool.false_eq_true, ↓reduceIte, List.append_nil]
 exact ⟨rfl, _, hovr1, rfl⟩
 refine PS ?_
 refine FA 0 Tryz.underlying30 sz3 ?_
 refine tq (PV.load1 (v := (.int .i64 (o.kind))) rfl Tryz.underlying3 rfl rfl (RO 2) (OpT.at_kind o rfl)) ?_
 refine PS ?_
 refine TL.dec (fun h54 => ?_) (fun h54 => ?_)
 · exact absurd h54 (by omega)
 refine PS ?_
 refine nx J17 ?_
 refine CN ?_
 refine CX J16 ?_
 refine TC.seq fun _ J20 => ?_
 refine sr fun _ J21 => ?_
 refine PS ?_
 refine PS ?_
 refine tp (PV.loadN (vs := ints ((planF (opsF x) o).1).flat) rfl Tryz.underlying64 rfl sz64 rfl (RO 0) (RowT.len ((planF (opsF x) o).1)) (whole (RowT.len ((planF (opsF x) o).1)))) ?_
 refine PS ?_
 refine CR nm69 (grow_does r lg d T ov sf E hS hP (RepT.mk x.id x.log x.view x.own x.mirror x.acc x.round x.vote x.book x.busy x.kept x.waits (w64 (x.ops + 1)) x.replies x.told x.last) ((planF (opsF x) o).1) (w64 (x.ops + 1)) (recs) (l) hlog (hroom (show (planF (opsF x) o).2.2 = 0 by omega) h54) hl hid) (SM [1, 2, 2]) fun vR HR hR => ?_
 obtain ⟨rfl, rfl⟩ := hR
 refine PS ?_
 refine nx J21 (sr fun _ J22 => ?_)
 refine PS ?_
 refine PS ?_
 refine nx J22 ?_
 refine CN ?_
 refine CX J20 ?_
 refine sr fun _ J23 => ?_
 refine PS ?_
 refine PS ?_
 refine nx J23 ?_
 refine TC.ret ?_
 refine WK [0, 0, 0, 2] ?_
 refine TE.ret1 rfl rfl ?_
 have e0 : (cN x o).2.2 = 0 := by show (planF (opsF x) o).2.2 = 0; omega
 have e : doneB x o = false := decide_eq_false (fun h => by rcases h with h | h; exact h e0; exact h54 h)
 simp only [clientX, clientC, clientR, clientO, e, Bool.false_eq_true, ↓reduceIte, List.append_nil]
 exact ⟨by rw [e0], _, hone, rfl⟩
 exact AllT.nil
end Go.Proofs.YtobdfjdoilnfcaaGreat
end

section
namespace Go.Proofs.YtobdfjdoilnfcaaGreat

open Go Leg Codec Api Dsk Wal

set_option linter.unusedSimpArgs false
set_option linter.unusedVariables false

set_option maxRecDepth 100000

set_option maxHeartbeats 8000000

theorem index_does (x : Value) (l : List Int) (v : Int) (hl : l.length ≤ 1000000) :
    Leg.Does Tryz.prog 166 #[x, (.int .i64 (v))] (IsI .i64 x l) [] (Ret (fun r' H => ∃ n : Int, r' = .int .i64 n ∧ (decide (n ≥ 0) = true ↔ v ∈ l) ∧ H = [])) := by
 refine Leg.Does.body (n := 19) Tryz.func166 rfl rfl rfl (fun w0 F hF => ?_)
 refine sr fun _ J1 => ?_
 refine PS ?_
 refine nx J1 ?_
 refine TC.seq fun _ J2 => ?_
 refine sr fun _ J3 => ?_
 refine PS ?_
 refine tp (PV.lenV rfl Tryz.underlying50 rfl hF.len) ?_
 refine PS ?_
 refine nx J3 ?_
 refine TC.block ?_
 refine TC.loop (α := (Nat)) (fun k => k ≤ l.length ∧ ∀ (j : Nat), j < k → l.getD j 0 ≠ v) (fun k => [(0, x), (1, (.int .i64 (v))), (7, (.int .i64 (((l.length : Nat) : Int)))), (8, (.int .i64 (((k : Nat) : Int))))]) (fun k => []) (fun k => l.length - k) 0
     ⟨Nat.zero_le _, fun j h => absurd h (by omega)⟩ (Sub.r (Sub.r (Sub.r (Sub.cons rfl (by congr 1) (Sub.nil _)))))
     (fun _ s => s) (fun k hinv => ?_)
 obtain ⟨hk, hv⟩ := hinv
 refine sr fun _ J4 => ?_
 refine PS ?_
 refine TL.dec (fun h9 => ?_) (fun h9 => ?_)
 obtain ⟨b_a, off_a, cap_a, cs_a, T_a, z_a, hv_a, hb_a, hcs_a, hcp_a⟩ := IsI.at hF (j := k) (by omega)
 refine nx J4 ?_
 refine TC.seq fun _ J5 => ?_
 refine CY ?_
 refine CX J5 ?_
 refine TC.seq fun _ J6 => ?_
 refine TC.block ?_
 refine sr fun _ J7 => ?_
 refine PS ?_
 refine PS ?_
 refine nx J7 (sr fun _ J8 => ?_)
 refine PS ?_
 refine PS ?_
 refine PS ?_
 refine tp (PV.indexSlV (r := off_a + k) hv_a rfl Tryz.underlying50 sz3 rfl rfl (by omega) (by omega) (by omega)) ?_
 refine tp (PV.load1X (v := (.int .i64 ((l.getD k 0)))) rfl Tryz.underlying3 rfl rfl (RdX.frm hb_a (fun _ h => Frm.of h)) hcs_a) ?_
 refine PS ?_
 refine TL.dec (fun h16 => ?_) (fun h16 => ?_)
 refine nx J8 ?_
 refine CY ?_
 refine sr fun _ J9 => ?_
 refine PS ?_
 refine PS ?_
 refine nx J9 ?_
 refine TC.ret ?_
 refine TE.blockRet ?_
 refine TE.passRet ?_
 refine TE.passRet ?_
 refine TE.blockRet ?_
 refine TE.passRet ?_
 refine WK [] ?_
 refine TE.ret1 rfl rfl ?_
 exact ⟨((k : Nat) : Int), rfl, by rw [decide_eq_true_iff]; exact ⟨fun _ => by rw [h16, List.getD_eq_getElem?_getD, List.getElem?_eq_getElem (by omega)]; exact List.getElem_mem _, fun _ => by omega⟩, rfl⟩
 refine nx J8 ?_
 refine CN ?_
 refine TC.skip ?_
 refine TE.blockEnd ?_
 refine TE.next J6 ?_
 refine TC.region ?_
 refine tp (PV.add rfl rfl rfl (wrap_i64 (by omega) (by omega))) ?_
 refine PS ?_
 refine TL.nil ?_
 exact TE.round ((k + 1) : (Nat)) ⟨by omega, fun j hj => by
        by_cases q : j = k
        · subst q; exact fun e => h16 e.symm
        · exact hv j (by omega)⟩ (by show l.length - (k + 1) < l.length - k; omega)
   (Sub.r (Sub.r (Sub.r (Sub.cons rfl (by simp) (Sub.nil _)))))
   (fun _ s => s)
 refine nx J4 ?_
 refine TC.seq fun _ J10 => ?_
 refine CN ?_
 refine TC.exit ?_
 refine TE.pass ?_
 refine TE.pass ?_
 refine TE.hit ?_
 refine TE.next J2 ?_
 refine sr fun _ J11 => ?_
 refine PS ?_
 refine nx J11 ?_
 refine TC.ret ?_
 refine WK [] ?_
 refine TE.ret1 rfl rfl ?_
 exact ⟨-1, rfl, by
      rw [decide_eq_true_iff]
      constructor
      · intro h; omega
      · intro h
        obtain ⟨j, hj, e⟩ := List.getElem_of_mem h
        have := hv j (by omega)
        rw [List.getD_eq_getElem?_getD, List.getElem?_eq_getElem hj] at this
        exact absurd e this, rfl⟩
theorem contains_does (x : Value) (l : List Int) (v : Int) (hl : l.length ≤ 1000000) :
    Leg.Does Tryz.prog 146 #[x, (.int .i64 (v))] (IsI .i64 x l) [] (Ret (fun r' H => r' = .bool (decide (v ∈ l)) ∧ H = [])) := by
 refine Leg.Does.body (n := 9) Tryz.func146 rfl rfl rfl (fun w0 F hF => ?_)
 refine sr fun _ J1 => ?_
 refine PS ?_
 refine nx J1 (sr fun _ J2 => ?_)
 refine PS ?_
 refine PS ?_
 refine CQ nm166 (index_does x l v hl) (fun _ s => s) (fun _ d _ => IsI.more hF d) fun vR HR hR => ?_
 obtain ⟨n, rfl, hn, rfl⟩ := hR
 refine PS ?_
 refine PS ?_
 refine nx J2 ?_
 refine TC.ret ?_
 refine WK [] ?_
 refine TE.ret1 rfl rfl ?_
 exact ⟨congrArg Value.bool (by rw [Bool.eq_iff_iff, hn, decide_eq_true_iff]), rfl⟩
theorem counted_does (r : Nat) (T : Nat) (ov : Value) (sf : Nat) (E : List SaidT → HP) (hS : SendOk T ov sf E) (x : RepT) (rs : List ReplyT) (l : List SaidT) (hwo : WF x.own.flat) (hal : Alone x) (hl : l.length ≤ 900000) (hrs : rs.length ≤ 1000000) :
    Leg.Does Tryz.prog 147 #[(.pointer (some ⟨r, 0, none⟩)), (.iface T ov)] (fun _ => True) [blkA r (RepT.cells x) 102, own x.replies ((rs).length) (ints (List.flatMap ReplyT.flat (rs))) 37 3, E (l)] (Ret (fun _ H => ∃ v', v'.oneCell' = true ∧ H = [blkA r (RepT.cells { countF x with replies := v' }) 102, own v' (countR x rs).length (ints (List.flatMap ReplyT.flat (countR x rs))) 37 3, E (l ++ newsL x.id x.own)])) := by
 refine Leg.Does.body (vs := [(.pointer (some ⟨r, 0, none⟩)), (.iface T ov)]) (n := 43) Tryz.func147 rfl rfl rfl (fun w0 F hF => ?_)
 refine sr fun _ J1 => ?_
 refine TL.ownLen 1 rfl rfl (fun _ hone => ?_)
 refine mv ?_
 refine tp (PV.nilCheck rfl rfl) ?_
 refine tp (PV.fieldAddr (r := 1938) rfl Tryz.underlying102 rfl sz4 rfl rfl) ?_
 refine TL.store1 (i := 0) (H' := [blkA r (RepT.cells (RepT.mk x.id x.log x.view x.own x.mirror x.acc x.round x.vote x.book false x.kept x.waits x.ops x.replies x.told x.last)) 102, own x.replies ((rs).length) (ints (List.flatMap ReplyT.flat (rs))) 37 3, E (l)]) (Want.plain rfl) rfl rfl rfl rfl rfl sz4 rfl rfl (by have h0 := (RepT.len x); omega) (RepT.set_busy x rfl _) rfl ?_
 refine nx J1 ?_
 refine TC.seq fun _ J2 => ?_
 refine TC.draw (fun w => Frm F w ∧ True) mixed rfl (fun _ s => ⟨Frm.of s, trivial⟩) ?_
 refine ta 0 rfl (PV.move rfl rfl) ?_
 refine ta 1 rfl (PV.nilCheck rfl rfl) ?_
 refine ta 2 rfl (PV.fieldAddr (r := 1068) rfl Tryz.underlying102 rfl sz100 rfl rfl) ?_
 refine ta 3 rfl (PV.move rfl rfl) ?_
 refine ta 4 rfl (PV.nilCheck rfl rfl) ?_
 refine ta 5 rfl (PV.fieldAddr (r := 0) rfl Tryz.underlying102 rfl sz3 rfl rfl) ?_
 refine ta 7 rfl (PV.move rfl rfl) ?_
 refine ta 8 rfl (PV.nilCheck rfl rfl) ?_
 refine ta 9 rfl (PV.fieldAddr (r := 9) rfl Tryz.underlying102 rfl sz64 rfl rfl) ?_
 refine TD.all [6, 10] (by kernel_rfl) rfl ?_
 refine AllT.cons rfl ?_ ?_
 refine tp (PV.load1 (v := (.int .i64 (x.id))) rfl Tryz.underlying3 rfl rfl (Rd.own 0 rfl rfl) (RepT.at_id (RepT.mk x.id x.log x.view x.own x.mirror x.acc x.round x.vote x.book false x.kept x.waits x.ops x.replies x.told x.last) rfl)) ?_
 refine TL.nil ?_
 refine TE.draw (fun _ s => ⟨Frm.of s, trivial⟩) ?_
 refine TD.all [10] (by kernel_rfl) rfl ?_
 refine AllT.cons rfl ?_ ?_
 refine tp (PV.loadN (vs := ints x.own.flat) rfl Tryz.underlying64 rfl sz64 rfl (Rd.own 0 rfl rfl) (RowT.len x.own) (RepT.sub_own (RepT.mk x.id x.log x.view x.own x.mirror x.acc x.round x.vote x.book false x.kept x.waits x.ops x.replies x.told x.last) 0 rfl (by decide) (whole (RowT.len x.own)))) ?_
 refine TL.nil ?_
 refine TE.draw (fun _ s => ⟨Frm.of s, trivial⟩) ?_
 refine TD.all [11] (by kernel_rfl) rfl ?_
 refine AllT.cons rfl ?_ ?_
 refine TL.callR (A := [blkA r (RepT.cells (RepT.mk x.id x.log x.view x.own x.mirror x.acc x.round x.vote x.book false x.kept x.waits x.ops x.replies x.told x.last)) 102]) (Want.plain rfl) rfl rfl rfl nm112 rfl (bookMerge_does r 1068 102 (fun u => RepT.cells { (RepT.mk x.id x.log x.view x.own x.mirror x.acc x.round x.vote x.book false x.kept x.waits x.ops x.replies x.told x.last) with book := u }) (RepT.arnd_book (RepT.mk x.id x.log x.view x.own x.mirror x.acc x.round x.vote x.book false x.kept x.waits x.ops x.replies x.told x.last)) x.book x.id x.own hwo) (fun _ s => s) (fun _ _ _ => trivial) (fun vR HR hR => ?_)
 obtain ⟨rfl, rfl⟩ := hR
 change TL _ _ _ _ _ _ _ _ _ [blkA r (RepT.cells (RepT.mk x.id x.log x.view x.own x.mirror x.acc x.round x.vote ((bookMerge x.book x.id x.own).1) false x.kept x.waits x.ops x.replies x.told x.last)) 102, own x.replies ((rs).length) (ints (List.flatMap ReplyT.flat (rs))) 37 3, E (l)]
 refine TL.nil ?_
 refine TE.draw (fun _ s => ⟨Frm.of s, trivial⟩) ?_
 refine TD.done (by kernel_rfl) ?_
 refine TE.next J2 ?_
 refine TC.seq fun _ J3 => ?_
 refine sr fun _ J4 => ?_
 refine mv ?_
 refine tp (PV.nilCheck rfl rfl) ?_
 refine tp (PV.fieldAddr (r := 1940) rfl Tryz.underlying102 rfl sz3 rfl rfl) ?_
 refine tp (PV.load1 (v := (.int .i64 (x.waits))) rfl Tryz.underlying3 rfl rfl (Rd.own 0 rfl rfl) (RepT.at_waits (RepT.mk x.id x.log x.view x.own x.mirror x.acc x.round x.vote ((bookMerge x.book x.id x.own).1) false x.kept x.waits x.ops x.replies x.told x.last) rfl)) ?_
 refine tp (PV.gtr rfl rfl rfl) ?_
 refine TL.dec (fun h23 => ?_) (fun h23 => ?_)
 refine nx J4 ?_
 refine TC.yes rfl ?_
 refine sr fun _ J5 => ?_
 refine mv ?_
 refine mv ?_
 refine tp (PV.nilCheck rfl rfl) ?_
 refine tp (PV.fieldAddr (r := 1940) rfl Tryz.underlying102 rfl sz3 rfl rfl) ?_
 refine tp (PV.load1 (v := (.int .i64 (x.waits))) rfl Tryz.underlying3 rfl rfl (Rd.own 0 rfl rfl) (RepT.at_waits (RepT.mk x.id x.log x.view x.own x.mirror x.acc x.round x.vote ((bookMerge x.book x.id x.own).1) false x.kept x.waits x.ops x.replies x.told x.last) rfl)) ?_
 refine TL.callR (A := [blkA r (RepT.cells (RepT.mk x.id x.log x.view x.own x.mirror x.acc x.round x.vote ((bookMerge x.book x.id x.own).1) false x.kept x.waits x.ops x.replies x.told x.last)) 102, own x.replies ((rs).length) (ints (List.flatMap ReplyT.flat (rs))) 37 3]) (Want.plain rfl) rfl rfl rfl nm68 rfl (reply_does r (RepT.mk x.id x.log x.view x.own x.mirror x.acc x.round x.vote ((bookMerge x.book x.id x.own).1) false x.kept x.waits x.ops x.replies x.told x.last) x.waits 0 0 (rs) hrs) (fun _ s => s) (fun _ _ _ => trivial) (fun vR HR hR => ?_)
 obtain ⟨vr1, hovr1, rfl⟩ := hR
 change TL _ _ _ _ _ _ _ _ _ [blkA r (RepT.cells (RepT.mk x.id x.log x.view x.own x.mirror x.acc x.round x.vote ((bookMerge x.book x.id x.own).1) false x.kept x.waits x.ops vr1 x.told x.last)) 102, own vr1 ((rs ++ [ReplyT.mk x.waits 0 0]).length) (ints (List.flatMap ReplyT.flat (rs ++ [ReplyT.mk x.waits 0 0]))) 37 3, E (l)]
 refine nx J5 ?_
 refine TC.region ?_
 refine mv ?_
 refine tp (PV.nilCheck rfl rfl) ?_
 refine tp (PV.fieldAddr (r := 1940) rfl Tryz.underlying102 rfl sz3 rfl rfl) ?_
 refine TL.store1 (i := 0) (H' := [blkA r (RepT.cells (RepT.mk x.id x.log x.view x.own x.mirror x.acc x.round x.vote ((bookMerge x.book x.id x.own).1) false x.kept 0 x.ops vr1 x.told x.last)) 102, own vr1 ((rs ++ [ReplyT.mk x.waits 0 0]).length) (ints (List.flatMap ReplyT.flat (rs ++ [ReplyT.mk x.waits 0 0]))) 37 3, E (l)]) (Want.plain rfl) rfl rfl rfl rfl rfl sz3 rfl rfl (by have h0 := (RepT.len (RepT.mk x.id x.log x.view x.own x.mirror x.acc x.round x.vote ((bookMerge x.book x.id x.own).1) false x.kept x.waits x.ops vr1 x.told x.last)); omega) (RepT.set_waits (RepT.mk x.id x.log x.view x.own x.mirror x.acc x.round x.vote ((bookMerge x.book x.id x.own).1) false x.kept x.waits x.ops vr1 x.told x.last) rfl _) rfl ?_
 refine nx J3 ?_
 refine sr fun _ J6 => ?_
 refine mv ?_
 refine mv ?_
 refine mv ?_
 refine tp (PV.nilCheck rfl rfl) ?_
 refine tp (PV.fieldAddr (r := 9) rfl Tryz.underlying102 rfl sz64 rfl rfl) ?_
 refine tp (PV.loadN (vs := ints x.own.flat) rfl Tryz.underlying64 rfl sz64 rfl (Rd.own 0 rfl rfl) (RowT.len x.own) (RepT.sub_own (RepT.mk x.id x.log x.view x.own x.mirror x.acc x.round x.vote ((bookMerge x.book x.id x.own).1) false x.kept 0 x.ops vr1 x.told x.last) 0 rfl (by decide) (whole (RowT.len x.own)))) ?_
 refine TL.callR (A := [blkA r (RepT.cells (RepT.mk x.id x.log x.view x.own x.mirror x.acc x.round x.vote ((bookMerge x.book x.id x.own).1) false x.kept 0 x.ops vr1 x.told x.last)) 102, E (l)]) (Want.plain rfl) rfl rfl rfl nm82 rfl (tellNews_does r T ov sf E hS (RepT.mk x.id x.log x.view x.own x.mirror x.acc x.round x.vote ((bookMerge x.book x.id x.own).1) false x.kept 0 x.ops vr1 x.told x.last) x.own (l) hl) (fun _ s => sep_selR [0, 1] rfl s) (fun _ _ _ => trivial) (fun vR HR hR => ?_)
 obtain rfl := hR
 change TL _ _ _ _ _ _ _ _ _ [blkA r (RepT.cells (RepT.mk x.id x.log x.view x.own x.mirror x.acc x.round x.vote ((bookMerge x.book x.id x.own).1) false x.kept 0 x.ops vr1 x.told x.last)) 102, E (l ++ newsL (RepT.mk x.id x.log x.view x.own x.mirror x.acc x.round x.vote ((bookMerge x.book x.id x.own).1) false x.kept 0 x.ops vr1 x.told x.last).id x.own), own vr1 ((rs ++ [ReplyT.mk x.waits 0 0]).length) (ints (List.flatMap ReplyT.flat (rs ++ [ReplyT.mk x.waits 0 0]))) 37 3]
 refine nx J6 ?_
 refine TC.region ?_
 refine mv ?_
 refine mv ?_
 refine TL.callR (A := [blkA r (RepT.cells (RepT.mk x.id x.log x.view x.own x.mirror x.acc x.round x.vote ((bookMerge x.book x.id x.own).1) false x.kept 0 x.ops vr1 x.told x.last)) 102, E (l ++ newsL (RepT.mk x.id x.log x.view x.own x.mirror x.acc x.round x.vote ((bookMerge x.book x.id x.own).1) false x.kept 0 x.ops vr1 x.told x.last).id x.own)]) (Want.plain rfl) rfl rfl rfl nm78 rfl (comeInto0_does r T ov (RepT.mk x.id x.log x.view x.own x.mirror x.acc x.round x.vote ((bookMerge x.book x.id x.own).1) false x.kept 0 x.ops vr1 x.told x.last) (E (l ++ newsL (RepT.mk x.id x.log x.view x.own x.mirror x.acc x.round x.vote ((bookMerge x.book x.id x.own).1) false x.kept 0 x.ops vr1 x.told x.last).id x.own)) hal) (fun _ s => s) (fun _ _ _ => trivial) (fun vR HR hR => ?_)
 obtain rfl := hR
 change TL _ _ _ _ _ _ _ _ _ [blkA r (RepT.cells (RepT.mk x.id x.log x.view x.own x.mirror x.acc x.round x.vote ((bookMerge x.book x.id x.own).1) false x.kept 0 x.ops vr1 x.told x.last)) 102, E (l ++ newsL (RepT.mk x.id x.log x.view x.own x.mirror x.acc x.round x.vote ((bookMerge x.book x.id x.own).1) false x.kept 0 x.ops vr1 x.told x.last).id x.own), own vr1 ((rs ++ [ReplyT.mk x.waits 0 0]).length) (ints (List.flatMap ReplyT.flat (rs ++ [ReplyT.mk x.waits 0 0]))) 37 3]
 refine TL.nil ?_
 refine TE.weak (Sub.refl _) (fun _ s => sep_keep [0, 1, 0] rfl s) ?_
 refine TE.end0 rfl ?_
 exact ⟨_, hovr1, by rw [countR, if_pos h23, show countF x = { x with busy := false, book := (bookMerge x.book x.id x.own).1, waits := 0 } by rw [countF, if_pos h23]]; rfl⟩
 refine nx J4 ?_
 refine TC.no rfl ?_
 refine TC.skip ?_
 refine TE.next J3 ?_
 refine sr fun _ J7 => ?_
 refine mv ?_
 refine mv ?_
 refine mv ?_
 refine tp (PV.nilCheck rfl rfl) ?_
 refine tp (PV.fieldAddr (r := 9) rfl Tryz.underlying102 rfl sz64 rfl rfl) ?_
 refine tp (PV.loadN (vs := ints x.own.flat) rfl Tryz.underlying64 rfl sz64 rfl (Rd.own 0 rfl rfl) (RowT.len x.own) (RepT.sub_own (RepT.mk x.id x.log x.view x.own x.mirror x.acc x.round x.vote ((bookMerge x.book x.id x.own).1) false x.kept x.waits x.ops x.replies x.told x.last) 0 rfl (by decide) (whole (RowT.len x.own)))) ?_
 refine TL.callR (A := [blkA r (RepT.cells (RepT.mk x.id x.log x.view x.own x.mirror x.acc x.round x.vote ((bookMerge x.book x.id x.own).1) false x.kept x.waits x.ops x.replies x.told x.last)) 102, E (l)]) (Want.plain rfl) rfl rfl rfl nm82 rfl (tellNews_does r T ov sf E hS (RepT.mk x.id x.log x.view x.own x.mirror x.acc x.round x.vote ((bookMerge x.book x.id x.own).1) false x.kept x.waits x.ops x.replies x.told x.last) x.own (l) hl) (fun _ s => sep_selR [0, 1] rfl s) (fun _ _ _ => trivial) (fun vR HR hR => ?_)
 obtain rfl := hR
 change TL _ _ _ _ _ _ _ _ _ [blkA r (RepT.cells (RepT.mk x.id x.log x.view x.own x.mirror x.acc x.round x.vote ((bookMerge x.book x.id x.own).1) false x.kept x.waits x.ops x.replies x.told x.last)) 102, E (l ++ newsL (RepT.mk x.id x.log x.view x.own x.mirror x.acc x.round x.vote ((bookMerge x.book x.id x.own).1) false x.kept x.waits x.ops x.replies x.told x.last).id x.own), own x.replies ((rs).length) (ints (List.flatMap ReplyT.flat (rs))) 37 3]
 refine nx J7 ?_
 refine TC.region ?_
 refine mv ?_
 refine mv ?_
 refine TL.callR (A := [blkA r (RepT.cells (RepT.mk x.id x.log x.view x.own x.mirror x.acc x.round x.vote ((bookMerge x.book x.id x.own).1) false x.kept x.waits x.ops x.replies x.told x.last)) 102, E (l ++ newsL (RepT.mk x.id x.log x.view x.own x.mirror x.acc x.round x.vote ((bookMerge x.book x.id x.own).1) false x.kept x.waits x.ops x.replies x.told x.last).id x.own)]) (Want.plain rfl) rfl rfl rfl nm78 rfl (comeInto0_does r T ov (RepT.mk x.id x.log x.view x.own x.mirror x.acc x.round x.vote ((bookMerge x.book x.id x.own).1) false x.kept x.waits x.ops x.replies x.told x.last) (E (l ++ newsL (RepT.mk x.id x.log x.view x.own x.mirror x.acc x.round x.vote ((bookMerge x.book x.id x.own).1) false x.kept x.waits x.ops x.replies x.told x.last).id x.own)) hal) (fun _ s => s) (fun _ _ _ => trivial) (fun vR HR hR => ?_)
 obtain rfl := hR
 change TL _ _ _ _ _ _ _ _ _ [blkA r (RepT.cells (RepT.mk x.id x.log x.view x.own x.mirror x.acc x.round x.vote ((bookMerge x.book x.id x.own).1) false x.kept x.waits x.ops x.replies x.told x.last)) 102, E (l ++ newsL (RepT.mk x.id x.log x.view x.own x.mirror x.acc x.round x.vote ((bookMerge x.book x.id x.own).1) false x.kept x.waits x.ops x.replies x.told x.last).id x.own), own x.replies ((rs).length) (ints (List.flatMap ReplyT.flat (rs))) 37 3]
 refine TL.nil ?_
 refine TE.weak (Sub.refl _) (fun _ s => sep_keep [0, 1, 0] rfl s) ?_
 refine TE.end0 rfl ?_
 exact ⟨x.replies, hone, by rw [countR, if_neg h23, show countF x = { x with busy := false, book := (bookMerge x.book x.id x.own).1 } by rw [countF, if_neg h23]]; rfl⟩
 exact AllT.nil
 exact AllT.nil
 refine AllT.cons rfl ?_ ?_
 refine tp (PV.loadN (vs := ints x.own.flat) rfl Tryz.underlying64 rfl sz64 rfl (Rd.own 0 rfl rfl) (RowT.len x.own) (RepT.sub_own (RepT.mk x.id x.log x.view x.own x.mirror x.acc x.round x.vote x.book false x.kept x.waits x.ops x.replies x.told x.last) 0 rfl (by decide) (whole (RowT.len x.own)))) ?_
 refine TL.nil ?_
 refine TE.draw (fun _ s => ⟨Frm.of s, trivial⟩) ?_
 refine TD.all [6] (by kernel_rfl) rfl ?_
 refine AllT.cons rfl ?_ ?_
 refine tp (PV.load1 (v := (.int .i64 (x.id))) rfl Tryz.underlying3 rfl rfl (Rd.own 0 rfl rfl) (RepT.at_id (RepT.mk x.id x.log x.view x.own x.mirror x.acc x.round x.vote x.book false x.kept x.waits x.ops x.replies x.told x.last) rfl)) ?_
 refine TL.nil ?_
 refine TE.draw (fun _ s => ⟨Frm.of s, trivial⟩) ?_
 refine TD.all [11] (by kernel_rfl) rfl ?_
 refine AllT.cons rfl ?_ ?_
 refine TL.callR (A := [blkA r (RepT.cells (RepT.mk x.id x.log x.view x.own x.mirror x.acc x.round x.vote x.book false x.kept x.waits x.ops x.replies x.told x.last)) 102]) (Want.plain rfl) rfl rfl rfl nm112 rfl (bookMerge_does r 1068 102 (fun u => RepT.cells { (RepT.mk x.id x.log x.view x.own x.mirror x.acc x.round x.vote x.book false x.kept x.waits x.ops x.replies x.told x.last) with book := u }) (RepT.arnd_book (RepT.mk x.id x.log x.view x.own x.mirror x.acc x.round x.vote x.book false x.kept x.waits x.ops x.replies x.told x.last)) x.book x.id x.own hwo) (fun _ s => s) (fun _ _ _ => trivial) (fun vR HR hR => ?_)
 obtain ⟨rfl, rfl⟩ := hR
 change TL _ _ _ _ _ _ _ _ _ [blkA r (RepT.cells (RepT.mk x.id x.log x.view x.own x.mirror x.acc x.round x.vote ((bookMerge x.book x.id x.own).1) false x.kept x.waits x.ops x.replies x.told x.last)) 102, own x.replies ((rs).length) (ints (List.flatMap ReplyT.flat (rs))) 37 3, E (l)]
 refine TL.nil ?_
 refine TE.draw (fun _ s => ⟨Frm.of s, trivial⟩) ?_
 refine TD.done (by kernel_rfl) ?_
 refine TE.next J2 ?_
 refine TC.seq fun _ J8 => ?_
 refine sr fun _ J9 => ?_
 refine mv ?_
 refine tp (PV.nilCheck rfl rfl) ?_
 refine tp (PV.fieldAddr (r := 1940) rfl Tryz.underlying102 rfl sz3 rfl rfl) ?_
 refine tp (PV.load1 (v := (.int .i64 (x.waits))) rfl Tryz.underlying3 rfl rfl (Rd.own 0 rfl rfl) (RepT.at_waits (RepT.mk x.id x.log x.view x.own x.mirror x.acc x.round x.vote ((bookMerge x.book x.id x.own).1) false x.kept x.waits x.ops x.replies x.told x.last) rfl)) ?_
 refine tp (PV.gtr rfl rfl rfl) ?_
 refine TL.dec (fun h23 => ?_) (fun h23 => ?_)
 refine nx J9 ?_
 refine TC.yes rfl ?_
 refine sr fun _ J10 => ?_
 refine mv ?_
 refine mv ?_
 refine tp (PV.nilCheck rfl rfl) ?_
 refine tp (PV.fieldAddr (r := 1940) rfl Tryz.underlying102 rfl sz3 rfl rfl) ?_
 refine tp (PV.load1 (v := (.int .i64 (x.waits))) rfl Tryz.underlying3 rfl rfl (Rd.own 0 rfl rfl) (RepT.at_waits (RepT.mk x.id x.log x.view x.own x.mirror x.acc x.round x.vote ((bookMerge x.book x.id x.own).1) false x.kept x.waits x.ops x.replies x.told x.last) rfl)) ?_
 refine TL.callR (A := [blkA r (RepT.cells (RepT.mk x.id x.log x.view x.own x.mirror x.acc x.round x.vote ((bookMerge x.book x.id x.own).1) false x.kept x.waits x.ops x.replies x.told x.last)) 102, own x.replies ((rs).length) (ints (List.flatMap ReplyT.flat (rs))) 37 3]) (Want.plain rfl) rfl rfl rfl nm68 rfl (reply_does r (RepT.mk x.id x.log x.view x.own x.mirror x.acc x.round x.vote ((bookMerge x.book x.id x.own).1) false x.kept x.waits x.ops x.replies x.told x.last) x.waits 0 0 (rs) hrs) (fun _ s => s) (fun _ _ _ => trivial) (fun vR HR hR => ?_)
 obtain ⟨vr1, hovr1, rfl⟩ := hR
 change TL _ _ _ _ _ _ _ _ _ [blkA r (RepT.cells (RepT.mk x.id x.log x.view x.own x.mirror x.acc x.round x.vote ((bookMerge x.book x.id x.own).1) false x.kept x.waits x.ops vr1 x.told x.last)) 102, own vr1 ((rs ++ [ReplyT.mk x.waits 0 0]).length) (ints (List.flatMap ReplyT.flat (rs ++ [ReplyT.mk x.waits 0 0]))) 37 3, E (l)]
 refine nx J10 ?_
 refine TC.region ?_
 refine mv ?_
 refine tp (PV.nilCheck rfl rfl) ?_
 refine tp (PV.fieldAddr (r := 1940) rfl Tryz.underlying102 rfl sz3 rfl rfl) ?_
 refine TL.store1 (i := 0) (H' := [blkA r (RepT.cells (RepT.mk x.id x.log x.view x.own x.mirror x.acc x.round x.vote ((bookMerge x.book x.id x.own).1) false x.kept 0 x.ops vr1 x.told x.last)) 102, own vr1 ((rs ++ [ReplyT.mk x.waits 0 0]).length) (ints (List.flatMap ReplyT.flat (rs ++ [ReplyT.mk x.waits 0 0]))) 37 3, E (l)]) (Want.plain rfl) rfl rfl rfl rfl rfl sz3 rfl rfl (by have h0 := (RepT.len (RepT.mk x.id x.log x.view x.own x.mirror x.acc x.round x.vote ((bookMerge x.book x.id x.own).1) false x.kept x.waits x.ops vr1 x.told x.last)); omega) (RepT.set_waits (RepT.mk x.id x.log x.view x.own x.mirror x.acc x.round x.vote ((bookMerge x.book x.id x.own).1) false x.kept x.waits x.ops vr1 x.told x.last) rfl _) rfl ?_
 refine nx J8 ?_
 refine sr fun _ J11 => ?_
 refine mv ?_
 refine mv ?_
 refine mv ?_
 refine tp (PV.nilCheck rfl rfl) ?_
 refine tp (PV.fieldAddr (r := 9) rfl Tryz.underlying102 rfl sz64 rfl rfl) ?_
 refine tp (PV.loadN (vs := ints x.own.flat) rfl Tryz.underlying64 rfl sz64 rfl (Rd.own 0 rfl rfl) (RowT.len x.own) (RepT.sub_own (RepT.mk x.id x.log x.view x.own x.mirror x.acc x.round x.vote ((bookMerge x.book x.id x.own).1) false x.kept 0 x.ops vr1 x.told x.last) 0 rfl (by decide) (whole (RowT.len x.own)))) ?_
 refine TL.callR (A := [blkA r (RepT.cells (RepT.mk x.id x.log x.view x.own x.mirror x.acc x.round x.vote ((bookMerge x.book x.id x.own).1) false x.kept 0 x.ops vr1 x.told x.last)) 102, E (l)]) (Want.plain rfl) rfl rfl rfl nm82 rfl (tellNews_does r T ov sf E hS (RepT.mk x.id x.log x.view x.own x.mirror x.acc x.round x.vote ((bookMerge x.book x.id x.own).1) false x.kept 0 x.ops vr1 x.told x.last) x.own (l) hl) (fun _ s => sep_selR [0, 1] rfl s) (fun _ _ _ => trivial) (fun vR HR hR => ?_)
 obtain rfl := hR
 change TL _ _ _ _ _ _ _ _ _ [blkA r (RepT.cells (RepT.mk x.id x.log x.view x.own x.mirror x.acc x.round x.vote ((bookMerge x.book x.id x.own).1) false x.kept 0 x.ops vr1 x.told x.last)) 102, E (l ++ newsL (RepT.mk x.id x.log x.view x.own x.mirror x.acc x.round x.vote ((bookMerge x.book x.id x.own).1) false x.kept 0 x.ops vr1 x.told x.last).id x.own), own vr1 ((rs ++ [ReplyT.mk x.waits 0 0]).length) (ints (List.flatMap ReplyT.flat (rs ++ [ReplyT.mk x.waits 0 0]))) 37 3]
 refine nx J11 ?_
 refine TC.region ?_
 refine mv ?_
 refine mv ?_
 refine TL.callR (A := [blkA r (RepT.cells (RepT.mk x.id x.log x.view x.own x.mirror x.acc x.round x.vote ((bookMerge x.book x.id x.own).1) false x.kept 0 x.ops vr1 x.told x.last)) 102, E (l ++ newsL (RepT.mk x.id x.log x.view x.own x.mirror x.acc x.round x.vote ((bookMerge x.book x.id x.own).1) false x.kept 0 x.ops vr1 x.told x.last).id x.own)]) (Want.plain rfl) rfl rfl rfl nm78 rfl (comeInto0_does r T ov (RepT.mk x.id x.log x.view x.own x.mirror x.acc x.round x.vote ((bookMerge x.book x.id x.own).1) false x.kept 0 x.ops vr1 x.told x.last) (E (l ++ newsL (RepT.mk x.id x.log x.view x.own x.mirror x.acc x.round x.vote ((bookMerge x.book x.id x.own).1) false x.kept 0 x.ops vr1 x.told x.last).id x.own)) hal) (fun _ s => s) (fun _ _ _ => trivial) (fun vR HR hR => ?_)
 obtain rfl := hR
 change TL _ _ _ _ _ _ _ _ _ [blkA r (RepT.cells (RepT.mk x.id x.log x.view x.own x.mirror x.acc x.round x.vote ((bookMerge x.book x.id x.own).1) false x.kept 0 x.ops vr1 x.told x.last)) 102, E (l ++ newsL (RepT.mk x.id x.log x.view x.own x.mirror x.acc x.round x.vote ((bookMerge x.book x.id x.own).1) false x.kept 0 x.ops vr1 x.told x.last).id x.own), own vr1 ((rs ++ [ReplyT.mk x.waits 0 0]).length) (ints (List.flatMap ReplyT.flat (rs ++ [ReplyT.mk x.waits 0 0]))) 37 3]
 refine TL.nil ?_
 refine TE.weak (Sub.refl _) (fun _ s => sep_keep [0, 1, 0] rfl s) ?_
 refine TE.end0 rfl ?_
 exact ⟨_, hovr1, by rw [countR, if_pos h23, show countF x = { x with busy := false, book := (bookMerge x.book x.id x.own).1, waits := 0 } by rw [countF, if_pos h23]]; rfl⟩
 refine nx J9 ?_
 refine TC.no rfl ?_
 refine TC.skip ?_
 refine TE.next J8 ?_
 refine sr fun _ J12 => ?_
 refine mv ?_
 refine mv ?_
 refine mv ?_
 refine tp (PV.nilCheck rfl rfl) ?_
 refine tp (PV.fieldAddr (r := 9) rfl Tryz.underlying102 rfl sz64 rfl rfl) ?_
 refine tp (PV.loadN (vs := ints x.own.flat) rfl Tryz.underlying64 rfl sz64 rfl (Rd.own 0 rfl rfl) (RowT.len x.own) (RepT.sub_own (RepT.mk x.id x.log x.view x.own x.mirror x.acc x.round x.vote ((bookMerge x.book x.id x.own).1) false x.kept x.waits x.ops x.replies x.told x.last) 0 rfl (by decide) (whole (RowT.len x.own)))) ?_
 refine TL.callR (A := [blkA r (RepT.cells (RepT.mk x.id x.log x.view x.own x.mirror x.acc x.round x.vote ((bookMerge x.book x.id x.own).1) false x.kept x.waits x.ops x.replies x.told x.last)) 102, E (l)]) (Want.plain rfl) rfl rfl rfl nm82 rfl (tellNews_does r T ov sf E hS (RepT.mk x.id x.log x.view x.own x.mirror x.acc x.round x.vote ((bookMerge x.book x.id x.own).1) false x.kept x.waits x.ops x.replies x.told x.last) x.own (l) hl) (fun _ s => sep_selR [0, 1] rfl s) (fun _ _ _ => trivial) (fun vR HR hR => ?_)
 obtain rfl := hR
 change TL _ _ _ _ _ _ _ _ _ [blkA r (RepT.cells (RepT.mk x.id x.log x.view x.own x.mirror x.acc x.round x.vote ((bookMerge x.book x.id x.own).1) false x.kept x.waits x.ops x.replies x.told x.last)) 102, E (l ++ newsL (RepT.mk x.id x.log x.view x.own x.mirror x.acc x.round x.vote ((bookMerge x.book x.id x.own).1) false x.kept x.waits x.ops x.replies x.told x.last).id x.own), own x.replies ((rs).length) (ints (List.flatMap ReplyT.flat (rs))) 37 3]
 refine nx J12 ?_
 refine TC.region ?_
 refine mv ?_
 refine mv ?_
 refine TL.callR (A := [blkA r (RepT.cells (RepT.mk x.id x.log x.view x.own x.mirror x.acc x.round x.vote ((bookMerge x.book x.id x.own).1) false x.kept x.waits x.ops x.replies x.told x.last)) 102, E (l ++ newsL (RepT.mk x.id x.log x.view x.own x.mirror x.acc x.round x.vote ((bookMerge x.book x.id x.own).1) false x.kept x.waits x.ops x.replies x.told x.last).id x.own)]) (Want.plain rfl) rfl rfl rfl nm78 rfl (comeInto0_does r T ov (RepT.mk x.id x.log x.view x.own x.mirror x.acc x.round x.vote ((bookMerge x.book x.id x.own).1) false x.kept x.waits x.ops x.replies x.told x.last) (E (l ++ newsL (RepT.mk x.id x.log x.view x.own x.mirror x.acc x.round x.vote ((bookMerge x.book x.id x.own).1) false x.kept x.waits x.ops x.replies x.told x.last).id x.own)) hal) (fun _ s => s) (fun _ _ _ => trivial) (fun vR HR hR => ?_)
 obtain rfl := hR
 change TL _ _ _ _ _ _ _ _ _ [blkA r (RepT.cells (RepT.mk x.id x.log x.view x.own x.mirror x.acc x.round x.vote ((bookMerge x.book x.id x.own).1) false x.kept x.waits x.ops x.replies x.told x.last)) 102, E (l ++ newsL (RepT.mk x.id x.log x.view x.own x.mirror x.acc x.round x.vote ((bookMerge x.book x.id x.own).1) false x.kept x.waits x.ops x.replies x.told x.last).id x.own), own x.replies ((rs).length) (ints (List.flatMap ReplyT.flat (rs))) 37 3]
 refine TL.nil ?_
 refine TE.weak (Sub.refl _) (fun _ s => sep_keep [0, 1, 0] rfl s) ?_
 refine TE.end0 rfl ?_
 exact ⟨x.replies, hone, by rw [countR, if_neg h23, show countF x = { x with busy := false, book := (bookMerge x.book x.id x.own).1 } by rw [countF, if_neg h23]]; rfl⟩
 exact AllT.nil
 exact AllT.nil
 exact AllT.nil
theorem takeKept_does (r : Nat) (T : Nat) (ov : Value) (sf : Nat) (E : List SaidT → HP) (hS : SendOk T ov sf E) (x : RepT) (from' : Int) (m : MsgT) (rs : List ReplyT) (l : List SaidT) (hid : machB x.id = true) (hwo : WF x.own.flat) (hal : Alone x) (hl : l.length ≤ 900000) (hrs : rs.length ≤ 1000000) :
    Leg.Does Tryz.prog 111 #[(.pointer (some ⟨r, 0, none⟩)), (.iface T ov), (.int .i64 (from')), (.agg (ints m.flat).toArray)] (fun _ => True) [blkA r (RepT.cells x) 102, own x.replies ((rs).length) (ints (List.flatMap ReplyT.flat (rs))) 37 3, E (l)] (Ret (fun _ H => ∃ v', v'.oneCell' = true ∧ H = [blkA r (RepT.cells { keptS x from' m.version with replies := v' }) 102, own v' (keptR x from' m.version rs).length (ints (List.flatMap ReplyT.flat (keptR x from' m.version rs))) 37 3, E (l ++ keptO x from' m.version)])) := by
 refine Leg.Does.body (n := 64) Tryz.func111 rfl rfl rfl (fun w0 F hF => ?_)
 have hid2 : 0 ≤ x.id ∧ x.id < 5 := of_decide_eq_true hid
 refine sr fun _ J1 => ?_
 refine TL.ownLen 1 rfl rfl (fun _ hone => ?_)
 refine TL.box (Want.plain rfl) rfl rfl rfl rfl (fun b7 => ?_)
 change TL _ _ _ _ _ _ _ _ _ [blkA b7 (ints m.flat) 146, blkA r (RepT.cells x) 102, own x.replies ((rs).length) (ints (List.flatMap ReplyT.flat (rs))) 37 3, E (l)]
 refine nx J1 (sr fun _ J2 => ?_)
 refine PS ?_
 refine PS ?_
 refine FA 0 Tryz.underlying102 sz3 ?_
 refine tp (PV.load1 (v := (.int .i64 (x.id))) rfl Tryz.underlying3 rfl rfl (RO 1) (RepT.at_id x rfl)) ?_
 refine CR nm21 (wit2_does x.id hid) (fun _ s => s) fun vR HR hR => ?_
 obtain ⟨_, rfl, rfl⟩ := hR
 revert vR
 intro uw
 refine TL.ownLen 0 rfl rfl (fun hluw _ => ?_)
 refine TL.ownAt 0 rfl rfl (by omega) (fun gw capw hvw hcapw => ?_)
 refine PS ?_
 refine nx J2 ?_
 refine TC.seq fun _ J3 => ?_
 refine TC.seq fun _ J4 => ?_
 refine D2 2 1 mixed ?_
 refine PD 0 ?_
 refine PD 1 ?_
 refine FD 2 1938 Tryz.underlying102 sz4 ?_
 refine ta 3 rfl (PV.load1 (v := (.bool (x.busy))) rfl Tryz.underlying4 rfl rfl (fun _ h => h.2.1) (RepT.at_busy x rfl)) ?_
 refine TD.decB (fun h19 => ?_) (fun h19 => ?_)
 refine ta 4 rfl (PV.not (r := false) rfl rfl rfl) ?_
 refine PD 5 ?_
 refine FD 6 176 Tryz.underlying146 sz3 ?_
 refine tb 7 rfl (PV.load1 (v := (.int .i64 (m.version))) rfl Tryz.underlying3 rfl rfl (fun _ h => h.2.2.1) (MsgT.at_version m rfl)) ?_
 refine PD 8 ?_
 refine PD 9 ?_
 refine FD 10 9 Tryz.underlying102 sz64 ?_
 refine FD 11 9 Tryz.underlying64 sz3 ?_
 refine tb 12 rfl (PV.load1 (v := (.int .i64 (x.own.version))) rfl Tryz.underlying3 rfl rfl (fun _ h => h.2.1) (RepT.pt_own x 0 rfl (by decide) (RowT.at_version x.own rfl))) ?_
 refine PD 13 ?_
 refine TD.dec (fun h29 => ?_) (fun h29 => ?_)
 refine PD 14 ?_
 refine PD 15 ?_
 refine NT 16 ?_
 refine NT 17 ?_
 refine NT 18 ?_
 refine NT 19 ?_
 refine PD 20 ?_
 refine TD.done (by kernel_rfl) ?_
 refine TE.next J4 ?_
 refine CY ?_
 refine TC.ret ?_
 refine TE.passRet ?_
 refine WK [2, 2, 2] ?_
 refine TE.ret0 rfl ?_
 have ew : witL x.id = [(x.id + 1) % 5, (x.id + 2) % 5] := by rw [witL, if_pos hid]
 have e : keptB x from' m.version = false := by rw [keptB, ew, decide_eq_false h29]; simp
 exact ⟨x.replies, hone, by rw [show keptS x from' m.version = x by rw [keptS, e]; rfl, show keptR x from' m.version rs = rs by rw [keptR, e]; rfl, show keptO x from' m.version = [] by rw [keptO, e]; rfl, List.append_nil]; rfl⟩
 refine PD 14 ?_
 refine PD 15 ?_
 refine PD 16 ?_
 refine PD 17 ?_
 refine TD.all [18] (by kernel_rfl) rfl ?_
 refine AllT.cons rfl ?_ ?_
 refine CQ nm146 (contains_does uw [(x.id + 1) % 5, (x.id + 2) % 5] from' (by decide : 2 ≤ 1000000)) (fun _ s => s) (isI_own (l := [(x.id + 1) % 5, (x.id + 2) % 5]) 0 rfl rfl) fun vR HR hR => ?_
 obtain ⟨rfl, rfl⟩ := hR
 refine TL.dec (fun h34 => ?_) (fun h34 => ?_)
 have hmem := h34
 simp only [List.mem_cons, List.not_mem_nil, or_false] at hmem
 have hfr : 0 ≤ from' ∧ from' < 5 := by omega
 refine TL.nil ?_
 refine E2 2 1 ?_
 refine tb 19 rfl (PV.not (r := false) rfl rfl rfl) ?_
 refine PD 20 ?_
 refine TD.done (by kernel_rfl) ?_
 refine TE.next J4 ?_
 refine CN ?_
 refine CX J3 ?_
 refine TC.seq fun _ J5 => ?_
 refine D0 mixed ?_
 refine PD 0 ?_
 refine PD 1 ?_
 refine FD 2 1939 Tryz.underlying102 sz3 ?_
 refine PD 4 ?_
 refine ta 5 rfl (PV.shl (r := (IntKind.i64.wrap (1 * 2 ^ min from'.toNat IntKind.i64.bits))) rfl rfl rfl (by omega) rfl) ?_
 refine TD.all [3] (by kernel_rfl) rfl ?_
 refine AllT.cons rfl ?_ ?_
 refine tp (PV.load1 (v := (.int .i64 (x.kept))) rfl Tryz.underlying3 rfl rfl (RO 2) (RepT.at_kept x rfl)) ?_
 refine TL.nil ?_
 refine E0 ?_
 refine ta 6 rfl (PV.or (r := (orI .i64 x.kept (IntKind.i64.wrap (1 * 2 ^ min from'.toNat IntKind.i64.bits)))) rfl rfl rfl rfl) ?_
 refine PD 7 ?_
 refine FD 8 1939 Tryz.underlying102 sz3 ?_
 refine TD.all [9] (by kernel_rfl) rfl ?_
 refine AllT.cons rfl ?_ ?_
 refine TL.store1 (i := 2) (Want.plain rfl) rfl rfl rfl rfl rfl sz3 rfl rfl (by have h0 := (RepT.len x); omega) (RepT.set_kept x rfl _) rfl ?_
 refine TL.nil ?_
 refine E0 ?_
 refine TD.done (by kernel_rfl) ?_
 refine TE.next J5 ?_
 refine TC.seq fun _ J6 => ?_
 refine sr fun _ J7 => ?_
 refine PS ?_
 refine tp (PV.lenV rfl Tryz.underlying50 rfl hluw) ?_
 refine PS ?_
 refine nx J7 ?_
 refine TC.block ?_
 refine TC.unroll 2 ?_
 refine sr fun _ J8 => ?_
 refine PS ?_
 refine nx J8 ?_
 refine TC.seq fun _ J9 => ?_
 refine CY ?_
 refine CX J9 ?_
 refine TC.seq fun _ J10 => ?_
 refine TC.block ?_
 refine sr fun _ J11 => ?_
 refine tp (PV.indexSlV (r := 0) hvw rfl Tryz.underlying50 sz3 rfl rfl (by omega) (by omega) rfl) ?_
 refine tp (PV.load1X (v := (.int .i64 (((x.id + 1) % 5)))) rfl Tryz.underlying3 rfl rfl (RdX.own 0 rfl hvw rfl) rfl) ?_
 refine PS ?_
 refine nx J11 (sr fun _ J12 => ?_)
 refine PS ?_
 refine PS ?_
 refine FA 1939 Tryz.underlying102 sz3 ?_
 refine tp (PV.load1 (v := (.int .i64 ((orI .i64 x.kept (IntKind.i64.wrap (1 * 2 ^ min from'.toNat IntKind.i64.bits)))))) rfl Tryz.underlying3 rfl rfl (RO 2) (RepT.at_kept _ rfl)) ?_
 refine PS ?_
 refine tp (PV.shr (r := ((orI .i64 x.kept (IntKind.i64.wrap (1 * 2 ^ min from'.toNat IntKind.i64.bits))).fdiv (2 ^ min (((x.id + 1) % 5)).toNat IntKind.i64.bits))) rfl rfl rfl (by omega) rfl) ?_
 refine tp (PV.and (r := (((orI .i64 x.kept (IntKind.i64.wrap (1 * 2 ^ min from'.toNat IntKind.i64.bits))).fdiv (2 ^ min (((x.id + 1) % 5)).toNat IntKind.i64.bits)) % 2)) rfl rfl rfl (mask (k := 1) (by decide) _)) ?_
 refine PS ?_
 refine TL.dec (fun h59 => ?_) (fun h59 => ?_)
 refine nx J12 ?_
 refine CY ?_
 refine TC.ret ?_
 refine TE.blockRet ?_
 refine TE.passRet ?_
 refine TE.passRet ?_
 refine TE.blockRet ?_
 refine TE.passRet ?_
 refine WK [2, 2, 2] ?_
 refine TE.ret0 rfl ?_
 have ew : witL x.id = [(x.id + 1) % 5, (x.id + 2) % 5] := by rw [witL, if_pos hid]
 have e : keptB x from' m.version = true := by rw [keptB, h19, ew, decide_eq_true (show m.version = x.own.version by omega), decide_eq_true h34]; rfl
 have e2 : fullB (keptX x from') = false := by rw [fullB, show witL (keptX x from').id = [(x.id + 1) % 5, (x.id + 2) % 5] from ew]; simp only [List.all_cons, List.all_nil, bit0, keptX, *, decide_true, decide_false, Bool.not_true, Bool.not_false, Bool.and_true, Bool.true_and, Bool.false_and, Bool.and_false]
 exact ⟨x.replies, hone, by rw [show keptS x from' m.version = keptX x from' by rw [keptS, e, if_pos rfl, e2]; rfl, show keptR x from' m.version rs = rs by rw [keptR, e, e2]; rfl, show keptO x from' m.version = [] by rw [keptO, e, e2]; rfl, List.append_nil]; rfl⟩
 refine nx J12 ?_
 refine CN ?_
 refine TC.skip ?_
 refine TE.blockEnd ?_
 refine TE.next J10 ?_
 refine TC.region ?_
 refine tp (PV.add (r := 1) rfl rfl rfl (by decide)) ?_
 refine PS ?_
 refine TL.nil ?_
 refine TE.again ?_
 refine sr fun _ J13 => ?_
 refine PS ?_
 refine nx J13 ?_
 refine TC.seq fun _ J14 => ?_
 refine CY ?_
 refine CX J14 ?_
 refine TC.seq fun _ J15 => ?_
 refine TC.block ?_
 refine sr fun _ J16 => ?_
 refine tp (PV.indexSlV (r := 1) hvw rfl Tryz.underlying50 sz3 rfl rfl (by omega) (by omega) rfl) ?_
 refine tp (PV.load1X (v := (.int .i64 (((x.id + 2) % 5)))) rfl Tryz.underlying3 rfl rfl (RdX.own 0 rfl hvw rfl) rfl) ?_
 refine PS ?_
 refine nx J16 (sr fun _ J17 => ?_)
 refine PS ?_
 refine PS ?_
 refine FA 1939 Tryz.underlying102 sz3 ?_
 refine tp (PV.load1 (v := (.int .i64 ((orI .i64 x.kept (IntKind.i64.wrap (1 * 2 ^ min from'.toNat IntKind.i64.bits)))))) rfl Tryz.underlying3 rfl rfl (RO 2) (RepT.at_kept _ rfl)) ?_
 refine PS ?_
 refine tp (PV.shr (r := ((orI .i64 x.kept (IntKind.i64.wrap (1 * 2 ^ min from'.toNat IntKind.i64.bits))).fdiv (2 ^ min (((x.id + 2) % 5)).toNat IntKind.i64.bits))) rfl rfl rfl (by omega) rfl) ?_
 refine tp (PV.and (r := (((orI .i64 x.kept (IntKind.i64.wrap (1 * 2 ^ min from'.toNat IntKind.i64.bits))).fdiv (2 ^ min (((x.id + 2) % 5)).toNat IntKind.i64.bits)) % 2)) rfl rfl rfl (mask (k := 1) (by decide) _)) ?_
 refine PS ?_
 refine TL.dec (fun h59 => ?_) (fun h59 => ?_)
 refine nx J17 ?_
 refine CY ?_
 refine TC.ret ?_
 refine TE.blockRet ?_
 refine TE.passRet ?_
 refine TE.passRet ?_
 refine TE.blockRet ?_
 refine TE.passRet ?_
 refine WK [2, 2, 2] ?_
 refine TE.ret0 rfl ?_
 have ew : witL x.id = [(x.id + 1) % 5, (x.id + 2) % 5] := by rw [witL, if_pos hid]
 have e : keptB x from' m.version = true := by rw [keptB, h19, ew, decide_eq_true (show m.version = x.own.version by omega), decide_eq_true h34]; rfl
 have e2 : fullB (keptX x from') = false := by rw [fullB, show witL (keptX x from').id = [(x.id + 1) % 5, (x.id + 2) % 5] from ew]; simp only [List.all_cons, List.all_nil, bit0, keptX, *, decide_true, decide_false, Bool.not_true, Bool.not_false, Bool.and_true, Bool.true_and, Bool.false_and, Bool.and_false]
 exact ⟨x.replies, hone, by rw [show keptS x from' m.version = keptX x from' by rw [keptS, e, if_pos rfl, e2]; rfl, show keptR x from' m.version rs = rs by rw [keptR, e, e2]; rfl, show keptO x from' m.version = [] by rw [keptO, e, e2]; rfl, List.append_nil]; rfl⟩
 refine nx J17 ?_
 refine CN ?_
 refine TC.skip ?_
 refine TE.blockEnd ?_
 refine TE.next J15 ?_
 refine TC.region ?_
 refine tp (PV.add (r := 2) rfl rfl rfl (by decide)) ?_
 refine PS ?_
 refine TL.nil ?_
 refine TE.again ?_
 refine sr fun _ J18 => ?_
 refine PS ?_
 refine nx J18 ?_
 refine TC.seq fun _ J19 => ?_
 refine CN ?_
 refine TC.exit ?_
 refine TE.pass ?_
 refine TE.pass ?_
 refine TE.hit ?_
 refine TE.next J6 ?_
 refine TC.region ?_
 refine PS ?_
 refine PS ?_
 refine CR nm147 (counted_does r T ov sf E hS (RepT.mk x.id x.log x.view x.own x.mirror x.acc x.round x.vote x.book x.busy (orI .i64 x.kept (IntKind.i64.wrap (1 * 2 ^ min from'.toNat IntKind.i64.bits))) x.waits x.ops x.replies x.told x.last) (rs) (l) hwo hal hl hrs) (SM [2, 2, 2]) fun vR HR hR => ?_
 obtain ⟨vk, hvk, rfl⟩ := hR
 refine TL.nil ?_
 refine WK [0, 0, 0] ?_
 refine TE.end0 rfl ?_
 have ew : witL x.id = [(x.id + 1) % 5, (x.id + 2) % 5] := by rw [witL, if_pos hid]
 have e : keptB x from' m.version = true := by rw [keptB, h19, ew, decide_eq_true (show m.version = x.own.version by omega), decide_eq_true h34]; rfl
 have e2 : fullB (keptX x from') = true := by rw [fullB, show witL (keptX x from').id = [(x.id + 1) % 5, (x.id + 2) % 5] from ew]; simp only [List.all_cons, List.all_nil, bit0, keptX, *, decide_true, decide_false, Bool.not_true, Bool.not_false, Bool.and_true, Bool.true_and, Bool.false_and, Bool.and_false]
 exact ⟨vk, hvk, by rw [show keptS x from' m.version = countF (keptX x from') by rw [keptS, e, if_pos rfl, e2, if_pos rfl], show keptR x from' m.version rs = countR (keptX x from') rs by rw [keptR, e, e2]; rfl, show keptO x from' m.version = newsL x.id x.own by rw [keptO, e, e2]; rfl]; rfl⟩
 exact AllT.nil
 exact AllT.nil
 refine TL.nil ?_
 refine E2 2 1 ?_
 refine tb 19 rfl (PV.not (r := true) rfl rfl rfl) ?_
 refine PD 20 ?_
 refine TD.done (by kernel_rfl) ?_
 refine TE.next J4 ?_
 refine CY ?_
 refine TC.ret ?_
 refine TE.passRet ?_
 refine WK [2, 2, 2] ?_
 refine TE.ret0 rfl ?_
 have ew : witL x.id = [(x.id + 1) % 5, (x.id + 2) % 5] := by rw [witL, if_pos hid]
 have e : keptB x from' m.version = false := by rw [keptB, ew, decide_eq_false h34]; simp
 exact ⟨x.replies, hone, by rw [show keptS x from' m.version = x by rw [keptS, e]; rfl, show keptR x from' m.version rs = rs by rw [keptR, e]; rfl, show keptO x from' m.version = [] by rw [keptO, e]; rfl, List.append_nil]; rfl⟩
 exact AllT.nil
 refine ta 4 rfl (PV.not (r := true) rfl rfl rfl) ?_
 refine PD 5 ?_
 refine NT 6 ?_
 refine NT 7 ?_
 refine NT 8 ?_
 refine NT 9 ?_
 refine NT 10 ?_
 refine NT 11 ?_
 refine NT 12 ?_
 refine NT 13 ?_
 refine PD 14 ?_
 refine PD 15 ?_
 refine NT 16 ?_
 refine NT 17 ?_
 refine NT 18 ?_
 refine NT 19 ?_
 refine PD 20 ?_
 refine TD.done (by kernel_rfl) ?_
 refine TE.next J4 ?_
 refine CY ?_
 refine TC.ret ?_
 refine TE.passRet ?_
 refine WK [2, 2, 2] ?_
 refine TE.ret0 rfl ?_
 have ew : witL x.id = [(x.id + 1) % 5, (x.id + 2) % 5] := by rw [witL, if_pos hid]
 have e : keptB x from' m.version = false := by rw [keptB, ew, h19]; simp
 exact ⟨x.replies, hone, by rw [show keptS x from' m.version = x by rw [keptS, e]; rfl, show keptR x from' m.version rs = rs by rw [keptR, e]; rfl, show keptO x from' m.version = [] by rw [keptO, e]; rfl, List.append_nil]; rfl⟩
theorem takeRow_does (r lg d : Nat) (T : Nat) (ov : Value) (sf : Nat) (E : List (List UInt8) → List SaidT → HP) (hS : ∀ c, SendOk T ov sf (E c)) (hP : PutOk lg d E) (x : RepT) (from' : Int) (m : MsgT) (recs : List (List UInt8)) (l : List SaidT) (hlog : x.log = .pointer (some ⟨lg, 0, none⟩)) (hroom : sizeS recs + 34 ≤ 2048) (hx : WF m.row.flat) (hl : l.length ≤ 900000) (hto : from' ≠ x.id) :
    Leg.Does Tryz.prog 110 #[(.pointer (some ⟨r, 0, none⟩)), (.iface T ov), (.int .i64 (from')), (.agg (ints m.flat).toArray)] (fun _ => True) [blkA r (RepT.cells x) 102, lgL lg d (recs), E (recs) (l)] (Ret (fun _ H => H = [blkA r (RepT.cells (rowX x from' m.whose m.row)) 102, lgL lg d (rowC x from' m.whose m.row recs), E (rowC x from' m.whose m.row recs) (l ++ rowO x from' m.whose m.row)])) := by
 refine Leg.Does.body (n := 56) Tryz.func110 rfl rfl rfl (fun w0 F hF => ?_)
 refine sr fun _ J1 => ?_
 refine TL.box (Want.plain rfl) rfl rfl rfl rfl (fun b7 => ?_)
 change TL _ _ _ _ _ _ _ _ _ [blkA b7 (ints m.flat) 146, blkA r (RepT.cells x) 102, lgL lg d (recs), E (recs) (l)]
 refine nx J1 ?_
 refine TC.seq fun _ J2 => ?_
 refine TC.seq fun _ J3 => ?_
 refine D1 0 mixed ?_
 refine FD 0 1 Tryz.underlying146 sz3 ?_
 refine ta 1 rfl (PV.load1 (v := (.int .i64 (m.whose))) rfl Tryz.underlying3 rfl rfl (fun _ h => h.2.1) (MsgT.at_whose m rfl)) ?_
 refine PD 2 ?_
 refine PD 3 ?_
 refine TD.dec (fun h11 => ?_) (fun h11 => ?_)
 refine PD 4 ?_
 refine NT 5 ?_
 refine NT 6 ?_
 refine NT 7 ?_
 refine NT 8 ?_
 refine NT 9 ?_
 refine NT 10 ?_
 refine PD 11 ?_
 refine TD.done (by kernel_rfl) ?_
 refine TE.next J3 ?_
 refine CY ?_
 refine TC.ret ?_
 refine TE.passRet ?_
 refine WK [1, 1, 1] ?_
 refine TE.ret0 rfl ?_
 have e := (show rowB x from' m.whose = false from by rw [rowB, decide_eq_false h11]; rfl)
 obtain ⟨e1, e2, e3⟩ := row_no (y := m.row) (recs := recs) e
 exact by rw [e1, e2, e3, List.append_nil]; rfl
 refine PD 4 ?_
 refine PD 5 ?_
 refine PD 6 ?_
 refine FD 7 183 Tryz.underlying102 sz93 ?_
 refine FD 8 1 Tryz.underlying146 sz3 ?_
 refine tb 9 rfl (PV.load1 (v := (.int .i64 (m.whose))) rfl Tryz.underlying3 rfl rfl (fun _ h => h.2.1) (MsgT.at_whose m rfl)) ?_
 refine TD.all [10] (by kernel_rfl) rfl ?_
 refine AllT.cons rfl ?_ ?_
 refine CR nm89 (mirSealed_does r 183 102 (fun u => RepT.cells { x with mirror := u }) (RepT.arnd_mirror x) x.mirror m.whose) (SM [1]) fun vR HR hR => ?_
 obtain ⟨rfl, rfl⟩ := hR
 refine TL.decB (fun h18 => ?_) (fun h18 => ?_)
 refine TL.nil ?_
 refine E1 1 ?_
 refine PD 11 ?_
 refine TD.done (by kernel_rfl) ?_
 refine TE.next J3 ?_
 refine CY ?_
 refine TC.ret ?_
 refine TE.passRet ?_
 refine WK [0, 1, 1] ?_
 refine TE.ret0 rfl ?_
 have e := (show rowB x from' m.whose = false from by rw [rowB, h18, Bool.not_true, Bool.and_false])
 obtain ⟨e1, e2, e3⟩ := row_no (y := m.row) (recs := recs) e
 exact by rw [e1, e2, e3, List.append_nil]; rfl
 refine TL.nil ?_
 refine E1 1 ?_
 refine PD 11 ?_
 refine TD.done (by kernel_rfl) ?_
 refine TE.next J3 ?_
 refine CN ?_
 refine CX J2 ?_
 refine TC.seq fun _ J4 => ?_
 refine TC.seq fun _ J5 => ?_
 refine D1 1 mixed ?_
 refine PD 0 ?_
 refine PD 1 ?_
 refine FD 2 183 Tryz.underlying102 sz93 ?_
 refine FD 3 1 Tryz.underlying146 sz3 ?_
 refine ta 4 rfl (PV.load1 (v := (.int .i64 (m.whose))) rfl Tryz.underlying3 rfl rfl (fun _ h => h.2.1) (MsgT.at_whose m rfl)) ?_
 refine FD 5 2 Tryz.underlying146 sz64 ?_
 refine ta 6 rfl (PV.loadN (vs := ints m.row.flat) rfl Tryz.underlying64 rfl sz64 rfl (fun _ h => h.2.1) (RowT.len m.row) (MsgT.sub_row m 0 rfl (by decide) (whole (RowT.len m.row)))) ?_
 refine TD.all [7] (by kernel_rfl) rfl ?_
 refine AllT.cons rfl ?_ ?_
 refine CR nm136 (mirTakes_does r 183 102 (fun u => RepT.cells { x with mirror := u }) (RepT.arnd_mirror x) x.mirror m.whose m.row hx) (fun _ s => s) fun vR HR hR => ?_
 obtain ⟨rfl, rfl⟩ := hR
 refine TL.decB (fun h27 => ?_) (fun h27 => ?_)
 refine TL.nil ?_
 refine E1 1 ?_
 refine TD.done (by kernel_rfl) ?_
 refine TE.next J5 ?_
 refine CY ?_
 refine TC.seq fun _ J6 => ?_
 refine sr fun _ J7 => ?_
 refine PS ?_
 refine FA 1 Tryz.underlying146 sz3 ?_
 refine tp (PV.load1 (v := (.int .i64 (m.whose))) rfl Tryz.underlying3 rfl rfl (RO 1) (MsgT.at_whose m rfl)) ?_
 refine FA 2 Tryz.underlying146 sz64 ?_
 refine tp (PV.loadN (vs := ints m.row.flat) rfl Tryz.underlying64 rfl sz64 rfl (RO 1) (RowT.len m.row) (MsgT.sub_row m 0 rfl (by decide) (whole (RowT.len m.row)))) ?_
 refine tp (PV.buildSegs (cs := ints (RecT.mk 1 m.whose m.row 0 BallotT.zero ChangeT.zero ViewT.zero).flat) (segs := [[Value.int .i64 0], [Value.int .i64 0], ints RowT.zero.flat, [Value.int .i64 0], ints BallotT.zero.flat, ints ChangeT.zero.flat, ints ViewT.zero.flat]) (res := [[Value.int .i64 1], [Value.int .i64 m.whose], ints m.row.flat, [Value.int .i64 0], ints BallotT.zero.flat, ints ChangeT.zero.flat, ints ViewT.zero.flat]) (parts := [(0, [Value.int .i64 1]), (1, [Value.int .i64 m.whose]), (2, ints m.row.flat)]) rfl rfl Tryz.underlying131 (by kernel_rfl) (by kernel_rfl) rfl (putSegs_step rfl ((rfl : [Value.int .i64 1].length = 1).trans (rfl : [Value.int .i64 0].length = 1).symm) (putSegs_step rfl ((rfl : [Value.int .i64 m.whose].length = 1).trans (rfl : [Value.int .i64 0].length = 1).symm) (putSegs_step rfl ((RowT.len m.row).trans (RowT.len RowT.zero).symm) putSegs_nil))) (RecT.eq (RecT.mk 1 m.whose m.row 0 BallotT.zero ChangeT.zero ViewT.zero)).symm) ?_
 refine CR nm103 (put_does r lg d E hP x (RecT.mk 1 m.whose m.row 0 BallotT.zero ChangeT.zero ViewT.zero) (recs) (l) hlog (by have := pieces34 (mirRec_len m.whose m.row); have := hroom; show sizeS recs + piecesN (encR (mirRec m.whose m.row)).length ≤ 2048; omega) (Nat.le_trans (mirRec_len m.whose m.row) (by decide))) (SM [0, 1, 1]) fun vR HR hR => ?_
 obtain ⟨rfl, rfl⟩ := hR
 refine PS ?_
 refine nx J7 ?_
 refine CN ?_
 refine CX J6 ?_
 refine D1 3 mixed ?_
 refine PD 0 ?_
 refine PD 1 ?_
 refine FD 2 183 Tryz.underlying102 sz93 ?_
 refine FD 3 1 Tryz.underlying146 sz3 ?_
 refine ta 4 rfl (PV.load1 (v := (.int .i64 (m.whose))) rfl Tryz.underlying3 rfl rfl (fun _ h => h.2.1) (MsgT.at_whose m rfl)) ?_
 refine FD 5 2 Tryz.underlying146 sz64 ?_
 refine ta 6 rfl (PV.loadN (vs := ints m.row.flat) rfl Tryz.underlying64 rfl sz64 rfl (fun _ h => h.2.1) (RowT.len m.row) (MsgT.sub_row m 0 rfl (by decide) (whole (RowT.len m.row)))) ?_
 refine TD.all [7] (by kernel_rfl) rfl ?_
 refine AllT.cons rfl ?_ ?_
 refine CR nm98 (mirKeep_does r 183 102 (fun u => RepT.cells { x with mirror := u }) (RepT.arnd_mirror x) x.mirror m.whose m.row hx) (fun _ s => s) fun vR HR hR => ?_
 obtain ⟨rfl, rfl⟩ := hR
 refine TL.nil ?_
 refine E1 3 ?_
 refine TD.done (by kernel_rfl) ?_
 refine TE.next J4 ?_
 refine D1 3 mixed ?_
 refine PD 0 ?_
 refine PD 1 ?_
 refine PD 2 ?_
 refine PD 3 ?_
 refine PD 4 ?_
 refine FD 5 183 Tryz.underlying102 sz93 ?_
 refine FD 6 1 Tryz.underlying146 sz3 ?_
 refine ta 7 rfl (PV.load1 (v := (.int .i64 (m.whose))) rfl Tryz.underlying3 rfl rfl (fun _ h => h.2.1) (MsgT.at_whose m rfl)) ?_
 refine TD.all [8] (by kernel_rfl) rfl ?_
 refine AllT.cons rfl ?_ ?_
 refine CR nm88 (mirRow_does r 183 102 (fun u => RepT.cells { (RepT.mk x.id x.log x.view x.own ((mirKeep x.mirror m.whose m.row).1) x.acc x.round x.vote x.book x.busy x.kept x.waits x.ops x.replies x.told x.last) with mirror := u }) (RepT.arnd_mirror (RepT.mk x.id x.log x.view x.own ((mirKeep x.mirror m.whose m.row).1) x.acc x.round x.vote x.book x.busy x.kept x.waits x.ops x.replies x.told x.last)) ((mirKeep x.mirror m.whose m.row).1) m.whose) (fun _ s => s) fun vR HR hR => ?_
 obtain ⟨rfl, rfl⟩ := hR
 refine TL.nil ?_
 refine E1 3 ?_
 refine ta 9 rfl (PV.field1 (cs := ints (mirRow ((mirKeep x.mirror m.whose m.row).1) m.whose).flat) (v := Value.int .i64 ((mirRow ((mirKeep x.mirror m.whose m.row).1) m.whose).version)) rfl Tryz.underlying64 rfl Tryz.underlying3 rfl rfl (RowT.at_version _ rfl)) ?_
 refine ta 10 rfl (PV.buildSegs (cs := ints (MsgT.mk 1 0 RowT.zero ((mirRow ((mirKeep x.mirror m.whose m.row).1) m.whose).version) 0 BallotT.zero BallotT.zero ChangeT.zero ViewT.zero).flat) (segs := [[Value.int .i64 0], [Value.int .i64 0], ints RowT.zero.flat, [Value.int .i64 0], [Value.int .i64 0], ints BallotT.zero.flat, ints BallotT.zero.flat, ints ChangeT.zero.flat, ints ViewT.zero.flat]) (res := [[Value.int .i64 1], [Value.int .i64 0], ints RowT.zero.flat, [Value.int .i64 ((mirRow ((mirKeep x.mirror m.whose m.row).1) m.whose).version)], [Value.int .i64 0], ints BallotT.zero.flat, ints BallotT.zero.flat, ints ChangeT.zero.flat, ints ViewT.zero.flat]) (parts := [(0, [Value.int .i64 1]), (3, [Value.int .i64 ((mirRow ((mirKeep x.mirror m.whose m.row).1) m.whose).version)])]) rfl rfl Tryz.underlying146 (by kernel_rfl) (by kernel_rfl) rfl (putSegs_step rfl ((rfl : [Value.int .i64 1].length = 1).trans (rfl : [Value.int .i64 0].length = 1).symm) (putSegs_step rfl ((rfl : [Value.int .i64 ((mirRow ((mirKeep x.mirror m.whose m.row).1) m.whose).version)].length = 1).trans (rfl : [Value.int .i64 0].length = 1).symm) putSegs_nil)) (MsgT.eq (MsgT.mk 1 0 RowT.zero ((mirRow ((mirKeep x.mirror m.whose m.row).1) m.whose).version) 0 BallotT.zero BallotT.zero ChangeT.zero ViewT.zero)).symm) ?_
 refine TD.all [11] (by kernel_rfl) rfl ?_
 refine AllT.cons rfl ?_ ?_
 refine CR nm117 (send_does r T ov sf (E (recs ++ [encR (RecT.mk 1 m.whose m.row 0 BallotT.zero ChangeT.zero ViewT.zero)])) (hS (recs ++ [encR (RecT.mk 1 m.whose m.row 0 BallotT.zero ChangeT.zero ViewT.zero)])) (RepT.mk x.id x.log x.view x.own ((mirKeep x.mirror m.whose m.row).1) x.acc x.round x.vote x.book x.busy x.kept x.waits x.ops x.replies x.told x.last) from' (MsgT.mk 1 0 RowT.zero ((mirRow ((mirKeep x.mirror m.whose m.row).1) m.whose).version) 0 BallotT.zero BallotT.zero ChangeT.zero ViewT.zero) (l) (by omega) hto) (SM [0, 1]) fun vR HR hR => ?_
 obtain rfl := hR
 refine TL.nil ?_
 refine E1 3 ?_
 refine TD.done (by kernel_rfl) ?_
 refine WK [0, 1, 0] ?_
 refine TE.end0 rfl ?_
 have e := (show rowB x from' m.whose = true from by rw [rowB, h18, decide_eq_true (show m.whose = from' by omega)]; rfl)
 obtain ⟨e1, e2, e3⟩ := row_yes (recs := recs) e h27
 exact by rw [e1, e2, e3]; rfl
 exact AllT.nil
 exact AllT.nil
 exact AllT.nil
 refine TL.nil ?_
 refine E1 1 ?_
 refine TD.done (by kernel_rfl) ?_
 refine TE.next J5 ?_
 refine CN ?_
 refine CX J4 ?_
 refine D1 1 mixed ?_
 refine PD 0 ?_
 refine PD 1 ?_
 refine PD 2 ?_
 refine PD 3 ?_
 refine PD 4 ?_
 refine FD 5 183 Tryz.underlying102 sz93 ?_
 refine FD 6 1 Tryz.underlying146 sz3 ?_
 refine ta 7 rfl (PV.load1 (v := (.int .i64 (m.whose))) rfl Tryz.underlying3 rfl rfl (fun _ h => h.2.1) (MsgT.at_whose m rfl)) ?_
 refine TD.all [8] (by kernel_rfl) rfl ?_
 refine AllT.cons rfl ?_ ?_
 refine CR nm88 (mirRow_does r 183 102 (fun u => RepT.cells { x with mirror := u }) (RepT.arnd_mirror x) x.mirror m.whose) (fun _ s => s) fun vR HR hR => ?_
 obtain ⟨rfl, rfl⟩ := hR
 refine TL.nil ?_
 refine E1 1 ?_
 refine ta 9 rfl (PV.field1 (cs := ints (mirRow x.mirror m.whose).flat) (v := Value.int .i64 ((mirRow x.mirror m.whose).version)) rfl Tryz.underlying64 rfl Tryz.underlying3 rfl rfl (RowT.at_version _ rfl)) ?_
 refine ta 10 rfl (PV.buildSegs (cs := ints (MsgT.mk 1 0 RowT.zero ((mirRow x.mirror m.whose).version) 0 BallotT.zero BallotT.zero ChangeT.zero ViewT.zero).flat) (segs := [[Value.int .i64 0], [Value.int .i64 0], ints RowT.zero.flat, [Value.int .i64 0], [Value.int .i64 0], ints BallotT.zero.flat, ints BallotT.zero.flat, ints ChangeT.zero.flat, ints ViewT.zero.flat]) (res := [[Value.int .i64 1], [Value.int .i64 0], ints RowT.zero.flat, [Value.int .i64 ((mirRow x.mirror m.whose).version)], [Value.int .i64 0], ints BallotT.zero.flat, ints BallotT.zero.flat, ints ChangeT.zero.flat, ints ViewT.zero.flat]) (parts := [(0, [Value.int .i64 1]), (3, [Value.int .i64 ((mirRow x.mirror m.whose).version)])]) rfl rfl Tryz.underlying146 (by kernel_rfl) (by kernel_rfl) rfl (putSegs_step rfl ((rfl : [Value.int .i64 1].length = 1).trans (rfl : [Value.int .i64 0].length = 1).symm) (putSegs_step rfl ((rfl : [Value.int .i64 ((mirRow x.mirror m.whose).version)].length = 1).trans (rfl : [Value.int .i64 0].length = 1).symm) putSegs_nil)) (MsgT.eq (MsgT.mk 1 0 RowT.zero ((mirRow x.mirror m.whose).version) 0 BallotT.zero BallotT.zero ChangeT.zero ViewT.zero)).symm) ?_
 refine TD.all [11] (by kernel_rfl) rfl ?_
 refine AllT.cons rfl ?_ ?_
 refine CR nm117 (send_does r T ov sf (E (recs)) (hS (recs)) x from' (MsgT.mk 1 0 RowT.zero ((mirRow x.mirror m.whose).version) 0 BallotT.zero BallotT.zero ChangeT.zero ViewT.zero) (l) (by omega) hto) (SM [0, 2]) fun vR HR hR => ?_
 obtain rfl := hR
 refine TL.nil ?_
 refine E1 2 ?_
 refine TD.done (by kernel_rfl) ?_
 refine WK [0, 2, 0] ?_
 refine TE.end0 rfl ?_
 have e := (show rowB x from' m.whose = true from by rw [rowB, h18, decide_eq_true (show m.whose = from' by omega)]; rfl)
 obtain ⟨e1, e2, e3⟩ := row_old (recs := recs) e h27
 exact by rw [e1, e2, e3]; rfl
 exact AllT.nil
 exact AllT.nil
 exact AllT.nil
 exact AllT.nil
theorem take1_does (r : Nat) (T : Nat) (ov : Value) (sf : Nat) (E : List SaidT → HP) (hS : SendOk T ov sf E) (x : RepT) (from' : Int) (m : MsgT) (rs : List ReplyT) (l : List SaidT) (hk : m.kind = 1) (hid : machB x.id = true) (hwo : WF x.own.flat) (hal : Alone x) (hl : l.length ≤ 900000) (hrs : rs.length ≤ 1000000) :
    Leg.Does Tryz.prog 76 #[(.pointer (some ⟨r, 0, none⟩)), (.iface T ov), (.int .i64 (from')), (.agg (ints m.flat).toArray)] (fun _ => True) [blkA r (RepT.cells x) 102, own x.replies ((rs).length) (ints (List.flatMap ReplyT.flat (rs))) 37 3, E (l)] (Ret (fun _ H => ∃ v', v'.oneCell' = true ∧ H = [blkA r (RepT.cells { keptS x from' m.version with replies := v' }) 102, own v' (keptR x from' m.version rs).length (ints (List.flatMap ReplyT.flat (keptR x from' m.version rs))) 37 3, E (l ++ keptO x from' m.version)])) := by
 refine Leg.Does.body (n := 65) Tryz.func76 rfl rfl rfl (fun w0 F hF => ?_)
 refine sr fun _ J1 => ?_
 refine TL.box (Want.plain rfl) rfl rfl rfl rfl (fun b7 => ?_)
 change TL _ _ _ _ _ _ _ _ _ [blkA b7 (ints m.flat) 146, blkA r (RepT.cells x) 102, own x.replies ((rs).length) (ints (List.flatMap ReplyT.flat (rs))) 37 3, E (l)]
 refine nx J1 (sr fun _ J2 => ?_)
 refine FA 0 Tryz.underlying146 sz3 ?_
 refine tp (PV.load1 (v := (.int .i64 (m.kind))) rfl Tryz.underlying3 rfl rfl (RO 0) (MsgT.at_kind m rfl)) ?_
 refine nx J2 ?_
 refine TC.block ?_
 refine sr fun _ J3 => ?_
 refine PS ?_
 refine TL.dec (fun h11 => ?_) (fun h11 => ?_)
 · exact absurd h11 (by omega)
 refine PS ?_
 refine nx J3 ?_
 refine CN ?_
 refine sr fun _ J4 => ?_
 refine PS ?_
 refine TL.dec (fun h18 => ?_) (fun h18 => ?_)
 refine PS ?_
 refine nx J4 ?_
 refine CY ?_
 refine TC.region ?_
 refine PS ?_
 refine PS ?_
 refine PS ?_
 refine tp (PV.loadN (vs := ints m.flat) rfl Tryz.underlying146 rfl sz146 rfl (RO 0) (MsgT.len m) (whole (MsgT.len m))) ?_
 refine CR nm111 (takeKept_does r T ov sf E hS x from' m rs l hid hwo hal hl hrs) (SM [1, 1, 1]) fun vR HR hR => ?_
 obtain ⟨vk, hvk, rfl⟩ := hR
 refine TL.nil ?_
 refine TE.blockEnd ?_
 refine WK [0, 0, 0] ?_
 refine TE.end0 rfl ?_
 exact ⟨vk, hvk, rfl⟩
 · exact absurd h18 (by omega)
theorem take2_does (r : Nat) (T : Nat) (ov : Value) (x : RepT) (from' : Int) (m : MsgT) (hk : m.kind = 2) (hx : WF m.row.flat) :
    Leg.Does Tryz.prog 76 #[(.pointer (some ⟨r, 0, none⟩)), (.iface T ov), (.int .i64 (from')), (.agg (ints m.flat).toArray)] (fun _ => True) [blkA r (RepT.cells x) 102] (Ret (fun _ H => H = [blkA r (RepT.cells { x with book := (bookMerge x.book m.whose m.row).1 }) 102])) := by
 refine Leg.Does.body (n := 65) Tryz.func76 rfl rfl rfl (fun w0 F hF => ?_)
 refine sr fun _ J1 => ?_
 refine TL.box (Want.plain rfl) rfl rfl rfl rfl (fun b7 => ?_)
 change TL _ _ _ _ _ _ _ _ _ [blkA b7 (ints m.flat) 146, blkA r (RepT.cells x) 102]
 refine nx J1 (sr fun _ J2 => ?_)
 refine FA 0 Tryz.underlying146 sz3 ?_
 refine tp (PV.load1 (v := (.int .i64 (m.kind))) rfl Tryz.underlying3 rfl rfl (RO 0) (MsgT.at_kind m rfl)) ?_
 refine nx J2 ?_
 refine TC.block ?_
 refine sr fun _ J3 => ?_
 refine PS ?_
 refine TL.dec (fun h11 => ?_) (fun h11 => ?_)
 · exact absurd h11 (by omega)
 refine PS ?_
 refine nx J3 ?_
 refine CN ?_
 refine sr fun _ J4 => ?_
 refine PS ?_
 refine TL.dec (fun h18 => ?_) (fun h18 => ?_)
 · exact absurd h18 (by omega)
 refine PS ?_
 refine nx J4 ?_
 refine CN ?_
 refine sr fun _ J5 => ?_
 refine PS ?_
 refine TL.dec (fun h25 => ?_) (fun h25 => ?_)
 refine PS ?_
 refine nx J5 ?_
 refine CY ?_
 refine D1 0 mixed ?_
 refine PD 0 ?_
 refine PD 1 ?_
 refine FD 2 1068 Tryz.underlying102 sz100 ?_
 refine FD 3 1 Tryz.underlying146 sz3 ?_
 refine ta 4 rfl (PV.load1 (v := (.int .i64 (m.whose))) rfl Tryz.underlying3 rfl rfl (fun _ h => h.2.1) (MsgT.at_whose m rfl)) ?_
 refine FD 5 2 Tryz.underlying146 sz64 ?_
 refine ta 6 rfl (PV.loadN (vs := ints m.row.flat) rfl Tryz.underlying64 rfl sz64 rfl (fun _ h => h.2.1) (RowT.len m.row) (MsgT.sub_row m 0 rfl (by decide) (whole (RowT.len m.row)))) ?_
 refine TD.all [7] (by kernel_rfl) rfl ?_
 refine AllT.cons rfl ?_ ?_
 refine CR nm112 (bookMerge_does r 1068 102 (fun u => RepT.cells { x with book := u }) (RepT.arnd_book x) x.book m.whose m.row hx) (SM [1]) fun vR HR hR => ?_
 obtain ⟨rfl, rfl⟩ := hR
 refine TL.nil ?_
 refine E1 1 ?_
 refine TD.done (by kernel_rfl) ?_
 refine TE.blockEnd ?_
 refine WK [0] ?_
 refine TE.end0 rfl ?_
 exact rfl
 exact AllT.nil
 · exact absurd h25 (by omega)
theorem take0_does (r lg d : Nat) (T : Nat) (ov : Value) (sf : Nat) (E : List (List UInt8) → List SaidT → HP) (hS : ∀ c, SendOk T ov sf (E c)) (hP : PutOk lg d E) (x : RepT) (from' : Int) (m : MsgT) (recs : List (List UInt8)) (l : List SaidT) (hlog : x.log = .pointer (some ⟨lg, 0, none⟩)) (hk : m.kind = 0) (hroom : sizeS recs + 34 ≤ 2048) (hx : WF m.row.flat) (hl : l.length ≤ 900000) (hto : from' ≠ x.id) :
    Leg.Does Tryz.prog 76 #[(.pointer (some ⟨r, 0, none⟩)), (.iface T ov), (.int .i64 (from')), (.agg (ints m.flat).toArray)] (fun _ => True) [blkA r (RepT.cells x) 102, lgL lg d (recs), E (recs) (l)] (Ret (fun _ H => H = [blkA r (RepT.cells (rowX x from' m.whose m.row)) 102, lgL lg d (rowC x from' m.whose m.row recs), E (rowC x from' m.whose m.row recs) (l ++ rowO x from' m.whose m.row)])) := by
 refine Leg.Does.body (n := 65) Tryz.func76 rfl rfl rfl (fun w0 F hF => ?_)
 refine sr fun _ J1 => ?_
 refine TL.box (Want.plain rfl) rfl rfl rfl rfl (fun b7 => ?_)
 change TL _ _ _ _ _ _ _ _ _ [blkA b7 (ints m.flat) 146, blkA r (RepT.cells x) 102, lgL lg d (recs), E (recs) (l)]
 refine nx J1 (sr fun _ J2 => ?_)
 refine FA 0 Tryz.underlying146 sz3 ?_
 refine tp (PV.load1 (v := (.int .i64 (m.kind))) rfl Tryz.underlying3 rfl rfl (RO 0) (MsgT.at_kind m rfl)) ?_
 refine nx J2 ?_
 refine TC.block ?_
 refine sr fun _ J3 => ?_
 refine PS ?_
 refine TL.dec (fun h11 => ?_) (fun h11 => ?_)
 refine PS ?_
 refine nx J3 ?_
 refine CY ?_
 refine TC.region ?_
 refine PS ?_
 refine PS ?_
 refine PS ?_
 refine tp (PV.loadN (vs := ints m.flat) rfl Tryz.underlying146 rfl sz146 rfl (RO 0) (MsgT.len m) (whole (MsgT.len m))) ?_
 refine CR nm110 (takeRow_does r lg d T ov sf E hS hP x from' m recs l hlog hroom hx hl hto) (SM [1, 1, 1]) fun vR HR hR => ?_
 obtain rfl := hR
 refine TL.nil ?_
 refine TE.blockEnd ?_
 refine WK [0, 0, 0] ?_
 refine TE.end0 rfl ?_
 exact rfl
 · exact absurd h11 (by omega)
def tickO (x : RepT) : List SaidT := (if x.busy then tellL x else []) ++ (if memb firstV x.id ∧ 0 < (bookRow x.book x.id).version then newsL x.id (bookRow x.book x.id) else [])
theorem tellL_len (x : RepT) : (tellL x).length ≤ 2 := by
  unfold tellL
  rw [List.length_map]
  refine Nat.le_trans (List.length_filter_le _ _) ?_
  unfold witL
  split <;> simp

theorem tick1_does (r : Nat) (T : Nat) (ov : Value) (sf : Nat) (E : List SaidT → HP) (hS : SendOk T ov sf E) (x : RepT) (l : List SaidT) (hv : x.view = firstV) (hvo : x.vote = .pointer none) (hid : machB x.id = true) (hl : l.length ≤ 800000) :
    Leg.Does Tryz.prog 43 #[(.pointer (some ⟨r, 0, none⟩)), (.iface T ov)] (fun _ => True) [blkA r (RepT.cells x) 102, E (l)] (Ret (fun _ H => H = [blkA r (RepT.cells x) 102, E (l ++ tickO x)])) := by
 refine Leg.Does.body (n := 89) Tryz.func43 rfl rfl rfl (fun w0 F hF => ?_)
 have hal := alone_first hv
 refine TC.seq fun _ J1 => ?_
 refine sr fun _ J2 => ?_
 refine PS ?_
 refine PS ?_
 refine FA 1938 Tryz.underlying102 sz4 ?_
 refine tp (PV.load1 (v := (.bool (x.busy))) rfl Tryz.underlying4 rfl rfl (RO 0) (RepT.at_busy x rfl)) ?_
 refine TL.decB (fun h11 => ?_) (fun h11 => ?_)
 refine nx J2 ?_
 clear J2
 refine CY ?_
 refine TC.region ?_
 refine PS ?_
 refine PS ?_
 refine CR nm77 (tellRow_does r T ov sf E hS x (l) (by omega) hid) (fun _ s => s) fun vR HR hR => ?_
 obtain rfl := hR
 refine nx J1 ?_
 clear J1
 refine sr fun _ J3 => ?_
 refine PS ?_
 refine PS ?_
 refine CR nm78 (comeInto0_does r T ov x (E (l ++ tellL x)) hal) (fun _ s => s) fun vR HR hR => ?_
 obtain rfl := hR
 refine nx J3 ?_
 clear J3
 refine sr fun _ J4 => ?_
 refine PS ?_
 refine PS ?_
 refine CR nm79 (claim0_does r T ov x (E (l ++ tellL x)) hal) (fun _ s => s) fun vR HR hR => ?_
 obtain rfl := hR
 refine nx J4 ?_
 clear J4
 refine TC.seq fun _ J5 => ?_
 refine sr fun _ J6 => ?_
 refine PS ?_
 refine PS ?_
 refine FA 2 Tryz.underlying102 sz44 ?_
 refine FA 2 Tryz.underlying44 sz3 ?_
 refine tp (PV.load1 (v := (.int .i64 (x.view.epoch))) rfl Tryz.underlying3 rfl rfl (RO 0) (RepT.pt_view x 0 rfl (by decide) (ViewT.at_epoch x.view rfl))) ?_
 refine PS ?_
 refine TL.dec (fun h26 => ?_) (fun h26 => ?_)
 · exact absurd h26 (by rw [hv]; decide)
 refine nx J6 ?_
 clear J6
 refine CN ?_
 refine CX J5 ?_
 clear J5
 refine TC.seq fun _ J7 => ?_
 refine TC.seq fun _ J8 => ?_
 refine D1 0 mixed ?_
 refine PD 0 ?_
 refine PD 1 ?_
 refine FD 2 2 Tryz.underlying102 sz44 ?_
 refine ta 3 rfl (PV.loadN (vs := ints x.view.flat) rfl Tryz.underlying44 rfl sz44 rfl (fun _ h => h.2.1) (ViewT.len x.view) (RepT.sub_view x 0 rfl (by decide) (whole (ViewT.len x.view)))) ?_
 refine PD 4 ?_
 refine PD 5 ?_
 refine FD 6 0 Tryz.underlying102 sz3 ?_
 refine ta 7 rfl (PV.load1 (v := (.int .i64 (x.id))) rfl Tryz.underlying3 rfl rfl (fun _ h => h.2.1) (RepT.at_id x rfl)) ?_
 refine TD.all [8] (by kernel_rfl) rfl ?_
 refine AllT.cons rfl ?_ ?_
 refine CR nm32 (member_does x.view x.id) (fun _ s => s) fun vR HR hR => ?_
 obtain ⟨rfl, rfl⟩ := hR
 refine TL.decB (fun h42 => ?_) (fun h42 => ?_)
 refine TL.nil ?_
 refine E1 0 ?_
 refine ta 9 rfl (PV.not (r := false) rfl rfl rfl) ?_
 refine TD.done (by kernel_rfl) ?_
 refine TE.next J8 ?_
 clear J8
 refine CN ?_
 refine CX J7 ?_
 clear J7
 refine TC.seq fun _ J9 => ?_
 refine TC.seq fun _ J10 => ?_
 refine D1 0 mixed ?_
 refine PD 0 ?_
 refine PD 1 ?_
 refine FD 2 1068 Tryz.underlying102 sz100 ?_
 refine PD 3 ?_
 refine PD 4 ?_
 refine FD 5 0 Tryz.underlying102 sz3 ?_
 refine ta 6 rfl (PV.load1 (v := (.int .i64 (x.id))) rfl Tryz.underlying3 rfl rfl (fun _ h => h.2.1) (RepT.at_id x rfl)) ?_
 refine TD.all [7, 8] (by kernel_rfl) rfl ?_
 refine AllT.cons rfl ?_ ?_
 refine CR nm81 (bookRow_does r 1068 102 (fun u => RepT.cells { x with book := u }) (RepT.arnd_book x) x.book x.id) (fun _ s => s) fun vR HR hR => ?_
 obtain ⟨rfl, rfl⟩ := hR
 refine TL.nil ?_
 refine E1 0 ?_
 refine TD.all [8] (by kernel_rfl) rfl ?_
 refine AllT.cons rfl ?_ ?_
 refine TL.alloc (Want.plain rfl) rfl rfl rfl z64 (fun b4 => ?_)
 change TL _ _ _ _ _ _ _ _ _ [blkA b4 (ints RowT.zero.flat) 64, blkA r (RepT.cells x) 102, E (l ++ tellL x)]
 refine TL.nil ?_
 refine E1 1 ?_
 refine TD.all [9] (by kernel_rfl) rfl ?_
 refine AllT.cons rfl ?_ ?_
 refine TL.store (vs := ints (bookRow x.book x.id).flat) (i := 0) (Want.plain rfl) rfl rfl rfl rfl rfl (by rw [(RowT.len (bookRow x.book x.id))]; exact sz64) (ints_one _) rfl rfl (by have h0 := (RowT.len RowT.zero); have h1 := (RowT.len (bookRow x.book x.id)); omega) (wwhole ((RowT.len RowT.zero).trans (RowT.len (bookRow x.book x.id)).symm)) rfl ?_
 refine TL.nil ?_
 refine E1 1 ?_
 refine TD.done (by kernel_rfl) ?_
 refine TE.next J10 ?_
 clear J10
 refine sr fun _ J11 => ?_
 refine FA 0 Tryz.underlying64 sz3 ?_
 refine tp (PV.load1 (v := (.int .i64 ((bookRow x.book x.id).version))) rfl Tryz.underlying3 rfl rfl (RO 0) (RowT.at_version _ rfl)) ?_
 refine PS ?_
 refine TL.dec (fun h54 => ?_) (fun h54 => ?_)
 refine nx J11 ?_
 clear J11
 refine CY ?_
 refine TC.region ?_
 refine PS ?_
 refine PS ?_
 refine tp (PV.loadN (vs := ints (bookRow x.book x.id).flat) rfl Tryz.underlying64 rfl sz64 rfl (RO 0) (RowT.len (bookRow x.book x.id)) (whole (RowT.len (bookRow x.book x.id)))) ?_
 refine CR nm82 (tellNews_does r T ov sf E hS x (bookRow x.book x.id) (l ++ tellL x) (by first | omega | (rw [List.length_append]; have := tellL_len x; omega))) (SM [1, 1]) fun vR HR hR => ?_
 obtain rfl := hR
 refine nx J9 ?_
 clear J9
 refine TC.seq fun _ J12 => ?_
 refine sr fun _ J13 => ?_
 refine PS ?_
 refine PS ?_
 refine FA 1067 Tryz.underlying102 sz98 ?_
 refine tp (PV.load1 (v := (.pointer none)) rfl Tryz.underlying98 rfl rfl (RO 0) ((RepT.at_vote x rfl).trans (congrArg some hvo))) ?_
 refine tp (PV.nilPtrNil rfl Tryz.underlying98 rfl rfl) ?_
 refine nx J13 ?_
 clear J13
 refine CY ?_
 refine TC.ret ?_
 refine TE.passRet ?_
 clear J12
 refine WK [0, 0] ?_
 refine TE.ret0 rfl ?_
 rw [hv] at h42
 exact congrArg (fun q => [blkA r (RepT.cells x) 102, E q]) (by unfold tickO; simp [*])
 refine nx J11 ?_
 clear J11
 refine CN ?_
 refine CX J9 ?_
 clear J9
 refine TC.seq fun _ J14 => ?_
 refine sr fun _ J15 => ?_
 refine PS ?_
 refine PS ?_
 refine FA 1067 Tryz.underlying102 sz98 ?_
 refine tp (PV.load1 (v := (.pointer none)) rfl Tryz.underlying98 rfl rfl (RO 1) ((RepT.at_vote x rfl).trans (congrArg some hvo))) ?_
 refine tp (PV.nilPtrNil rfl Tryz.underlying98 rfl rfl) ?_
 refine nx J15 ?_
 clear J15
 refine CY ?_
 refine TC.ret ?_
 refine TE.passRet ?_
 clear J14
 refine WK [1, 1] ?_
 refine TE.ret0 rfl ?_
 rw [hv] at h42
 exact congrArg (fun q => [blkA r (RepT.cells x) 102, E q]) (by unfold tickO; simp [*])
 exact AllT.nil
 exact AllT.nil
 refine AllT.cons rfl ?_ ?_
 refine TL.alloc (Want.plain rfl) rfl rfl rfl z64 (fun b4 => ?_)
 change TL _ _ _ _ _ _ _ _ _ [blkA b4 (ints RowT.zero.flat) 64, blkA r (RepT.cells x) 102, E (l ++ tellL x)]
 refine TL.nil ?_
 refine E1 1 ?_
 refine TD.all [7] (by kernel_rfl) rfl ?_
 refine AllT.cons rfl ?_ ?_
 refine CR nm81 (bookRow_does r 1068 102 (fun u => RepT.cells { x with book := u }) (RepT.arnd_book x) x.book x.id) (SM [1]) fun vR HR hR => ?_
 obtain ⟨rfl, rfl⟩ := hR
 refine TL.nil ?_
 refine E1 0 ?_
 refine TD.all [9] (by kernel_rfl) rfl ?_
 refine AllT.cons rfl ?_ ?_
 refine TL.store (vs := ints (bookRow x.book x.id).flat) (i := 1) (Want.plain rfl) rfl rfl rfl rfl rfl (by rw [(RowT.len (bookRow x.book x.id))]; exact sz64) (ints_one _) rfl rfl (by have h0 := (RowT.len RowT.zero); have h1 := (RowT.len (bookRow x.book x.id)); omega) (wwhole ((RowT.len RowT.zero).trans (RowT.len (bookRow x.book x.id)).symm)) rfl ?_
 refine TL.nil ?_
 refine E1 0 ?_
 refine TD.done (by kernel_rfl) ?_
 refine TE.next J10 ?_
 clear J10
 refine sr fun _ J16 => ?_
 refine FA 0 Tryz.underlying64 sz3 ?_
 refine tp (PV.load1 (v := (.int .i64 ((bookRow x.book x.id).version))) rfl Tryz.underlying3 rfl rfl (RO 1) (RowT.at_version _ rfl)) ?_
 refine PS ?_
 refine TL.dec (fun h54 => ?_) (fun h54 => ?_)
 refine nx J16 ?_
 clear J16
 refine CY ?_
 refine TC.region ?_
 refine PS ?_
 refine PS ?_
 refine tp (PV.loadN (vs := ints (bookRow x.book x.id).flat) rfl Tryz.underlying64 rfl sz64 rfl (RO 1) (RowT.len (bookRow x.book x.id)) (whole (RowT.len (bookRow x.book x.id)))) ?_
 refine CR nm82 (tellNews_does r T ov sf E hS x (bookRow x.book x.id) (l ++ tellL x) (by first | omega | (rw [List.length_append]; have := tellL_len x; omega))) (SM [0, 1]) fun vR HR hR => ?_
 obtain rfl := hR
 refine nx J9 ?_
 clear J9
 refine TC.seq fun _ J17 => ?_
 refine sr fun _ J18 => ?_
 refine PS ?_
 refine PS ?_
 refine FA 1067 Tryz.underlying102 sz98 ?_
 refine tp (PV.load1 (v := (.pointer none)) rfl Tryz.underlying98 rfl rfl (RO 0) ((RepT.at_vote x rfl).trans (congrArg some hvo))) ?_
 refine tp (PV.nilPtrNil rfl Tryz.underlying98 rfl rfl) ?_
 refine nx J18 ?_
 clear J18
 refine CY ?_
 refine TC.ret ?_
 refine TE.passRet ?_
 clear J17
 refine WK [0, 0] ?_
 refine TE.ret0 rfl ?_
 rw [hv] at h42
 exact congrArg (fun q => [blkA r (RepT.cells x) 102, E q]) (by unfold tickO; simp [*])
 refine nx J16 ?_
 clear J16
 refine CN ?_
 refine CX J9 ?_
 clear J9
 refine TC.seq fun _ J19 => ?_
 refine sr fun _ J20 => ?_
 refine PS ?_
 refine PS ?_
 refine FA 1067 Tryz.underlying102 sz98 ?_
 refine tp (PV.load1 (v := (.pointer none)) rfl Tryz.underlying98 rfl rfl (RO 0) ((RepT.at_vote x rfl).trans (congrArg some hvo))) ?_
 refine tp (PV.nilPtrNil rfl Tryz.underlying98 rfl rfl) ?_
 refine nx J20 ?_
 clear J20
 refine CY ?_
 refine TC.ret ?_
 refine TE.passRet ?_
 clear J19
 refine WK [0, 1] ?_
 refine TE.ret0 rfl ?_
 rw [hv] at h42
 exact congrArg (fun q => [blkA r (RepT.cells x) 102, E q]) (by unfold tickO; simp [*])
 exact AllT.nil
 exact AllT.nil
 exact AllT.nil
 refine TL.nil ?_
 refine E1 0 ?_
 refine ta 9 rfl (PV.not (r := true) rfl rfl rfl) ?_
 refine TD.done (by kernel_rfl) ?_
 refine TE.next J8 ?_
 clear J8
 refine CY ?_
 refine TC.ret ?_
 refine TE.passRet ?_
 clear J7
 refine WK [0, 0] ?_
 refine TE.ret0 rfl ?_
 rw [hv] at h42
 exact congrArg (fun q => [blkA r (RepT.cells x) 102, E q]) (by unfold tickO; simp [*])
 exact AllT.nil
 refine nx J2 ?_
 clear J2
 refine CN ?_
 refine CX J1 ?_
 clear J1
 refine sr fun _ J21 => ?_
 refine PS ?_
 refine PS ?_
 refine CR nm78 (comeInto0_does r T ov x (E (l)) hal) (fun _ s => s) fun vR HR hR => ?_
 obtain rfl := hR
 refine nx J21 ?_
 clear J21
 refine sr fun _ J22 => ?_
 refine PS ?_
 refine PS ?_
 refine CR nm79 (claim0_does r T ov x (E (l)) hal) (fun _ s => s) fun vR HR hR => ?_
 obtain rfl := hR
 refine nx J22 ?_
 clear J22
 refine TC.seq fun _ J23 => ?_
 refine sr fun _ J24 => ?_
 refine PS ?_
 refine PS ?_
 refine FA 2 Tryz.underlying102 sz44 ?_
 refine FA 2 Tryz.underlying44 sz3 ?_
 refine tp (PV.load1 (v := (.int .i64 (x.view.epoch))) rfl Tryz.underlying3 rfl rfl (RO 0) (RepT.pt_view x 0 rfl (by decide) (ViewT.at_epoch x.view rfl))) ?_
 refine PS ?_
 refine TL.dec (fun h26 => ?_) (fun h26 => ?_)
 · exact absurd h26 (by rw [hv]; decide)
 refine nx J24 ?_
 clear J24
 refine CN ?_
 refine CX J23 ?_
 clear J23
 refine TC.seq fun _ J25 => ?_
 refine TC.seq fun _ J26 => ?_
 refine D1 0 mixed ?_
 refine PD 0 ?_
 refine PD 1 ?_
 refine FD 2 2 Tryz.underlying102 sz44 ?_
 refine ta 3 rfl (PV.loadN (vs := ints x.view.flat) rfl Tryz.underlying44 rfl sz44 rfl (fun _ h => h.2.1) (ViewT.len x.view) (RepT.sub_view x 0 rfl (by decide) (whole (ViewT.len x.view)))) ?_
 refine PD 4 ?_
 refine PD 5 ?_
 refine FD 6 0 Tryz.underlying102 sz3 ?_
 refine ta 7 rfl (PV.load1 (v := (.int .i64 (x.id))) rfl Tryz.underlying3 rfl rfl (fun _ h => h.2.1) (RepT.at_id x rfl)) ?_
 refine TD.all [8] (by kernel_rfl) rfl ?_
 refine AllT.cons rfl ?_ ?_
 refine CR nm32 (member_does x.view x.id) (fun _ s => s) fun vR HR hR => ?_
 obtain ⟨rfl, rfl⟩ := hR
 refine TL.decB (fun h42 => ?_) (fun h42 => ?_)
 refine TL.nil ?_
 refine E1 0 ?_
 refine ta 9 rfl (PV.not (r := false) rfl rfl rfl) ?_
 refine TD.done (by kernel_rfl) ?_
 refine TE.next J26 ?_
 clear J26
 refine CN ?_
 refine CX J25 ?_
 clear J25
 refine TC.seq fun _ J27 => ?_
 refine TC.seq fun _ J28 => ?_
 refine D1 0 mixed ?_
 refine PD 0 ?_
 refine PD 1 ?_
 refine FD 2 1068 Tryz.underlying102 sz100 ?_
 refine PD 3 ?_
 refine PD 4 ?_
 refine FD 5 0 Tryz.underlying102 sz3 ?_
 refine ta 6 rfl (PV.load1 (v := (.int .i64 (x.id))) rfl Tryz.underlying3 rfl rfl (fun _ h => h.2.1) (RepT.at_id x rfl)) ?_
 refine TD.all [7, 8] (by kernel_rfl) rfl ?_
 refine AllT.cons rfl ?_ ?_
 refine CR nm81 (bookRow_does r 1068 102 (fun u => RepT.cells { x with book := u }) (RepT.arnd_book x) x.book x.id) (fun _ s => s) fun vR HR hR => ?_
 obtain ⟨rfl, rfl⟩ := hR
 refine TL.nil ?_
 refine E1 0 ?_
 refine TD.all [8] (by kernel_rfl) rfl ?_
 refine AllT.cons rfl ?_ ?_
 refine TL.alloc (Want.plain rfl) rfl rfl rfl z64 (fun b4 => ?_)
 change TL _ _ _ _ _ _ _ _ _ [blkA b4 (ints RowT.zero.flat) 64, blkA r (RepT.cells x) 102, E (l)]
 refine TL.nil ?_
 refine E1 1 ?_
 refine TD.all [9] (by kernel_rfl) rfl ?_
 refine AllT.cons rfl ?_ ?_
 refine TL.store (vs := ints (bookRow x.book x.id).flat) (i := 0) (Want.plain rfl) rfl rfl rfl rfl rfl (by rw [(RowT.len (bookRow x.book x.id))]; exact sz64) (ints_one _) rfl rfl (by have h0 := (RowT.len RowT.zero); have h1 := (RowT.len (bookRow x.book x.id)); omega) (wwhole ((RowT.len RowT.zero).trans (RowT.len (bookRow x.book x.id)).symm)) rfl ?_
 refine TL.nil ?_
 refine E1 1 ?_
 refine TD.done (by kernel_rfl) ?_
 refine TE.next J28 ?_
 clear J28
 refine sr fun _ J29 => ?_
 refine FA 0 Tryz.underlying64 sz3 ?_
 refine tp (PV.load1 (v := (.int .i64 ((bookRow x.book x.id).version))) rfl Tryz.underlying3 rfl rfl (RO 0) (RowT.at_version _ rfl)) ?_
 refine PS ?_
 refine TL.dec (fun h54 => ?_) (fun h54 => ?_)
 refine nx J29 ?_
 clear J29
 refine CY ?_
 refine TC.region ?_
 refine PS ?_
 refine PS ?_
 refine tp (PV.loadN (vs := ints (bookRow x.book x.id).flat) rfl Tryz.underlying64 rfl sz64 rfl (RO 0) (RowT.len (bookRow x.book x.id)) (whole (RowT.len (bookRow x.book x.id)))) ?_
 refine CR nm82 (tellNews_does r T ov sf E hS x (bookRow x.book x.id) (l) (by first | omega | (rw [List.length_append]; have := tellL_len x; omega))) (SM [1, 1]) fun vR HR hR => ?_
 obtain rfl := hR
 refine nx J27 ?_
 clear J27
 refine TC.seq fun _ J30 => ?_
 refine sr fun _ J31 => ?_
 refine PS ?_
 refine PS ?_
 refine FA 1067 Tryz.underlying102 sz98 ?_
 refine tp (PV.load1 (v := (.pointer none)) rfl Tryz.underlying98 rfl rfl (RO 0) ((RepT.at_vote x rfl).trans (congrArg some hvo))) ?_
 refine tp (PV.nilPtrNil rfl Tryz.underlying98 rfl rfl) ?_
 refine nx J31 ?_
 clear J31
 refine CY ?_
 refine TC.ret ?_
 refine TE.passRet ?_
 clear J30
 refine WK [0, 0] ?_
 refine TE.ret0 rfl ?_
 rw [hv] at h42
 exact congrArg (fun q => [blkA r (RepT.cells x) 102, E q]) (by unfold tickO; simp [*])
 refine nx J29 ?_
 clear J29
 refine CN ?_
 refine CX J27 ?_
 clear J27
 refine TC.seq fun _ J32 => ?_
 refine sr fun _ J33 => ?_
 refine PS ?_
 refine PS ?_
 refine FA 1067 Tryz.underlying102 sz98 ?_
 refine tp (PV.load1 (v := (.pointer none)) rfl Tryz.underlying98 rfl rfl (RO 1) ((RepT.at_vote x rfl).trans (congrArg some hvo))) ?_
 refine tp (PV.nilPtrNil rfl Tryz.underlying98 rfl rfl) ?_
 refine nx J33 ?_
 clear J33
 refine CY ?_
 refine TC.ret ?_
 refine TE.passRet ?_
 clear J32
 refine WK [1, 1] ?_
 refine TE.ret0 rfl ?_
 rw [hv] at h42
 exact congrArg (fun q => [blkA r (RepT.cells x) 102, E q]) (by unfold tickO; simp [*])
 exact AllT.nil
 exact AllT.nil
 refine AllT.cons rfl ?_ ?_
 refine TL.alloc (Want.plain rfl) rfl rfl rfl z64 (fun b4 => ?_)
 change TL _ _ _ _ _ _ _ _ _ [blkA b4 (ints RowT.zero.flat) 64, blkA r (RepT.cells x) 102, E (l)]
 refine TL.nil ?_
 refine E1 1 ?_
 refine TD.all [7] (by kernel_rfl) rfl ?_
 refine AllT.cons rfl ?_ ?_
 refine CR nm81 (bookRow_does r 1068 102 (fun u => RepT.cells { x with book := u }) (RepT.arnd_book x) x.book x.id) (SM [1]) fun vR HR hR => ?_
 obtain ⟨rfl, rfl⟩ := hR
 refine TL.nil ?_
 refine E1 0 ?_
 refine TD.all [9] (by kernel_rfl) rfl ?_
 refine AllT.cons rfl ?_ ?_
 refine TL.store (vs := ints (bookRow x.book x.id).flat) (i := 1) (Want.plain rfl) rfl rfl rfl rfl rfl (by rw [(RowT.len (bookRow x.book x.id))]; exact sz64) (ints_one _) rfl rfl (by have h0 := (RowT.len RowT.zero); have h1 := (RowT.len (bookRow x.book x.id)); omega) (wwhole ((RowT.len RowT.zero).trans (RowT.len (bookRow x.book x.id)).symm)) rfl ?_
 refine TL.nil ?_
 refine E1 0 ?_
 refine TD.done (by kernel_rfl) ?_
 refine TE.next J28 ?_
 clear J28
 refine sr fun _ J34 => ?_
 refine FA 0 Tryz.underlying64 sz3 ?_
 refine tp (PV.load1 (v := (.int .i64 ((bookRow x.book x.id).version))) rfl Tryz.underlying3 rfl rfl (RO 1) (RowT.at_version _ rfl)) ?_
 refine PS ?_
 refine TL.dec (fun h54 => ?_) (fun h54 => ?_)
 refine nx J34 ?_
 clear J34
 refine CY ?_
 refine TC.region ?_
 refine PS ?_
 refine PS ?_
 refine tp (PV.loadN (vs := ints (bookRow x.book x.id).flat) rfl Tryz.underlying64 rfl sz64 rfl (RO 1) (RowT.len (bookRow x.book x.id)) (whole (RowT.len (bookRow x.book x.id)))) ?_
 refine CR nm82 (tellNews_does r T ov sf E hS x (bookRow x.book x.id) (l) (by first | omega | (rw [List.length_append]; have := tellL_len x; omega))) (SM [0, 1]) fun vR HR hR => ?_
 obtain rfl := hR
 refine nx J27 ?_
 clear J27
 refine TC.seq fun _ J35 => ?_
 refine sr fun _ J36 => ?_
 refine PS ?_
 refine PS ?_
 refine FA 1067 Tryz.underlying102 sz98 ?_
 refine tp (PV.load1 (v := (.pointer none)) rfl Tryz.underlying98 rfl rfl (RO 0) ((RepT.at_vote x rfl).trans (congrArg some hvo))) ?_
 refine tp (PV.nilPtrNil rfl Tryz.underlying98 rfl rfl) ?_
 refine nx J36 ?_
 clear J36
 refine CY ?_
 refine TC.ret ?_
 refine TE.passRet ?_
 clear J35
 refine WK [0, 0] ?_
 refine TE.ret0 rfl ?_
 rw [hv] at h42
 exact congrArg (fun q => [blkA r (RepT.cells x) 102, E q]) (by unfold tickO; simp [*])
 refine nx J34 ?_
 clear J34
 refine CN ?_
 refine CX J27 ?_
 clear J27
 refine TC.seq fun _ J37 => ?_
 refine sr fun _ J38 => ?_
 refine PS ?_
 refine PS ?_
 refine FA 1067 Tryz.underlying102 sz98 ?_
 refine tp (PV.load1 (v := (.pointer none)) rfl Tryz.underlying98 rfl rfl (RO 0) ((RepT.at_vote x rfl).trans (congrArg some hvo))) ?_
 refine tp (PV.nilPtrNil rfl Tryz.underlying98 rfl rfl) ?_
 refine nx J38 ?_
 clear J38
 refine CY ?_
 refine TC.ret ?_
 refine TE.passRet ?_
 clear J37
 refine WK [0, 1] ?_
 refine TE.ret0 rfl ?_
 rw [hv] at h42
 exact congrArg (fun q => [blkA r (RepT.cells x) 102, E q]) (by unfold tickO; simp [*])
 exact AllT.nil
 exact AllT.nil
 exact AllT.nil
 refine TL.nil ?_
 refine E1 0 ?_
 refine ta 9 rfl (PV.not (r := true) rfl rfl rfl) ?_
 refine TD.done (by kernel_rfl) ?_
 refine TE.next J26 ?_
 clear J26
 refine CY ?_
 refine TC.ret ?_
 refine TE.passRet ?_
 clear J25
 refine WK [0, 0] ?_
 refine TE.ret0 rfl ?_
 rw [hv] at h42
 exact congrArg (fun q => [blkA r (RepT.cells x) 102, E q]) (by unfold tickO; simp [*])
 exact AllT.nil
end Go.Proofs.YtobdfjdoilnfcaaGreat
end

section
namespace Api
open Go Leg Codec

def EC (us : List Value) (c : ChangeT) (_ : Hl) : Prop := us = ints c.flat
theorem EC.more (us : List Value) (c : ChangeT) (F g : Hl) (h : EC us c F) (_ : Dj g F) : EC us c (jn g F) := h
theorem addE_ok : ∀ (l : List Int) (s : Int), 0 ≤ s → (∀ n ∈ l, okN n = true) → s + l.sum ≤ 1099511627776 → (addE l s).2 = 0
  | [], _, _, _, _ => rfl
  | n :: l, s, h0, h, hs => by
    have hn : 0 ≤ n ∧ n ≤ 1099511627776 := of_decide_eq_true (h n (by simp))
    have hl : 0 ≤ l.sum := by
      have : ∀ l' : List Int, (∀ n ∈ l', okN n = true) → 0 ≤ l'.sum := fun l' => by
        induction l' with
        | nil => intro _; exact Int.le_refl _
        | cons a t ih => intro h; have h1 : 0 ≤ a ∧ a ≤ 1099511627776 := of_decide_eq_true (h a (by simp)); have := ih (fun n hn => h n (by simp [hn])); rw [List.sum_cons]; omega
      exact this l fun n hn => h n (by simp [hn])
    rw [List.sum_cons] at hs
    rw [addE, if_pos (h n (by simp)), if_neg (by omega)]
    exact addE_ok l (s + n) (by omega) (fun n hn => h n (by simp [hn])) (by omega)
def CellSo (c : CellT) (j : Nat) (sum : Int) : Prop := okN c.inn = true ∧ okN c.out = true ∧ (∀ (i : Nat) (h : i < 5), i < j → okN c.given[i] = true) ∧ sum = (c.given.toList.take j).sum
theorem CellSo.step {c : CellT} {j : Nat} {sum : Int} (h : CellSo c j sum) (hj : j < 5) (hg : 0 ≤ c.given[j] ∧ c.given[j] ≤ 1099511627776) : CellSo c (j + 1) (sum + c.given[j]) := by
  obtain ⟨h1, h2, h3, h4⟩ := h
  refine ⟨h1, h2, fun i hi hij => ?_, ?_⟩
  · by_cases q : i = j
    · subst q; exact decide_eq_true hg
    · exact h3 i hi (by omega)
  · rw [List.take_succ_eq_append_getElem (by simpa using hj), List.sum_append, ← h4]; simp
theorem CellSo.okC {c : CellT} {sum : Int} (h : CellSo c 5 sum) (hs : sum ≤ 1099511627776) : okC c = true := by
  obtain ⟨h1, h2, h3, h4⟩ := h
  rw [List.take_of_length_le (by simp)] at h4
  unfold Api.okC
  rw [h1, h2, Bool.true_and, Bool.true_and, decide_eq_true_iff]
  refine addE_ok _ 0 (by omega) (fun n hn => ?_) (by omega)
  obtain ⟨i, hi, rfl⟩ := List.getElem_of_mem hn
  have := h3 i (by simpa using hi) (by simpa using hi)
  simpa using this
def tameB (b : BallotT) : BallotT := ⟨b.round % 1024, b.who % 256 % 5⟩
def tameG (c : ChangeT) : ChangeT := ⟨c.kind % 2, c.who % 256 % 5, c.heir % 256 % 5⟩
def fullM (m : MsgT) (v : ViewT) : MsgT := ⟨m.kind % 256 % 10, m.whose % 256 % 5, m.row, m.version % 1024, m.epoch % 1024, tameB m.ballot, tameB m.had, tameG m.change, v⟩
end Api
end

section
namespace Api
open Go Leg Codec

theorem flatsL_inj : ∀ (a b : List CellT), a.length = b.length → flats a = flats b → a = b
  | [], [], _, _ => rfl
  | [], _ :: _, h, _ => by cases h
  | _ :: _, [], h, _ => by cases h
  | x :: a, y :: b, h, e => by
    simp only [flats, List.flatMap_cons] at e
    obtain ⟨h1, h2⟩ := List.append_inj e (by simp [CellT.flat])
    rw [flat7_inj h1, flatsL_inj a b (by simpa using h) h2]
theorem flats_inj {v w : Vector CellT 4} (h : flats v.toList = flats w.toList) : v = w := Vector.toList_inj.1 (flatsL_inj _ _ (by simp) h)
theorem wf_bd {n : Int} (h : (Lit.int .i64 n).wf = true) : -9223372036854775808 ≤ n ∧ n < 9223372036854775808 := by
  have m1 : IntKind.i64.min = -9223372036854775808 := by decide
  have m2 : IntKind.i64.max = 9223372036854775807 := by decide
  simp only [Lit.wf, m1, m2, Bool.and_eq_true, decide_eq_true_eq] at h
  omega
theorem addE_mem : ∀ (l : List Int) (s : Int), (addE l s).2 = 0 → ∀ n ∈ l, okN n = true
  | [], _, _, n, hn => by cases hn
  | a :: l, s, h, n, hn => by
    rw [addE] at h
    by_cases h1 : okN a = true
    · rw [if_pos h1] at h
      by_cases h2 : a > 1099511627776 - s
      · rw [if_pos h2] at h; cases h
      · rw [if_neg h2] at h
        rcases List.mem_cons.1 hn with rfl | hn
        · exact h1
        · exact addE_mem l _ h n hn
    · rw [if_neg h1] at h; cases h
theorem okN_small {n : Int} (h : okN n = true) : Small n := by
  have : 0 ≤ n ∧ n ≤ 1099511627776 := of_decide_eq_true h
  exact ⟨this.1, by omega⟩
theorem TameC.of {c : CellT} (h : okC c = true) : TameC c := by
  unfold okC at h
  rw [Bool.and_eq_true, Bool.and_eq_true, decide_eq_true_iff] at h
  refine ⟨okN_small h.1.1, okN_small h.1.2, fun j hj => okN_small (addE_mem _ _ h.2 _ ?_)⟩
  rw [← Vector.getElem_toList (h := by simpa using hj)]
  exact List.getElem_mem _
theorem okCs_tame {v : Vector CellT 4} (h : okCs v = true) (k : Nat) (hk : k < 4) : TameC v[k] := TameC.of (of_decide_eq_true h k hk)
theorem TameR.of {x : RowT} (hw : WF x.flat) (h : rightR x = true) : TameR x := by
  unfold rightR at h
  rw [Bool.and_eq_true, Bool.and_eq_true, decide_eq_true_iff, decide_eq_true_iff] at h
  obtain ⟨⟨h1, h2⟩, h3⟩ := h
  have hh : ∀ (j : Nat) (hj : j < 5), (0 : Int) ≤ x.heir[j] ∧ okCs x.left[j] = true ∧ (x.heir[j] = (0 : Int) → flats x.left[j].toList = flats RowT.zero.left[0].toList) := fun j hj => by
    have := h3 j hj
    unfold hokR at this
    rw [Bool.and_eq_true, Bool.and_eq_true, decide_eq_true_iff, decide_eq_true_iff] at this
    exact ⟨this.1.1, this.1.2, this.2⟩
  refine ⟨⟨h1, (wf_bd (hw _ (by simp [RowT.flat]))).2⟩, fun k hk => okCs_tame h2 k hk, fun j hj => ⟨(hh j hj).1, (wf_bd (hw _ ?_)).2⟩, fun j k hj hk => okCs_tame (hh j hj).2.1 k hk, fun j hj e => flats_inj ((hh j hj).2.2 e)⟩
  have : x.heir[j] ∈ x.heir.toList := by rw [← Vector.getElem_toList (h := by simpa using hj)]; exact List.getElem_mem _
  simp [RowT.flat, this]
theorem wf_cons {n : Int} {l : List Int} (h : 0 ≤ n ∧ n < 9223372036854775808) (hl : WF l) : WF (n :: l) := fun m hm => by
  rcases List.mem_cons.1 hm with rfl | hm
  · exact wf_small h
  · exact hl m hm
theorem wf_app {a b : List Int} (ha : WF a) (hb : WF b) : WF (a ++ b) := fun m hm => by
  rcases List.mem_append.1 hm with hm | hm
  · exact ha m hm
  · exact hb m hm
theorem wf_nil : WF [] := fun _ h => by cases h
theorem OkB.wf {b : BallotT} (h : OkB b) : WF b.flat := wf_cons h.1 (wf_cons ⟨h.2.1, by have := h.2.2; omega⟩ wf_nil)
theorem OkC.wf {c : ChangeT} (h : OkC c) : WF c.flat := wf_cons ⟨h.1.1, by have := h.1.2; omega⟩ (wf_cons ⟨h.2.1.1, by have := h.2.1.2; omega⟩ (wf_cons ⟨h.2.2.1, by have := h.2.2.2; omega⟩ wf_nil))
theorem OkV.wf {v : ViewT} (h : OkV v) : WF v.flat := wf_cons h.1 (wf_cons ⟨h.2.1.1, by have := h.2.1.2; omega⟩ fun n hn => by
  obtain ⟨j, hj, rfl⟩ := List.getElem_of_mem hn
  rw [Vector.length_toList] at hj
  have := h.2.2 j hj
  simpa using wf_small ⟨this.1, by omega⟩)
theorem nm_zero : Nm 0 := ⟨by decide, by decide⟩
theorem OkB.zero : OkB .zero := ⟨nm_zero, by decide, by decide⟩
theorem OkC.zero : OkC .zero := ⟨by decide, by decide, by decide⟩
theorem OkV.zero : OkV .zero := ⟨nm_zero, by decide, fun i h => by have := Rng.zero i h; omega⟩
theorem OkM.wf {m : MsgT} (h : OkM m) : WF m.flat := wf_cons ⟨h.kind.1, by have := h.kind.2; omega⟩ (wf_cons ⟨h.whose.1, by have := h.whose.2; omega⟩ (wf_app h.row.wf (wf_cons h.version (wf_cons h.epoch (wf_app h.ballot.wf (wf_app h.had.wf (wf_app h.change.wf h.view.wf)))))))
theorem OkM.zero : OkM .zero := ⟨by decide, by decide, tame_rzero, nm_zero, nm_zero, .zero, .zero, .zero, .zero⟩
theorem encM_norm {m : MsgT} (h : OkM m) : encM (normM m) = encM m := by
  have hk := h.kind
  unfold normM
  split
  · rename_i c; simp only [encM, c, if_true]
  split
  · rename_i c0 c; simp only [encM, if_neg c0, if_pos c]
  split
  · rename_i c0 c1 c; simp only [encM, if_neg c0, if_neg c1, if_pos c]
  split
  · rename_i c0 c1 c2 c; simp only [encM, if_neg c0, if_neg c1, if_neg c2, if_pos c]
  split
  · rename_i c0 c1 c2 c3 c; simp only [encM, if_neg c0, if_neg c1, if_neg c2, if_neg c3, if_pos c]
  split
  · rename_i c0 c1 c2 c3 c4 c; simp only [encM, if_neg c0, if_neg c1, if_neg c2, if_neg c3, if_neg c4, if_pos c]
  · rename_i c0 c1 c2 c3 c4 c5; simp only [encM, if_neg c0, if_neg c1, if_neg c2, if_neg c3, if_neg c4, if_neg c5]
theorem dec_enc {m : MsgT} (h : OkM m) (ho : okM m = true) : readMsgP (encM (normM m)) = some ((normM m, true), []) := by
  have := msg_enc h []
  rw [ho, List.append_nil] at this
  rw [encM_norm h]; exact this
theorem decM_enc {m : MsgT} (h : OkM m) (ho : okM m = true) : decM (encM (normM m)) = (normM m, 0) := by unfold decM; rw [dec_enc h ho]
theorem encM_len (m : MsgT) : (encM m).length ≤ 3000 := by
  have h1 := encRow_len m.row
  have h2 := encs_len m.ballot.flat
  have h3 := encs_len m.had.flat
  have h4 := encs_len m.change.flat
  have h5 := encs_len m.view.flat
  have h6 := encs_len [m.kind, m.whose]
  have h7 := encs_len [m.kind, m.version]
  have h8 := encs_len [m.kind, m.epoch]
  have h9 := encs_len [m.kind]
  simp only [BallotT.flat, ChangeT.flat, ViewT.flat, List.length_cons, List.length_nil, Vector.length_toList] at h2 h3 h4 h5 h6 h7 h8 h9
  unfold encM
  split
  · simp only [List.length_append]; omega
  split
  · omega
  split
  · simp only [List.length_append, BallotT.flat]; omega
  split
  · simp only [List.length_append, BallotT.flat, ChangeT.flat]; omega
  split
  · simp only [List.length_append, BallotT.flat, ChangeT.flat]; omega
  split
  · simp only [List.length_append, ViewT.flat]; omega
  split
  · simp only [List.length_append, ViewT.flat]; omega
  · simp
theorem OkM.full {m : MsgT} {v : ViewT} (hr : TameR m.row) (hv : OkV v) : OkM (fullM m v) := by
  have g : ∀ n : Int, 0 ≤ n % 1024 ∧ n % 1024 < 9223372036854775808 := fun n => by omega
  have f : ∀ n : Int, 0 ≤ n % 256 % 5 ∧ n % 256 % 5 < 5 := fun n => by omega
  refine ⟨?_, f _, hr, g _, g _, ⟨g _, f _⟩, ⟨g _, f _⟩, ⟨?_, f _, f _⟩, hv⟩
  · show 0 ≤ m.kind % 256 % 10 ∧ m.kind % 256 % 10 < 10; omega
  · show 0 ≤ m.change.kind % 2 ∧ m.change.kind % 2 < 2; omega
def fullR (a b c d : Int) (x : RowT) (v : ViewT) : RecT := ⟨a % 256 % 6, b % 256 % 5, x, b % 1024, ⟨c % 1024, d % 256 % 5⟩, ⟨c % 2, d % 256 % 5, d % 4⟩, v⟩
theorem OkRc.wf {m : RecT} (h : OkRc m) : WF m.flat := wf_cons ⟨h.kind.1, by have := h.kind.2; omega⟩ (wf_cons ⟨h.whose.1, by have := h.whose.2; omega⟩ (wf_app h.row.wf (wf_cons h.epoch (wf_app h.ballot.wf (wf_app h.change.wf h.view.wf)))))
theorem OkRc.zero : OkRc .zero := ⟨by decide, by decide, tame_rzero, nm_zero, .zero, .zero, .zero⟩
theorem encR_norm {m : RecT} (h : OkRc m) : encR (normR m) = encR m := by
  have hk := h.kind
  unfold normR
  split
  · rename_i c; simp only [encR, if_pos c]
  split
  · rename_i c0 c; simp only [encR, if_neg c0, if_pos c]
  split
  · rename_i c0 c1 c; simp only [encR, if_neg c0, if_neg c1, if_pos c]
  split
  · rename_i c0 c1 c2 c; simp only [encR, if_neg c0, if_neg c1, if_neg c2, if_pos c]
  split
  · rename_i c0 c1 c2 c3 c; simp only [encR, if_neg c0, if_neg c1, if_neg c2, if_neg c3, if_pos c]
  · rename_i c0 c1 c2 c3 c4; simp only [encR, if_neg c0, if_neg c1, if_neg c2, if_neg c3, if_neg c4]
theorem decR_enc {m : RecT} (h : OkRc m) (ho : okRc m = true) : decR (encR (normR m)) = (normR m, 0) := by
  have := rec_enc h []
  rw [ho, List.append_nil] at this
  unfold decR; rw [encR_norm h, this]
theorem OkRc.full {a b c d : Int} {x : RowT} {v : ViewT} (hr : TameR x) (hv : OkV v) : OkRc (fullR a b c d x v) := by
  have g : ∀ n : Int, 0 ≤ n % 1024 ∧ n % 1024 < 9223372036854775808 := fun n => by omega
  have f : ∀ n : Int, 0 ≤ n % 256 % 5 ∧ n % 256 % 5 < 5 := fun n => by omega
  refine ⟨?_, f _, hr, g _, ⟨g _, f _⟩, ⟨?_, f _, ?_⟩, hv⟩
  · show 0 ≤ a % 256 % 6 ∧ a % 256 % 6 < 6; omega
  · show 0 ≤ c % 2 ∧ c % 2 < 2; omega
  · show 0 ≤ d % 4 ∧ d % 4 < 5; omega
theorem MsgT.of (l : List Int) (h : l.length = 192) : ∃ x : MsgT, x.flat = l := by
  match l, h with
  | a :: b :: l, h =>
    have h' : l.length = 190 := by simpa using h
    obtain ⟨x, hx⟩ := RowT.of (l.take 174) (by rw [List.length_take]; omega)
    have h2 : (l.drop 174).length = 16 := by rw [List.length_drop]; omega
    rw [← List.take_append_drop 174 l, ← hx]
    generalize l.drop 174 = r at h2
    match r, h2 with
    | [c, d, e1, e2, f1, f2, g1, g2, g3, v1, v2, h0, h1, h2, h3, h4], _ => exact ⟨⟨a, b, x, c, d, ⟨e1, e2⟩, ⟨f1, f2⟩, ⟨g1, g2, g3⟩, ⟨v1, v2, #v[h0, h1, h2, h3, h4]⟩⟩, by simp [MsgT.flat, BallotT.flat, ChangeT.flat, ViewT.flat]⟩
theorem ViewT.of (l : List Int) (h : l.length = 7) : ∃ x : ViewT, x.flat = l := by
  match l, h with
  | [v1, v2, h0, h1, h2, h3, h4], _ => exact ⟨⟨v1, v2, #v[h0, h1, h2, h3, h4]⟩, by simp [ViewT.flat]⟩
theorem ChangeT.of (l : List Int) (h : l.length = 3) : ∃ x : ChangeT, x.flat = l := by
  match l, h with
  | [a, b, c], _ => exact ⟨⟨a, b, c⟩, rfl⟩
end Api
end

section
namespace Api
open Go Leg Codec Dsk Wal
structure RcOk (m : RecT) : Prop where
  dec : decR (encR m) = (m, 0)
  wf : WF m.row.flat
  kind : m.kind ≠ 3 ∧ m.kind ≠ 4
theorem RcOk.of {m : RecT} (h : OkRc m) (hn : normR m = m) (ho : okRc m = true) (hw : WF m.row.flat) (hk : m.kind ≠ 3 ∧ m.kind ≠ 4) : RcOk m := ⟨by have := decR_enc h ho; rwa [hn] at this, hw, hk⟩
theorem nm0 : Nm 0 := ⟨by decide, by decide⟩
theorem okB0 : OkB BallotT.zero := ⟨nm0, by decide, by decide⟩
theorem okC0 : OkC ChangeT.zero := ⟨⟨by decide, by decide⟩, ⟨by decide, by decide⟩, ⟨by decide, by decide⟩⟩
theorem okV0 : OkV ViewT.zero := by
  have : ∀ i : Fin 5, 0 ≤ ViewT.zero.heirs[i.val] ∧ ViewT.zero.heirs[i.val] < 6 := by decide +kernel
  exact ⟨nm0, ⟨by decide, by decide⟩, fun i hi => this ⟨i, hi⟩⟩
theorem RcOk.row {y : RowT} (ht : TameR y) (hr : rightR y = true) : RcOk (rowRec y) :=
  .of ⟨⟨Int.le_refl 0, show (0 : Int) < 6 by decide⟩, ⟨Int.le_refl 0, show (0 : Int) < 5 by decide⟩, ht, nm0, okB0, okC0, okV0⟩ rfl hr ht.wf ⟨show (0 : Int) ≠ 3 by decide, show (0 : Int) ≠ 4 by decide⟩
end Api
end

section
namespace Go.Proofs.YtobdfjdoilnfcaaGreat

open Go Leg Codec Api

set_option maxRecDepth 100000

theorem read1_calm (ob : Nat) (ok : Bool) : DoesD Tryz.prog 128 #[(.pointer (some ⟨ob, 0, none⟩))] (.returning) (fun _ => True) [blkA ob [(.bool (ok))] 4] (fun e u' H => e = .returned (.tuple #[]) ∧ settle u' = .returning ∧ H = [blkA ob [.bool ok] 4]) := by
  refine DoesD.recover2 (vs := [(.pointer (some ⟨ob, 0, none⟩))]) (n := 15) (u' := .returning) (rv := .nilIface) Tryz.func128 rfl rfl rfl rfl rfl rfl rfl rfl rfl rfl rfl (fun c0 cs hu => by cases c0; simp only at hu; subst hu; rfl) (fun w0 F c0 cs hF => ?_)
  refine TC.seq (fun K1 hK1 => ?_)
  refine TC.seq (fun K2 hK2 => ?_)
  refine TC.region ?_
  refine TL.v (Want.plain rfl) rfl rfl (PV.move rfl rfl) ?_
  refine TL.v (Want.plain rfl) rfl rfl (PV.nilNil rfl Tryz.underlying20 rfl) ?_
  refine TL.nil ?_
  refine TE.next hK2 ?_
  clear hK2
  refine TC.yes rfl ?_
  refine TC.ret ?_
  refine TE.passRet ?_
  clear hK1
  refine TE.weak (Sub.refl _) (fun _ s => sep_keep [0] rfl s) ?_
  refine TE.retS0 rfl ?_
  refine ⟨rfl, rfl, ?_⟩
  rfl


theorem read1_thrown (ob : Nat) (ok : Bool) : DoesD Tryz.prog 128 #[(.pointer (some ⟨ob, 0, none⟩))] (.panicking giveUp) (fun _ => True) [blkA ob [(.bool (ok))] 4] (fun e u' H => e = .returned (.tuple #[]) ∧ settle u' = .returning ∧ H = [blkA ob [.bool false] 4]) := by
  refine DoesD.recover2 (vs := [(.pointer (some ⟨ob, 0, none⟩))]) (n := 15) (u' := .panicking [{ v := (.iface 204 (.agg #[])), recovered := true }]) (rv := (.iface 204 (.agg #[]))) Tryz.func128 rfl rfl rfl rfl rfl rfl rfl rfl rfl rfl rfl (fun c0 cs hu => by cases c0; simp only at hu; subst hu; rfl) (fun w0 F c0 cs hF => ?_)
  refine TC.seq (fun K1 hK1 => ?_)
  refine TC.seq (fun K2 hK2 => ?_)
  refine TC.region ?_
  refine TL.v (Want.plain rfl) rfl rfl (PV.move rfl rfl) ?_
  refine TL.v (Want.plain rfl) rfl rfl (PV.ifaceNil rfl Tryz.underlying20 rfl) ?_
  refine TL.nil ?_
  refine TE.next hK2 ?_
  clear hK2
  refine TC.no rfl ?_
  refine TC.skip ?_
  refine TE.next hK1 ?_
  clear hK1
  refine TC.seq (fun K3 hK3 => ?_)
  refine TC.seq (fun K4 hK4 => ?_)
  refine TC.region ?_
  refine TL.v (Want.plain rfl) rfl rfl (PV.move rfl rfl) ?_
  refine TL.v (Want.plain rfl) rfl rfl (PV.assert rfl Tryz.underlying204 rfl rfl) ?_
  refine TL.v (Want.plain rfl) rfl rfl (PV.move rfl rfl) ?_
  refine TL.v (Want.plain rfl) rfl rfl (PV.extract (vs := [.agg #[], .bool true]) rfl rfl rfl) ?_
  refine TL.v (Want.plain rfl) rfl rfl (PV.extract (vs := [.agg #[], .bool true]) rfl rfl rfl) ?_
  refine TL.alloc (Want.plain rfl) rfl rfl rfl z204 (fun b2 => ?_)
  change TL _ _ _ _ _ _ _ _ _ [blkA b2 [] 204, blkA ob [(.bool (ok))] 4]
  refine TL.store (vs := []) (i := 0) (H' := [blkA b2 [] 204, blkA ob [(.bool (ok))] 4]) (Want.plain rfl) rfl rfl rfl rfl rfl sz204 (by simp [Value.oneCell']) rfl rfl (lbe rfl) rfl rfl ?_
  refine TL.v (Want.plain rfl) rfl rfl (PV.assign rfl rfl) ?_
  refine TL.nil ?_
  refine TE.next hK4 ?_
  clear hK4
  refine TC.seq (fun K5 hK5 => ?_)
  refine TC.region ?_
  refine TL.v (Want.plain rfl) rfl rfl (PV.move rfl rfl) ?_
  refine TL.v (Want.plain rfl) rfl rfl (PV.not (r := false) rfl rfl rfl) ?_
  refine TL.nil ?_
  refine TE.next hK5 ?_
  clear hK5
  refine TC.no rfl ?_
  refine TC.skip ?_
  refine TE.next hK3 ?_
  clear hK3
  refine TC.region ?_
  refine TL.store1 (i := 1) (H' := [blkA b2 [] 204, blkA ob [(.bool false)] 4]) (Want.plain rfl) rfl rfl rfl rfl rfl sz4 rfl rfl (lb rfl) rfl rfl ?_
  refine TL.nil ?_
  refine TE.weak (Sub.refl _) (fun _ s => sep_keep [1] rfl s) ?_
  refine TE.endS0 rfl ?_
  refine ⟨rfl, rfl, ?_⟩
  exact rfl


theorem read_does {fid : Nat} {caps : List Value} {x : Value} {bs : List UInt8} {C G : HP} {A : List UInt8 → HP} {R : Hl → Prop} (hR : ∀ F, R F → IsB x bs F) (hmono : ∀ F g, R F → Dj g F → R (jn g F)) (hN : Named Tryz.prog fid)
    (hc : ∀ rb, Leg.Does Tryz.prog fid ([Value.pointer (some ⟨rb, 0, none⟩)] ++ caps).toArray R [blkA rb [x] 202, C] (RetP (fun _ H => ∃ x' r, H = [blkA rb [x'] 202, A r] ∧ Tail x bs x' r) (fun c H => c = giveUp ∧ ∃ x', H = [blkA rb [x'] 202, G]))) :
    Leg.Does Tryz.prog 95 #[x, .func (.func fid) #[] caps.toArray] R [C] (Ret (fun v H => (∃ r, v = .bool (decide (r = [])) ∧ H = [A r]) ∨ (v = .bool false ∧ H = [G]))) := by
 refine Leg.Does.bodyD (vs := [x, .func (.func fid) #[] caps.toArray]) (n := 21) Tryz.func95 rfl rfl rfl (fun w0 F hF => ?_)
 refine sr fun _ J1 => ?_
 refine TL.alloc (Want.plain rfl) rfl rfl rfl z4 (fun b4 => ?_)
 refine nx J1 (sr fun _ J2 => ?_)
 refine PS ?_
 refine tp (PV.buildOne rfl Tryz.underlying202 z202 rfl sz72 rfl (hR _ hF).one) ?_
 refine TL.box (Want.plain rfl) rfl rfl rfl rfl (fun b8 => ?_)
 refine PS ?_
 refine nx J2 (sr fun _ J3 => ?_)
 refine tp (PV.mkFunc rfl rfl) ?_
 refine TL.deferFn (Want.plain rfl) rfl rfl rfl ?_
 refine nx J3 ?_
 refine TC.seq fun _ J4 => ?_
 refine sr fun _ J5 => ?_
 refine PS ?_
 refine tp (PV.funcNeqNil rfl Tryz.underlying176 rfl) ?_
 refine nx J5 ?_
 refine CY ?_
 refine TC.region ?_
 refine PS ?_
 refine PS ?_
 refine TL.callPv (Want.plain rfl) rfl rfl rfl rfl hN rfl (hc b8) (fun _ s => sep_selR [0, 1] rfl s) (IsMono hmono hF) (fun cP HP hP => ?_) (fun vR HR hR' => ?_)
 obtain ⟨rfl, x', rfl⟩ := hP
 refine TE.passPanic ?_
 intro a w fr sm m
 refine leaves_one (b := b4) (e := 4) (A := [blkA b4 [(.bool false)] 4]) (B := [blkA b8 [x'] 202, G]) (H' := [G]) fr sm m (by simp) nm128 (read1_thrown b4 _) (fun _ s => sep_selR [2] rfl s) (fun _ _ _ => trivial) rfl rfl Tryz.underlying4 rfl (fun H1 h1 => ?_)
 subst h1
 refine ⟨[.bool false], .bool false, Rd.own 0 rfl rfl, rfl, fun _ s => sep_keep [2] rfl s, ?_⟩
 exact .inr ⟨rfl, rfl⟩
 obtain ⟨x', r, rfl, htl⟩ := hR'
 have hB := htl F (hR _ hF)
 rcases hB with ⟨rfl, rfl⟩ | ⟨b, off, cap, cs, T, z, rfl, hB1, hB2, hB3, hB4⟩
 refine nx J4 (sr fun _ J6 => ?_)
 refine PS ?_
 refine PS ?_
 refine FA 0 Tryz.underlying202 sz72 ?_
 refine LA 0 Tryz.underlying72 ?_
 refine tp (PV.lenSl rfl Tryz.underlying72 rfl) ?_
 refine PS ?_
 refine S0 2 sz4 ?_
 refine nx J6 ?_
 refine TC.ret ?_
 intro a w fr sm m
 refine leaves_one (b := b4) (e := 4) (A := [blkA b4 [(.bool true)] 4]) (B := [blkA b8 [(.slice none 0 0)] 202, (A [])]) (H' := [(A [])]) fr sm m (by simp) nm128 (read1_calm b4 _) (fun _ s => sep_selR [2] rfl s) (fun _ _ _ => trivial) rfl rfl Tryz.underlying4 rfl (fun H1 h1 => ?_)
 subst h1
 refine ⟨[.bool true], .bool true, Rd.own 0 rfl rfl, rfl, fun _ s => sep_keep [2] rfl s, ?_⟩
 exact .inl ⟨[], rfl, rfl⟩
 refine nx J4 (sr fun _ J7 => ?_)
 refine PS ?_
 refine PS ?_
 refine FA 0 Tryz.underlying202 sz72 ?_
 refine LA 0 Tryz.underlying72 ?_
 refine tp (PV.lenSl rfl Tryz.underlying72 rfl) ?_
 refine PS ?_
 refine S0 2 sz4 ?_
 refine nx J7 ?_
 refine TC.ret ?_
 intro a w fr sm m
 refine leaves_one (b := b4) (e := 4) (A := [blkA b4 [(.bool (decide (((r.length : Nat) : Int) = 0)))] 4]) (B := [blkA b8 [(.slice (some ⟨b, off, none⟩) (r.length) (cap))] 202, (A r)]) (H' := [(A r)]) fr sm m (by simp) nm128 (read1_calm b4 _) (fun _ s => sep_selR [2] rfl s) (fun _ _ _ => trivial) rfl rfl Tryz.underlying4 rfl (fun H1 h1 => ?_)
 subst h1
 refine ⟨[.bool (decide (((r.length : Nat) : Int) = 0))], .bool (decide (((r.length : Nat) : Int) = 0)), Rd.own 0 rfl rfl, rfl, fun _ s => sep_keep [2] rfl s, ?_⟩
 exact .inl ⟨r, by congr 1; rw [decide_eq_decide]; cases r <;> simp <;> omega, rfl⟩
end Go.Proofs.YtobdfjdoilnfcaaGreat
end

section
namespace Go.Proofs.YtobdfjdoilnfcaaGreat
open Go Leg Codec Api

theorem read_with {fid : Nat} {caps : List Value} {x : Value} {bs : List UInt8} {α β : Type} {C : List HP} {A : α → List HP} {G : β → List HP} {φ : α → List UInt8 → Prop} {ψ : β → Prop} {R : Hl → Prop} (hR : ∀ F, R F → IsB x bs F) (hmono : ∀ F g, R F → Dj g F → R (jn g F)) (hN : Named Tryz.prog fid)
    (hc : ∀ rb, Leg.Does Tryz.prog fid ([Value.pointer (some ⟨rb, 0, none⟩)] ++ caps).toArray R (blkA rb [x] 202 :: C) (RetP (fun _ H => ∃ x' r a, H = blkA rb [x'] 202 :: A a ∧ Tail x bs x' r ∧ φ a r) (fun c H => c = giveUp ∧ ∃ x' b, H = blkA rb [x'] 202 :: G b ∧ ψ b))) :
    Leg.Does Tryz.prog 95 #[x, .func (.func fid) #[] caps.toArray] R C (Ret (fun v H => (∃ r a, v = .bool (decide (r = [])) ∧ H = A a ∧ φ a r) ∨ (∃ b, v = .bool false ∧ H = G b ∧ ψ b))) := by
  have h1 := read_does (C := all C) (G := fun h => ∃ b, ψ b ∧ sep (G b) h) (A := fun r h => ∃ a, φ a r ∧ sep (A a) h) hR hmono hN fun rb =>
    (hc rb).conv (post' := RetP (fun _ H => ∃ x' r, H = [blkA rb [x'] 202, fun h => ∃ a, φ a r ∧ sep (A a) h] ∧ Tail x bs x' r) (fun c H => c = giveUp ∧ ∃ x', H = [blkA rb [x'] 202, fun h => ∃ b, ψ b ∧ sep (G b) h]))
      (fun h s => sep_cons s fun _ => all_sep)
      (fun e H F w hp m => by
        cases e with
        | returned v =>
          obtain ⟨x', r, a, rfl, ht, hf⟩ := hp
          exact ⟨[blkA rb [x'] 202, fun h => ∃ a, φ a r ∧ sep (A a) h], m.mono fun h s => sep_cons s fun h s => sep_single ⟨a, hf, s⟩, x', r, rfl, ht⟩
        | panicked c =>
          obtain ⟨hc, x', b, rfl, hf⟩ := hp
          exact ⟨[blkA rb [x'] 202, fun h => ∃ b, ψ b ∧ sep (G b) h], m.mono fun h s => sep_cons s fun h s => sep_single ⟨b, hf, s⟩, hc, x', rfl⟩
        | outgrown => exact hp.elim)
  refine h1.conv (fun h s => sep_all s) fun e H F w hp m => ?_
  cases e with
  | returned v =>
    rcases hp with ⟨r, hv, rfl⟩ | ⟨hv, rfl⟩
    · obtain ⟨h, d, e, g1, g2, d', rfl, ⟨a, hf, s⟩, _⟩ := m
      exact ⟨A a, ⟨_, d, e, sep_more _ s d'⟩, .inl ⟨r, a, hv, rfl, hf⟩⟩
    · obtain ⟨h, d, e, g1, g2, d', rfl, ⟨b, hf, s⟩, _⟩ := m
      exact ⟨G b, ⟨_, d, e, sep_more _ s d'⟩, .inr ⟨b, hv, rfl, hf⟩⟩
  | panicked c => exact hp.elim
  | outgrown => exact hp.elim
end Go.Proofs.YtobdfjdoilnfcaaGreat
end
