/-
  The contracts of package disk, walked.
-/

import Derived.Test.YtdekgkmbcdlekaaTy
import Derived.Test.YtdekgkmbcdlekaaDiskP
import Derived.Test.YtdekgkmbcdlekaaLegJ

namespace Go.Proofs.Ytdekgkmbcdlekaa

open Go Leg Codec Api Dsk

set_option maxRecDepth 100000

theorem dr_new_does  :
    Does Try.prog 58 #[] (fun _ => True) [] (Ret (fun v H => ∃ d m, v = .pointer (some ⟨d, 0, none⟩) ∧ H = [blkA d [(.map (some m)), (.slice none 0 0), (.bool false), (.int .i64 0), (.bool false)] 136, mapP m ([])])) := by
  refine Does.body (vs := []) (n := 4) Try.func58 rfl rfl rfl (fun w0 F hF => ?_)
  refine TC.seq (fun K1 hK1 => ?_)
  refine TC.region ?_
  refine TL.v (Want.plain rfl) rfl rfl (PV.assign rfl rfl) ?_
  refine TL.nil ?_
  refine TE.next hK1 ?_
  clear hK1
  refine TC.seq (fun K2 hK2 => ?_)
  refine TC.region ?_
  refine TL.makeMap (Want.plain rfl) rfl rfl rfl (fun m1 => ?_)
  change TL _ _ _ _ _ _ _ _ _ [mapP m1 ([])]
  refine TL.v (Want.plain rfl) rfl rfl (PV.build (cells := #[(.map (some m1)), (.slice none 0 0), (.bool false), (.int .i64 0), (.bool false)]) rfl rfl (by as_aux_lemma => kernel_rfl)) ?_
  refine TL.box (Want.plain rfl) rfl rfl rfl rfl (fun b3 => ?_)
  change TL _ _ _ _ _ _ _ _ _ [blkA b3 [(.map (some m1)), (.slice none 0 0), (.bool false), (.int .i64 0), (.bool false)] 136, mapP m1 ([])]
  refine TL.v (Want.plain rfl) rfl rfl (PV.assign rfl rfl) ?_
  refine TL.nil ?_
  refine TE.next hK2 ?_
  clear hK2
  refine TC.ret ?_
  refine TE.weak (Sub.refl _) (fun _ s => sep_keep [0, 0] rfl s) ?_
  refine TE.ret1 rfl rfl ?_
  exact ⟨b3, m1, rfl, rfl⟩


theorem mixedD : Try.prog.follows .mixedOrders = true := by kernel_rfl

theorem dr_last_does (d m : Nat) (wv : Value) (s : Secs) (ar dn : Bool) (lf at' : Int) (b : List UInt8) (hb : b.length = 64) :
    Does Try.prog 72 #[(.pointer (some ⟨d, 0, none⟩)), (.int .i64 (at')), (.agg (u8s b).toArray)] (fun _ => True) [blkA d [(.map (some m)), wv, (.bool (ar)), (.int .i64 (lf)), (.bool (dn))] 136, mapP m (kvS s)] (Ret (fun _ H => H = [blkA d [(.map (some m)), wv, (.bool (ar)), (.int .i64 (lf)), (.bool (dn))] 136, mapP m (kvS (sput s at' b))])) := by
  refine Does.body (vs := [(.pointer (some ⟨d, 0, none⟩)), (.int .i64 (at')), (.agg (u8s b).toArray)]) (n := 21) Try.func72 rfl rfl rfl (fun w0 F hF => ?_)
  refine TC.seq (fun K1 hK1 => ?_)
  refine TC.region ?_
  refine TL.box (Want.plain rfl) rfl rfl rfl rfl (fun b5 => ?_)
  change TL _ _ _ _ _ _ _ _ _ [blkA b5 (u8s b) 161, blkA d [(.map (some m)), wv, (.bool (ar)), (.int .i64 (lf)), (.bool (dn))] 136, mapP m (kvS s)]
  refine TL.nil ?_
  refine TE.next hK1 ?_
  clear hK1
  refine TC.seq (fun K2 hK2 => ?_)
  refine TC.seq (fun K3 hK3 => ?_)
  refine TC.region ?_
  refine TL.v (Want.plain rfl) rfl rfl (PV.move rfl rfl) ?_
  refine TL.v (Want.plain rfl) rfl rfl (PV.nilCheck rfl rfl) ?_
  refine TL.v (Want.plain rfl) rfl rfl (PV.fieldAddr (r := 0) rfl Try.underlying136 rfl sz133 rfl rfl) ?_
  refine TL.v (Want.plain rfl) rfl rfl (PV.load1 (v := (.map (some m))) rfl Try.underlying133 rfl rfl (Rd.own 1 rfl rfl) rfl) ?_
  refine TL.v (Want.plain rfl) rfl rfl (PV.mapNil rfl Try.underlying133 rfl rfl) ?_
  refine TL.nil ?_
  refine TE.next hK3 ?_
  clear hK3
  refine TC.no rfl ?_
  refine TC.skip ?_
  refine TE.next hK2 ?_
  clear hK2
  refine TC.draw (fun w => Frm F w ∧ w.heap[d]? = some (.cells ([(.map (some m)), wv, (.bool (ar)), (.int .i64 (lf)), (.bool (dn))]).toArray 136 (0, 0)) ∧ w.heap[b5]? = some (.cells (u8s b).toArray 161 (0, 0)) ∧ True) mixedD rfl (fun _ s => ⟨Frm.of s, s.block 1 (lb rfl) rfl, s.block 0 (lb rfl) rfl, trivial⟩) ?_
  refine TD.take (i := 0) rfl (by kernel_rfl) (by kernel_rfl) (by kernel_rfl) (fun _ _ _ _ h => h) (Want.plain rfl) rfl rfl (PV.move rfl rfl) ?_
  refine TD.take (i := 1) rfl (by kernel_rfl) (by kernel_rfl) (by kernel_rfl) (fun _ _ _ _ h => h) (Want.plain rfl) rfl rfl (PV.nilCheck rfl rfl) ?_
  refine TD.take (i := 2) rfl (by kernel_rfl) (by kernel_rfl) (by kernel_rfl) (fun _ _ _ _ h => h) (Want.plain rfl) rfl rfl (PV.fieldAddr (r := 0) rfl Try.underlying136 rfl sz133 rfl rfl) ?_
  refine TD.take (i := 3) rfl (by kernel_rfl) (by kernel_rfl) (by kernel_rfl) (fun _ _ _ _ h => h) (Want.plain rfl) rfl rfl (PV.load1 (v := (.map (some m))) rfl Try.underlying133 rfl rfl (fun _ h => h.2.1) rfl) ?_
  refine TD.take (i := 4) rfl (by kernel_rfl) (by kernel_rfl) (by kernel_rfl) (fun _ _ _ _ h => h) (Want.plain rfl) rfl rfl (PV.move rfl rfl) ?_
  refine TD.take (i := 5) rfl (by kernel_rfl) (by kernel_rfl) (by kernel_rfl) (fun _ _ _ _ h => h) (Want.plain rfl) rfl rfl (PV.loadN (vs := u8s b) rfl Try.underlying161 rfl sz161 rfl (fun _ h => h.2.2.1) (by rw [u8s_length]; exact hb) (by rw [List.drop_zero, List.take_of_length_le (by rw [u8s_length, hb]; exact Nat.le_refl _)])) ?_
  refine TD.all [6] (by kernel_rfl) rfl ?_
  refine AllT.cons rfl ?_ ?_
  · skip
    refine TL.mapUpdate (i := 2) (H' := [blkA b5 (u8s b) 161, blkA d [(.map (some m)), wv, (.bool (ar)), (.int .i64 (lf)), (.bool (dn))] 136, mapP m (kvS (sput s at' b))]) (Want.plain rfl) rfl rfl Try.underlying133 Try.underlying3 rfl rfl rfl rfl rfl (congrArg (fun q => List.set _ 2 (mapP m q)) (kput_kvS _ _ _)) ?_
    refine TL.nil ?_
    refine TE.draw (fun _ s => ⟨Frm.of s, s.block 1 (lb rfl) rfl, s.block 0 (lb rfl) rfl, trivial⟩) ?_
    refine TD.done (by kernel_rfl) ?_
    refine TE.weak (Sub.refl _) (fun _ s => sep_keep [1, 1] rfl s) ?_
    refine TE.end0 rfl ?_
    exact rfl
  exact AllT.nil


theorem dr_write_does (d m : Nat) (wv : Value) (ws : Secs) (ar dn : Bool) (lf at' : Int) (x : Value) (bs : List UInt8) (hl : 0 ≤ lf ∧ lf ≤ 9223372036854775807) (hw : ws.length ≤ 1000000000) :
    Does Try.prog 67 #[(.pointer (some ⟨d, 0, none⟩)), (.int .i64 (at')), x] (IsW x bs) [blkA d [(.map (some m)), wv, (.bool (ar)), (.int .i64 (lf)), (.bool (dn))] 136, own wv (ws.length) (wflat ws) 170 65] (Ret (fun v H => if at' < 0 ∨ 2048 ≤ at' ∨ 64 < bs.length then v = .int .i64 5 ∧ H = [blkA d [(.map (some m)), wv, (.bool (ar)), (.int .i64 (lf)), (.bool (dn))] 136, own wv (ws.length) (wflat ws) 170 65] else if dn = true ∨ (ar = true ∧ lf = 0) then v = .int .i64 4 ∧ H = [blkA d [(.map (some m)), wv, (.bool (ar)), (.int .i64 (lf)), (.bool true)] 136, own wv (ws.length) (wflat ws) 170 65] else v = .int .i64 0 ∧ ∃ wv', H = [blkA d [(.map (some m)), wv', (.bool (ar)), (.int .i64 ((if ar = true then lf - 1 else lf))), (.bool false)] 136, own wv' ((ws ++ [(at', padS bs)]).length) (wflat (ws ++ [(at', padS bs)])) 170 65])) := by
  refine Does.body (vs := [(.pointer (some ⟨d, 0, none⟩)), (.int .i64 (at')), x]) (n := 64) Try.func67 rfl rfl rfl (fun w0 F hF => ?_)
  refine TC.seq (fun K1 hK1 => ?_)
  refine TC.region ?_
  refine TL.v (Want.plain rfl) rfl rfl (PV.assign rfl rfl) ?_
  refine TL.nil ?_
  refine TE.next hK1 ?_
  clear hK1
  refine TC.seq (fun K2 hK2 => ?_)
  refine TC.seq (fun K3 hK3 => ?_)
  refine TC.region ?_
  refine TL.v (Want.plain rfl) rfl rfl (PV.move rfl rfl) ?_
  refine TL.v (Want.plain rfl) rfl rfl (PV.lss rfl rfl rfl) ?_
  refine TL.dec (fun h9 => ?_) (fun h9 => ?_)
  · skip
    refine TL.v (Want.plain rfl) rfl rfl (PV.move rfl rfl) ?_
    refine TL.unmet (b := true) rfl rfl rfl rfl (lb rfl) ?_
    refine TL.unmet (b := true) rfl rfl rfl rfl (lb rfl) ?_
    refine TL.v (Want.plain rfl) rfl rfl (PV.pick rfl rfl rfl) ?_
    refine TL.v (Want.plain rfl) rfl rfl (PV.move rfl rfl) ?_
    refine TL.unmet (b := true) rfl rfl rfl rfl (lb rfl) ?_
    refine TL.unmet (b := true) rfl rfl rfl rfl (lb rfl) ?_
    refine TL.unmet (b := true) rfl rfl rfl rfl (lb rfl) ?_
    refine TL.v (Want.plain rfl) rfl rfl (PV.pick rfl rfl rfl) ?_
    refine TL.nil ?_
    refine TE.next hK3 ?_
    clear hK3
    refine TC.yes rfl ?_
    refine TC.seq (fun K4 hK4 => ?_)
    refine TC.region ?_
    refine TL.v (Want.plain rfl) rfl rfl (PV.assign rfl rfl) ?_
    refine TL.nil ?_
    refine TE.next hK4 ?_
    clear hK4
    refine TC.ret ?_
    refine TE.passRet ?_
    clear hK2
    refine TE.weak (Sub.refl _) (fun _ s => sep_keep [0, 0] rfl s) ?_
    refine TE.ret1 rfl rfl ?_
    show (if _ then _ else _)
    first
      | (rw [if_pos (by omega)]; exact ⟨rfl, rfl⟩)
      | (rw [if_neg (by omega), if_pos (by simp_all)]; exact ⟨rfl, by simp_all <;> rfl⟩)
      | (rw [if_neg (by omega), if_neg (by simp_all)]; exact ⟨rfl, v61, by simp_all <;> rfl⟩)
  · skip
    refine TL.v (Want.plain rfl) rfl rfl (PV.move rfl rfl) ?_
    refine TL.v (Want.met rfl rfl rfl) rfl rfl (PV.move rfl rfl) ?_
    refine TL.v (Want.met rfl rfl rfl) rfl rfl (PV.geq rfl rfl rfl) ?_
    refine TL.dec (fun h12 => ?_) (fun h12 => ?_)
    · skip
      refine TL.v (Want.plain rfl) rfl rfl (PV.pick rfl rfl rfl) ?_
      refine TL.v (Want.plain rfl) rfl rfl (PV.move rfl rfl) ?_
      refine TL.unmet (b := true) rfl rfl rfl rfl (lb rfl) ?_
      refine TL.unmet (b := true) rfl rfl rfl rfl (lb rfl) ?_
      refine TL.unmet (b := true) rfl rfl rfl rfl (lb rfl) ?_
      refine TL.v (Want.plain rfl) rfl rfl (PV.pick rfl rfl rfl) ?_
      refine TL.nil ?_
      refine TE.next hK3 ?_
      clear hK3
      refine TC.yes rfl ?_
      refine TC.seq (fun K5 hK5 => ?_)
      refine TC.region ?_
      refine TL.v (Want.plain rfl) rfl rfl (PV.assign rfl rfl) ?_
      refine TL.nil ?_
      refine TE.next hK5 ?_
      clear hK5
      refine TC.ret ?_
      refine TE.passRet ?_
      clear hK2
      refine TE.weak (Sub.refl _) (fun _ s => sep_keep [0, 0] rfl s) ?_
      refine TE.ret1 rfl rfl ?_
      show (if _ then _ else _)
      first
        | (rw [if_pos (by omega)]; exact ⟨rfl, rfl⟩)
        | (rw [if_neg (by omega), if_pos (by simp_all)]; exact ⟨rfl, by simp_all <;> rfl⟩)
        | (rw [if_neg (by omega), if_neg (by simp_all)]; exact ⟨rfl, v61, by simp_all <;> rfl⟩)
    · skip
      refine TL.v (Want.plain rfl) rfl rfl (PV.pick rfl rfl rfl) ?_
      refine TL.v (Want.plain rfl) rfl rfl (PV.move rfl rfl) ?_
      refine TL.v (Want.met rfl rfl rfl) rfl rfl (PV.move rfl rfl) ?_
      refine TL.v (Want.met rfl rfl rfl) rfl rfl (PV.lenV rfl Try.underlying27 rfl hF.len) ?_
      refine TL.v (Want.met rfl rfl rfl) rfl rfl (PV.gtr rfl rfl rfl) ?_
      refine TL.dec (fun h17 => ?_) (fun h17 => ?_)
      · skip
        refine TL.v (Want.plain rfl) rfl rfl (PV.pick rfl rfl rfl) ?_
        refine TL.nil ?_
        refine TE.next hK3 ?_
        clear hK3
        refine TC.yes rfl ?_
        refine TC.seq (fun K6 hK6 => ?_)
        refine TC.region ?_
        refine TL.v (Want.plain rfl) rfl rfl (PV.assign rfl rfl) ?_
        refine TL.nil ?_
        refine TE.next hK6 ?_
        clear hK6
        refine TC.ret ?_
        refine TE.passRet ?_
        clear hK2
        refine TE.weak (Sub.refl _) (fun _ s => sep_keep [0, 0] rfl s) ?_
        refine TE.ret1 rfl rfl ?_
        show (if _ then _ else _)
        first
          | (rw [if_pos (by omega)]; exact ⟨rfl, rfl⟩)
          | (rw [if_neg (by omega), if_pos (by simp_all)]; exact ⟨rfl, by simp_all <;> rfl⟩)
          | (rw [if_neg (by omega), if_neg (by simp_all)]; exact ⟨rfl, v61, by simp_all <;> rfl⟩)
      · skip
        refine TL.v (Want.plain rfl) rfl rfl (PV.pick rfl rfl rfl) ?_
        refine TL.nil ?_
        refine TE.next hK3 ?_
        clear hK3
        refine TC.no rfl ?_
        refine TC.skip ?_
        refine TE.next hK2 ?_
        clear hK2
        refine TC.seq (fun K7 hK7 => ?_)
        refine TC.seq (fun K8 hK8 => ?_)
        refine TC.region ?_
        refine TL.v (Want.plain rfl) rfl rfl (PV.move rfl rfl) ?_
        refine TL.v (Want.plain rfl) rfl rfl (PV.nilCheck rfl rfl) ?_
        refine TL.v (Want.plain rfl) rfl rfl (PV.fieldAddr (r := 2) rfl Try.underlying136 rfl sz4 rfl rfl) ?_
        refine TL.v (Want.plain rfl) rfl rfl (PV.load1 (v := (.bool (ar))) rfl Try.underlying4 rfl rfl (Rd.own 0 rfl rfl) rfl) ?_
        refine TL.decB (fun h22 => ?_) (fun h22 => ?_)
        · skip
          refine TL.v (Want.plain rfl) rfl rfl (PV.move rfl rfl) ?_
          refine TL.v (Want.met rfl rfl rfl) rfl rfl (PV.move rfl rfl) ?_
          refine TL.v (Want.met rfl rfl rfl) rfl rfl (PV.nilCheck rfl rfl) ?_
          refine TL.v (Want.met rfl rfl rfl) rfl rfl (PV.fieldAddr (r := 3) rfl Try.underlying136 rfl sz3 rfl rfl) ?_
          refine TL.v (Want.met rfl rfl rfl) rfl rfl (PV.load1 (v := (.int .i64 (lf))) rfl Try.underlying3 rfl rfl (Rd.own 0 rfl rfl) rfl) ?_
          refine TL.v (Want.met rfl rfl rfl) rfl rfl (PV.eql rfl rfl rfl) ?_
          refine TL.dec (fun h28 => ?_) (fun h28 => ?_)
          · skip
            refine TL.v (Want.plain rfl) rfl rfl (PV.pick rfl rfl rfl) ?_
            refine TL.nil ?_
            refine TE.next hK8 ?_
            clear hK8
            refine TC.yes rfl ?_
            refine TC.region ?_
            refine TL.v (Want.plain rfl) rfl rfl (PV.move rfl rfl) ?_
            refine TL.v (Want.plain rfl) rfl rfl (PV.nilCheck rfl rfl) ?_
            refine TL.v (Want.plain rfl) rfl rfl (PV.fieldAddr (r := 4) rfl Try.underlying136 rfl sz4 rfl rfl) ?_
            refine TL.store1 (i := 0) (H' := [blkA d [(.map (some m)), wv, (.bool (ar)), (.int .i64 (lf)), (.bool true)] 136, own wv (ws.length) (wflat ws) 170 65]) (Want.plain rfl) rfl rfl rfl rfl rfl sz4 rfl rfl (lb rfl) rfl rfl ?_
            refine TL.nil ?_
            refine TE.next hK7 ?_
            clear hK7
            refine TC.seq (fun K9 hK9 => ?_)
            refine TC.seq (fun K10 hK10 => ?_)
            refine TC.region ?_
            refine TL.v (Want.plain rfl) rfl rfl (PV.move rfl rfl) ?_
            refine TL.v (Want.plain rfl) rfl rfl (PV.nilCheck rfl rfl) ?_
            refine TL.v (Want.plain rfl) rfl rfl (PV.fieldAddr (r := 4) rfl Try.underlying136 rfl sz4 rfl rfl) ?_
            refine TL.v (Want.plain rfl) rfl rfl (PV.load1 (v := (.bool true)) rfl Try.underlying4 rfl rfl (Rd.own 0 rfl rfl) rfl) ?_
            refine TL.nil ?_
            refine TE.next hK10 ?_
            clear hK10
            refine TC.yes rfl ?_
            refine TC.seq (fun K11 hK11 => ?_)
            refine TC.region ?_
            refine TL.v (Want.plain rfl) rfl rfl (PV.assign rfl rfl) ?_
            refine TL.nil ?_
            refine TE.next hK11 ?_
            clear hK11
            refine TC.ret ?_
            refine TE.passRet ?_
            clear hK9
            refine TE.weak (Sub.refl _) (fun _ s => sep_keep [0, 0] rfl s) ?_
            refine TE.ret1 rfl rfl ?_
            show (if _ then _ else _)
            first
              | (rw [if_pos (by omega)]; exact ⟨rfl, rfl⟩)
              | (rw [if_neg (by omega), if_pos (by simp_all)]; exact ⟨rfl, by simp_all <;> rfl⟩)
              | (rw [if_neg (by omega), if_neg (by simp_all)]; exact ⟨rfl, v61, by simp_all <;> rfl⟩)
          · skip
            refine TL.v (Want.plain rfl) rfl rfl (PV.pick rfl rfl rfl) ?_
            refine TL.nil ?_
            refine TE.next hK8 ?_
            clear hK8
            refine TC.no rfl ?_
            refine TC.skip ?_
            refine TE.next hK7 ?_
            clear hK7
            refine TC.seq (fun K12 hK12 => ?_)
            refine TC.seq (fun K13 hK13 => ?_)
            refine TC.region ?_
            refine TL.v (Want.plain rfl) rfl rfl (PV.move rfl rfl) ?_
            refine TL.v (Want.plain rfl) rfl rfl (PV.nilCheck rfl rfl) ?_
            refine TL.v (Want.plain rfl) rfl rfl (PV.fieldAddr (r := 4) rfl Try.underlying136 rfl sz4 rfl rfl) ?_
            refine TL.v (Want.plain rfl) rfl rfl (PV.load1 (v := (.bool (dn))) rfl Try.underlying4 rfl rfl (Rd.own 0 rfl rfl) rfl) ?_
            refine TL.decB (fun h36 => ?_) (fun h36 => ?_)
            · skip
              refine TL.nil ?_
              refine TE.next hK13 ?_
              clear hK13
              refine TC.yes rfl ?_
              refine TC.seq (fun K14 hK14 => ?_)
              refine TC.region ?_
              refine TL.v (Want.plain rfl) rfl rfl (PV.assign rfl rfl) ?_
              refine TL.nil ?_
              refine TE.next hK14 ?_
              clear hK14
              refine TC.ret ?_
              refine TE.passRet ?_
              clear hK12
              refine TE.weak (Sub.refl _) (fun _ s => sep_keep [0, 0] rfl s) ?_
              refine TE.ret1 rfl rfl ?_
              show (if _ then _ else _)
              first
                | (rw [if_pos (by omega)]; exact ⟨rfl, rfl⟩)
                | (rw [if_neg (by omega), if_pos (by simp_all)]; exact ⟨rfl, by simp_all <;> rfl⟩)
                | (rw [if_neg (by omega), if_neg (by simp_all)]; exact ⟨rfl, v61, by simp_all <;> rfl⟩)
            · skip
              refine TL.nil ?_
              refine TE.next hK13 ?_
              clear hK13
              refine TC.no rfl ?_
              refine TC.skip ?_
              refine TE.next hK12 ?_
              clear hK12
              refine TC.seq (fun K15 hK15 => ?_)
              refine TC.seq (fun K16 hK16 => ?_)
              refine TC.region ?_
              refine TL.v (Want.plain rfl) rfl rfl (PV.move rfl rfl) ?_
              refine TL.v (Want.plain rfl) rfl rfl (PV.nilCheck rfl rfl) ?_
              refine TL.v (Want.plain rfl) rfl rfl (PV.fieldAddr (r := 2) rfl Try.underlying136 rfl sz4 rfl rfl) ?_
              refine TL.v (Want.plain rfl) rfl rfl (PV.load1 (v := (.bool (ar))) rfl Try.underlying4 rfl rfl (Rd.own 0 rfl rfl) rfl) ?_
              refine TL.decB (fun h40 => ?_) (fun h40 => ?_)
              · skip
                refine TL.nil ?_
                refine TE.next hK16 ?_
                clear hK16
                refine TC.yes rfl ?_
                refine TC.region ?_
                refine TL.v (Want.plain rfl) rfl rfl (PV.move rfl rfl) ?_
                refine TL.v (Want.plain rfl) rfl rfl (PV.nilCheck rfl rfl) ?_
                refine TL.v (Want.plain rfl) rfl rfl (PV.fieldAddr (r := 3) rfl Try.underlying136 rfl sz3 rfl rfl) ?_
                refine TL.v (Want.plain rfl) rfl rfl (PV.load1 (v := (.int .i64 (lf))) rfl Try.underlying3 rfl rfl (Rd.own 0 rfl rfl) rfl) ?_
                refine TL.v (Want.plain rfl) rfl rfl (PV.sub rfl rfl rfl (wrap_i64 (by omega) (by omega))) ?_
                refine TL.v (Want.plain rfl) rfl rfl (PV.nilCheck rfl rfl) ?_
                refine TL.v (Want.plain rfl) rfl rfl (PV.fieldAddr (r := 3) rfl Try.underlying136 rfl sz3 rfl rfl) ?_
                refine TL.store1 (i := 0) (H' := [blkA d [(.map (some m)), wv, (.bool (ar)), (.int .i64 (lf - 1)), (.bool (dn))] 136, own wv (ws.length) (wflat ws) 170 65]) (Want.plain rfl) rfl rfl rfl rfl rfl sz3 rfl rfl (lb rfl) rfl rfl ?_
                refine TL.nil ?_
                refine TE.next hK15 ?_
                clear hK15
                refine TC.seq (fun K17 hK17 => ?_)
                refine TC.region ?_
                refine TL.v (Want.plain rfl) rfl rfl (PV.move rfl rfl) ?_
                refine TL.v (Want.plain rfl) rfl rfl (PV.build (cells := #[(.int .i64 (at')), (.int .u8 0), (.int .u8 0), (.int .u8 0), (.int .u8 0), (.int .u8 0), (.int .u8 0), (.int .u8 0), (.int .u8 0), (.int .u8 0), (.int .u8 0), (.int .u8 0), (.int .u8 0), (.int .u8 0), (.int .u8 0), (.int .u8 0), (.int .u8 0), (.int .u8 0), (.int .u8 0), (.int .u8 0), (.int .u8 0), (.int .u8 0), (.int .u8 0), (.int .u8 0), (.int .u8 0), (.int .u8 0), (.int .u8 0), (.int .u8 0), (.int .u8 0), (.int .u8 0), (.int .u8 0), (.int .u8 0), (.int .u8 0), (.int .u8 0), (.int .u8 0), (.int .u8 0), (.int .u8 0), (.int .u8 0), (.int .u8 0), (.int .u8 0), (.int .u8 0), (.int .u8 0), (.int .u8 0), (.int .u8 0), (.int .u8 0), (.int .u8 0), (.int .u8 0), (.int .u8 0), (.int .u8 0), (.int .u8 0), (.int .u8 0), (.int .u8 0), (.int .u8 0), (.int .u8 0), (.int .u8 0), (.int .u8 0), (.int .u8 0), (.int .u8 0), (.int .u8 0), (.int .u8 0), (.int .u8 0), (.int .u8 0), (.int .u8 0), (.int .u8 0), (.int .u8 0)]) rfl rfl (by as_aux_lemma => kernel_rfl)) ?_
                refine TL.alloc (Want.plain rfl) rfl rfl rfl z170 (fun b7 => ?_)
                change TL _ _ _ _ _ _ _ _ _ [blkA b7 [(.int .i64 0), (.int .u8 0), (.int .u8 0), (.int .u8 0), (.int .u8 0), (.int .u8 0), (.int .u8 0), (.int .u8 0), (.int .u8 0), (.int .u8 0), (.int .u8 0), (.int .u8 0), (.int .u8 0), (.int .u8 0), (.int .u8 0), (.int .u8 0), (.int .u8 0), (.int .u8 0), (.int .u8 0), (.int .u8 0), (.int .u8 0), (.int .u8 0), (.int .u8 0), (.int .u8 0), (.int .u8 0), (.int .u8 0), (.int .u8 0), (.int .u8 0), (.int .u8 0), (.int .u8 0), (.int .u8 0), (.int .u8 0), (.int .u8 0), (.int .u8 0), (.int .u8 0), (.int .u8 0), (.int .u8 0), (.int .u8 0), (.int .u8 0), (.int .u8 0), (.int .u8 0), (.int .u8 0), (.int .u8 0), (.int .u8 0), (.int .u8 0), (.int .u8 0), (.int .u8 0), (.int .u8 0), (.int .u8 0), (.int .u8 0), (.int .u8 0), (.int .u8 0), (.int .u8 0), (.int .u8 0), (.int .u8 0), (.int .u8 0), (.int .u8 0), (.int .u8 0), (.int .u8 0), (.int .u8 0), (.int .u8 0), (.int .u8 0), (.int .u8 0), (.int .u8 0), (.int .u8 0)] 170, blkA d [(.map (some m)), wv, (.bool (ar)), (.int .i64 (lf - 1)), (.bool (dn))] 136, own wv (ws.length) (wflat ws) 170 65]
                refine TL.store (vs := [(.int .i64 (at')), (.int .u8 0), (.int .u8 0), (.int .u8 0), (.int .u8 0), (.int .u8 0), (.int .u8 0), (.int .u8 0), (.int .u8 0), (.int .u8 0), (.int .u8 0), (.int .u8 0), (.int .u8 0), (.int .u8 0), (.int .u8 0), (.int .u8 0), (.int .u8 0), (.int .u8 0), (.int .u8 0), (.int .u8 0), (.int .u8 0), (.int .u8 0), (.int .u8 0), (.int .u8 0), (.int .u8 0), (.int .u8 0), (.int .u8 0), (.int .u8 0), (.int .u8 0), (.int .u8 0), (.int .u8 0), (.int .u8 0), (.int .u8 0), (.int .u8 0), (.int .u8 0), (.int .u8 0), (.int .u8 0), (.int .u8 0), (.int .u8 0), (.int .u8 0), (.int .u8 0), (.int .u8 0), (.int .u8 0), (.int .u8 0), (.int .u8 0), (.int .u8 0), (.int .u8 0), (.int .u8 0), (.int .u8 0), (.int .u8 0), (.int .u8 0), (.int .u8 0), (.int .u8 0), (.int .u8 0), (.int .u8 0), (.int .u8 0), (.int .u8 0), (.int .u8 0), (.int .u8 0), (.int .u8 0), (.int .u8 0), (.int .u8 0), (.int .u8 0), (.int .u8 0), (.int .u8 0)]) (i := 0) (H' := [blkA b7 [(.int .i64 (at')), (.int .u8 0), (.int .u8 0), (.int .u8 0), (.int .u8 0), (.int .u8 0), (.int .u8 0), (.int .u8 0), (.int .u8 0), (.int .u8 0), (.int .u8 0), (.int .u8 0), (.int .u8 0), (.int .u8 0), (.int .u8 0), (.int .u8 0), (.int .u8 0), (.int .u8 0), (.int .u8 0), (.int .u8 0), (.int .u8 0), (.int .u8 0), (.int .u8 0), (.int .u8 0), (.int .u8 0), (.int .u8 0), (.int .u8 0), (.int .u8 0), (.int .u8 0), (.int .u8 0), (.int .u8 0), (.int .u8 0), (.int .u8 0), (.int .u8 0), (.int .u8 0), (.int .u8 0), (.int .u8 0), (.int .u8 0), (.int .u8 0), (.int .u8 0), (.int .u8 0), (.int .u8 0), (.int .u8 0), (.int .u8 0), (.int .u8 0), (.int .u8 0), (.int .u8 0), (.int .u8 0), (.int .u8 0), (.int .u8 0), (.int .u8 0), (.int .u8 0), (.int .u8 0), (.int .u8 0), (.int .u8 0), (.int .u8 0), (.int .u8 0), (.int .u8 0), (.int .u8 0), (.int .u8 0), (.int .u8 0), (.int .u8 0), (.int .u8 0), (.int .u8 0), (.int .u8 0)] 170, blkA d [(.map (some m)), wv, (.bool (ar)), (.int .i64 (lf - 1)), (.bool (dn))] 136, own wv (ws.length) (wflat ws) 170 65]) (Want.plain rfl) rfl rfl rfl rfl rfl sz170 (by simp [Value.oneCell']) rfl rfl (lbe rfl) rfl rfl ?_
                refine TL.nil ?_
                refine TE.next hK17 ?_
                clear hK17
                refine TC.seq (fun K18 hK18 => ?_)
                refine TC.region ?_
                refine TL.v (Want.plain rfl) rfl rfl (PV.fieldAddr (r := 1) rfl Try.underlying170 rfl sz161 rfl rfl) ?_
                refine TL.v (Want.plain rfl) rfl rfl (PV.sliceArr rfl Try.underlying161 sz5 rfl) ?_
                refine TL.v (Want.plain rfl) rfl rfl (PV.move rfl rfl) ?_
                refine TL.copy (i := 0) (m := bs.length) (news := (u8s bs)) (H' := [blkA b7 (wcell (at', padS bs)) 170, blkA d [(.map (some m)), wv, (.bool (ar)), (.int .i64 (lf - 1)), (.bool (dn))] 136, own wv (ws.length) (wflat ws) 170 65]) (Want.plain rfl) rfl rfl rfl Try.underlying27 sz5 rfl rfl rfl rfl (fun _ _ => hF.src (fun _ h => Frm.of h)) (u8s_one _) (by show 1 + min bs.length 64 ≤ 65; omega) (wr_pad (by omega)) rfl ?_
                refine TL.nil ?_
                refine TE.next hK18 ?_
                clear hK18
                refine TC.seq (fun K19 hK19 => ?_)
                refine TC.draw (fun w => Frm F w ∧ w.heap[b7]? = some (.cells (wcell (at', padS bs)).toArray 170 (0, 0)) ∧ True) mixedD rfl (fun _ s => ⟨Frm.of s, s.block 0 (lb rfl) rfl, trivial⟩) ?_
                refine TD.take (i := 0) rfl (by kernel_rfl) (by kernel_rfl) (by kernel_rfl) (fun _ _ _ _ h => h) (Want.plain rfl) rfl rfl (PV.move rfl rfl) ?_
                refine TD.take (i := 1) rfl (by kernel_rfl) (by kernel_rfl) (by kernel_rfl) (fun _ _ _ _ h => h) (Want.plain rfl) rfl rfl (PV.move rfl rfl) ?_
                refine TD.take (i := 2) rfl (by kernel_rfl) (by kernel_rfl) (by kernel_rfl) (fun _ _ _ _ h => h) (Want.plain rfl) rfl rfl (PV.nilCheck rfl rfl) ?_
                refine TD.take (i := 3) rfl (by kernel_rfl) (by kernel_rfl) (by kernel_rfl) (fun _ _ _ _ h => h) (Want.plain rfl) rfl rfl (PV.fieldAddr (r := 1) rfl Try.underlying136 rfl sz134 rfl rfl) ?_
                refine TD.take (i := 5) rfl (by kernel_rfl) (by kernel_rfl) (by kernel_rfl) (fun _ _ _ _ h => h) (Want.plain rfl) rfl rfl (PV.loadN (vs := wcell (at', padS bs)) rfl Try.underlying170 rfl sz170 rfl (fun _ h => h.2.1) (wcell_len (padS_len (by omega))) (by rw [List.drop_zero, List.take_of_length_le (by rw [(wcell_len (padS_len (by omega)))]; exact Nat.le_refl _)])) ?_
                refine TD.all [4, 6] (by kernel_rfl) rfl ?_
                refine AllT.cons rfl ?_ ?_
                · skip
                  refine TL.v (Want.plain rfl) rfl rfl (PV.load1 (v := wv) rfl Try.underlying134 rfl rfl (Rd.own 1 rfl rfl) rfl) ?_
                  refine TL.nil ?_
                  refine TE.draw (fun _ s => ⟨Frm.of s, s.block 0 (lb rfl) rfl, trivial⟩) ?_
                  refine TD.all [6] (by kernel_rfl) rfl ?_
                  refine AllT.cons rfl ?_ ?_
                  · skip
                    refine TL.buildSlice (cells := (wcell (at', padS bs)).toArray) (Want.plain rfl) rfl rfl rfl Try.underlying134 in170 rfl rfl rfl (fill_at (wcell_len (padS_len (by omega))) (by simp)) (fun b60 => ?_)
                    change TL _ _ _ _ _ _ _ _ _ [blkA b60 (wcell (at', padS bs)) 170, blkA b7 (wcell (at', padS bs)) 170, blkA d [(.map (some m)), wv, (.bool (ar)), (.int .i64 (lf - 1)), (.bool (dn))] 136, own wv (ws.length) (wflat ws) 170 65]
                    refine TL.nil ?_
                    refine TE.draw (fun _ s => ⟨Frm.of s, s.block 1 (lb rfl) rfl, trivial⟩) ?_
                    refine TD.all [7] (by kernel_rfl) rfl ?_
                    refine AllT.cons rfl ?_ ?_
                    · skip
                      refine TL.append (k := 3) (news := wcell (at', padS bs)) (nn' := (ws ++ [(at', padS bs)]).length) (xs' := wflat (ws ++ [(at', padS bs)])) (Want.plain rfl) rfl rfl rfl Try.underlying134 in170 rfl rfl rfl rfl rfl rfl (fun _ _ => Src.rd (wcell_len (padS_len (by omega))) (Rd.own 0 rfl rfl) (by rw [List.drop_zero, List.take_of_length_le (Nat.le_refl _)])) (wcell_one _) (by simp only [maxLen]; omega) (by omega) (by simp) (by simp [wflat]) (fun v61 ov61 => ?_)
                      change TL _ _ _ _ _ _ _ _ _ [blkA b60 (wcell (at', padS bs)) 170, blkA b7 (wcell (at', padS bs)) 170, blkA d [(.map (some m)), wv, (.bool (ar)), (.int .i64 (lf - 1)), (.bool (dn))] 136, own v61 ((ws ++ [(at', padS bs)]).length) (wflat (ws ++ [(at', padS bs)])) 170 65]
                      refine TL.nil ?_
                      refine TE.draw (fun _ s => ⟨Frm.of s, s.block 1 (lb rfl) rfl, trivial⟩) ?_
                      refine TD.take (i := 8) rfl (by kernel_rfl) (by kernel_rfl) (by kernel_rfl) (fun _ _ _ _ h => h) (Want.plain rfl) rfl rfl (PV.nilCheck rfl rfl) ?_
                      refine TD.take (i := 9) rfl (by kernel_rfl) (by kernel_rfl) (by kernel_rfl) (fun _ _ _ _ h => h) (Want.plain rfl) rfl rfl (PV.fieldAddr (r := 1) rfl Try.underlying136 rfl sz134 rfl rfl) ?_
                      refine TD.all [10] (by kernel_rfl) rfl ?_
                      refine AllT.cons rfl ?_ ?_
                      · skip
                        refine TL.store1 (i := 2) (H' := [blkA b60 (wcell (at', padS bs)) 170, blkA b7 (wcell (at', padS bs)) 170, blkA d [(.map (some m)), v61, (.bool (ar)), (.int .i64 (lf - 1)), (.bool (dn))] 136, own v61 ((ws ++ [(at', padS bs)]).length) (wflat (ws ++ [(at', padS bs)])) 170 65]) (Want.plain rfl) rfl rfl rfl rfl ov61 sz134 rfl rfl (lb rfl) rfl rfl ?_
                        refine TL.nil ?_
                        refine TE.draw (fun _ s => ⟨Frm.of s, s.block 1 (lb rfl) rfl, trivial⟩) ?_
                        refine TD.done (by kernel_rfl) ?_
                        refine TE.next hK19 ?_
                        clear hK19
                        refine TC.seq (fun K20 hK20 => ?_)
                        refine TC.region ?_
                        refine TL.v (Want.plain rfl) rfl rfl (PV.assign rfl rfl) ?_
                        refine TL.nil ?_
                        refine TE.next hK20 ?_
                        clear hK20
                        refine TC.ret ?_
                        refine TE.weak (Sub.refl _) (fun _ s => sep_keep [2, 2] rfl s) ?_
                        refine TE.ret1 rfl rfl ?_
                        show (if _ then _ else _)
                        first
                          | (rw [if_pos (by omega)]; exact ⟨rfl, rfl⟩)
                          | (rw [if_neg (by omega), if_pos (by simp_all)]; exact ⟨rfl, by simp_all <;> rfl⟩)
                          | (rw [if_neg (by omega), if_neg (by simp_all)]; exact ⟨rfl, v61, by simp_all <;> rfl⟩)
                      exact AllT.nil
                    exact AllT.nil
                  exact AllT.nil
                refine AllT.cons rfl ?_ ?_
                · skip
                  refine TL.buildSlice (cells := (wcell (at', padS bs)).toArray) (Want.plain rfl) rfl rfl rfl Try.underlying134 in170 rfl rfl rfl (fill_at (wcell_len (padS_len (by omega))) (by simp)) (fun b60 => ?_)
                  change TL _ _ _ _ _ _ _ _ _ [blkA b60 (wcell (at', padS bs)) 170, blkA b7 (wcell (at', padS bs)) 170, blkA d [(.map (some m)), wv, (.bool (ar)), (.int .i64 (lf - 1)), (.bool (dn))] 136, own wv (ws.length) (wflat ws) 170 65]
                  refine TL.nil ?_
                  refine TE.draw (fun _ s => ⟨Frm.of s, s.block 1 (lb rfl) rfl, trivial⟩) ?_
                  refine TD.all [4] (by kernel_rfl) rfl ?_
                  refine AllT.cons rfl ?_ ?_
                  · skip
                    refine TL.v (Want.plain rfl) rfl rfl (PV.load1 (v := wv) rfl Try.underlying134 rfl rfl (Rd.own 2 rfl rfl) rfl) ?_
                    refine TL.nil ?_
                    refine TE.draw (fun _ s => ⟨Frm.of s, s.block 1 (lb rfl) rfl, trivial⟩) ?_
                    refine TD.all [7] (by kernel_rfl) rfl ?_
                    refine AllT.cons rfl ?_ ?_
                    · skip
                      refine TL.append (k := 3) (news := wcell (at', padS bs)) (nn' := (ws ++ [(at', padS bs)]).length) (xs' := wflat (ws ++ [(at', padS bs)])) (Want.plain rfl) rfl rfl rfl Try.underlying134 in170 rfl rfl rfl rfl rfl rfl (fun _ _ => Src.rd (wcell_len (padS_len (by omega))) (Rd.own 0 rfl rfl) (by rw [List.drop_zero, List.take_of_length_le (Nat.le_refl _)])) (wcell_one _) (by simp only [maxLen]; omega) (by omega) (by simp) (by simp [wflat]) (fun v61 ov61 => ?_)
                      change TL _ _ _ _ _ _ _ _ _ [blkA b60 (wcell (at', padS bs)) 170, blkA b7 (wcell (at', padS bs)) 170, blkA d [(.map (some m)), wv, (.bool (ar)), (.int .i64 (lf - 1)), (.bool (dn))] 136, own v61 ((ws ++ [(at', padS bs)]).length) (wflat (ws ++ [(at', padS bs)])) 170 65]
                      refine TL.nil ?_
                      refine TE.draw (fun _ s => ⟨Frm.of s, s.block 1 (lb rfl) rfl, trivial⟩) ?_
                      refine TD.take (i := 8) rfl (by kernel_rfl) (by kernel_rfl) (by kernel_rfl) (fun _ _ _ _ h => h) (Want.plain rfl) rfl rfl (PV.nilCheck rfl rfl) ?_
                      refine TD.take (i := 9) rfl (by kernel_rfl) (by kernel_rfl) (by kernel_rfl) (fun _ _ _ _ h => h) (Want.plain rfl) rfl rfl (PV.fieldAddr (r := 1) rfl Try.underlying136 rfl sz134 rfl rfl) ?_
                      refine TD.all [10] (by kernel_rfl) rfl ?_
                      refine AllT.cons rfl ?_ ?_
                      · skip
                        refine TL.store1 (i := 2) (H' := [blkA b60 (wcell (at', padS bs)) 170, blkA b7 (wcell (at', padS bs)) 170, blkA d [(.map (some m)), v61, (.bool (ar)), (.int .i64 (lf - 1)), (.bool (dn))] 136, own v61 ((ws ++ [(at', padS bs)]).length) (wflat (ws ++ [(at', padS bs)])) 170 65]) (Want.plain rfl) rfl rfl rfl rfl ov61 sz134 rfl rfl (lb rfl) rfl rfl ?_
                        refine TL.nil ?_
                        refine TE.draw (fun _ s => ⟨Frm.of s, s.block 1 (lb rfl) rfl, trivial⟩) ?_
                        refine TD.done (by kernel_rfl) ?_
                        refine TE.next hK19 ?_
                        clear hK19
                        refine TC.seq (fun K21 hK21 => ?_)
                        refine TC.region ?_
                        refine TL.v (Want.plain rfl) rfl rfl (PV.assign rfl rfl) ?_
                        refine TL.nil ?_
                        refine TE.next hK21 ?_
                        clear hK21
                        refine TC.ret ?_
                        refine TE.weak (Sub.refl _) (fun _ s => sep_keep [2, 2] rfl s) ?_
                        refine TE.ret1 rfl rfl ?_
                        show (if _ then _ else _)
                        first
                          | (rw [if_pos (by omega)]; exact ⟨rfl, rfl⟩)
                          | (rw [if_neg (by omega), if_pos (by simp_all)]; exact ⟨rfl, by simp_all <;> rfl⟩)
                          | (rw [if_neg (by omega), if_neg (by simp_all)]; exact ⟨rfl, v61, by simp_all <;> rfl⟩)
                      exact AllT.nil
                    exact AllT.nil
                  exact AllT.nil
                exact AllT.nil
              · skip
                refine TL.nil ?_
                refine TE.next hK16 ?_
                clear hK16
                refine TC.no rfl ?_
                refine TC.skip ?_
                refine TE.next hK15 ?_
                clear hK15
                refine TC.seq (fun K22 hK22 => ?_)
                refine TC.region ?_
                refine TL.v (Want.plain rfl) rfl rfl (PV.move rfl rfl) ?_
                refine TL.v (Want.plain rfl) rfl rfl (PV.build (cells := #[(.int .i64 (at')), (.int .u8 0), (.int .u8 0), (.int .u8 0), (.int .u8 0), (.int .u8 0), (.int .u8 0), (.int .u8 0), (.int .u8 0), (.int .u8 0), (.int .u8 0), (.int .u8 0), (.int .u8 0), (.int .u8 0), (.int .u8 0), (.int .u8 0), (.int .u8 0), (.int .u8 0), (.int .u8 0), (.int .u8 0), (.int .u8 0), (.int .u8 0), (.int .u8 0), (.int .u8 0), (.int .u8 0), (.int .u8 0), (.int .u8 0), (.int .u8 0), (.int .u8 0), (.int .u8 0), (.int .u8 0), (.int .u8 0), (.int .u8 0), (.int .u8 0), (.int .u8 0), (.int .u8 0), (.int .u8 0), (.int .u8 0), (.int .u8 0), (.int .u8 0), (.int .u8 0), (.int .u8 0), (.int .u8 0), (.int .u8 0), (.int .u8 0), (.int .u8 0), (.int .u8 0), (.int .u8 0), (.int .u8 0), (.int .u8 0), (.int .u8 0), (.int .u8 0), (.int .u8 0), (.int .u8 0), (.int .u8 0), (.int .u8 0), (.int .u8 0), (.int .u8 0), (.int .u8 0), (.int .u8 0), (.int .u8 0), (.int .u8 0), (.int .u8 0), (.int .u8 0), (.int .u8 0)]) rfl rfl (by as_aux_lemma => kernel_rfl)) ?_
                refine TL.alloc (Want.plain rfl) rfl rfl rfl z170 (fun b7 => ?_)
                change TL _ _ _ _ _ _ _ _ _ [blkA b7 [(.int .i64 0), (.int .u8 0), (.int .u8 0), (.int .u8 0), (.int .u8 0), (.int .u8 0), (.int .u8 0), (.int .u8 0), (.int .u8 0), (.int .u8 0), (.int .u8 0), (.int .u8 0), (.int .u8 0), (.int .u8 0), (.int .u8 0), (.int .u8 0), (.int .u8 0), (.int .u8 0), (.int .u8 0), (.int .u8 0), (.int .u8 0), (.int .u8 0), (.int .u8 0), (.int .u8 0), (.int .u8 0), (.int .u8 0), (.int .u8 0), (.int .u8 0), (.int .u8 0), (.int .u8 0), (.int .u8 0), (.int .u8 0), (.int .u8 0), (.int .u8 0), (.int .u8 0), (.int .u8 0), (.int .u8 0), (.int .u8 0), (.int .u8 0), (.int .u8 0), (.int .u8 0), (.int .u8 0), (.int .u8 0), (.int .u8 0), (.int .u8 0), (.int .u8 0), (.int .u8 0), (.int .u8 0), (.int .u8 0), (.int .u8 0), (.int .u8 0), (.int .u8 0), (.int .u8 0), (.int .u8 0), (.int .u8 0), (.int .u8 0), (.int .u8 0), (.int .u8 0), (.int .u8 0), (.int .u8 0), (.int .u8 0), (.int .u8 0), (.int .u8 0), (.int .u8 0), (.int .u8 0)] 170, blkA d [(.map (some m)), wv, (.bool (ar)), (.int .i64 (lf)), (.bool (dn))] 136, own wv (ws.length) (wflat ws) 170 65]
                refine TL.store (vs := [(.int .i64 (at')), (.int .u8 0), (.int .u8 0), (.int .u8 0), (.int .u8 0), (.int .u8 0), (.int .u8 0), (.int .u8 0), (.int .u8 0), (.int .u8 0), (.int .u8 0), (.int .u8 0), (.int .u8 0), (.int .u8 0), (.int .u8 0), (.int .u8 0), (.int .u8 0), (.int .u8 0), (.int .u8 0), (.int .u8 0), (.int .u8 0), (.int .u8 0), (.int .u8 0), (.int .u8 0), (.int .u8 0), (.int .u8 0), (.int .u8 0), (.int .u8 0), (.int .u8 0), (.int .u8 0), (.int .u8 0), (.int .u8 0), (.int .u8 0), (.int .u8 0), (.int .u8 0), (.int .u8 0), (.int .u8 0), (.int .u8 0), (.int .u8 0), (.int .u8 0), (.int .u8 0), (.int .u8 0), (.int .u8 0), (.int .u8 0), (.int .u8 0), (.int .u8 0), (.int .u8 0), (.int .u8 0), (.int .u8 0), (.int .u8 0), (.int .u8 0), (.int .u8 0), (.int .u8 0), (.int .u8 0), (.int .u8 0), (.int .u8 0), (.int .u8 0), (.int .u8 0), (.int .u8 0), (.int .u8 0), (.int .u8 0), (.int .u8 0), (.int .u8 0), (.int .u8 0), (.int .u8 0)]) (i := 0) (H' := [blkA b7 [(.int .i64 (at')), (.int .u8 0), (.int .u8 0), (.int .u8 0), (.int .u8 0), (.int .u8 0), (.int .u8 0), (.int .u8 0), (.int .u8 0), (.int .u8 0), (.int .u8 0), (.int .u8 0), (.int .u8 0), (.int .u8 0), (.int .u8 0), (.int .u8 0), (.int .u8 0), (.int .u8 0), (.int .u8 0), (.int .u8 0), (.int .u8 0), (.int .u8 0), (.int .u8 0), (.int .u8 0), (.int .u8 0), (.int .u8 0), (.int .u8 0), (.int .u8 0), (.int .u8 0), (.int .u8 0), (.int .u8 0), (.int .u8 0), (.int .u8 0), (.int .u8 0), (.int .u8 0), (.int .u8 0), (.int .u8 0), (.int .u8 0), (.int .u8 0), (.int .u8 0), (.int .u8 0), (.int .u8 0), (.int .u8 0), (.int .u8 0), (.int .u8 0), (.int .u8 0), (.int .u8 0), (.int .u8 0), (.int .u8 0), (.int .u8 0), (.int .u8 0), (.int .u8 0), (.int .u8 0), (.int .u8 0), (.int .u8 0), (.int .u8 0), (.int .u8 0), (.int .u8 0), (.int .u8 0), (.int .u8 0), (.int .u8 0), (.int .u8 0), (.int .u8 0), (.int .u8 0), (.int .u8 0)] 170, blkA d [(.map (some m)), wv, (.bool (ar)), (.int .i64 (lf)), (.bool (dn))] 136, own wv (ws.length) (wflat ws) 170 65]) (Want.plain rfl) rfl rfl rfl rfl rfl sz170 (by simp [Value.oneCell']) rfl rfl (lbe rfl) rfl rfl ?_
                refine TL.nil ?_
                refine TE.next hK22 ?_
                clear hK22
                refine TC.seq (fun K23 hK23 => ?_)
                refine TC.region ?_
                refine TL.v (Want.plain rfl) rfl rfl (PV.fieldAddr (r := 1) rfl Try.underlying170 rfl sz161 rfl rfl) ?_
                refine TL.v (Want.plain rfl) rfl rfl (PV.sliceArr rfl Try.underlying161 sz5 rfl) ?_
                refine TL.v (Want.plain rfl) rfl rfl (PV.move rfl rfl) ?_
                refine TL.copy (i := 0) (m := bs.length) (news := (u8s bs)) (H' := [blkA b7 (wcell (at', padS bs)) 170, blkA d [(.map (some m)), wv, (.bool (ar)), (.int .i64 (lf)), (.bool (dn))] 136, own wv (ws.length) (wflat ws) 170 65]) (Want.plain rfl) rfl rfl rfl Try.underlying27 sz5 rfl rfl rfl rfl (fun _ _ => hF.src (fun _ h => Frm.of h)) (u8s_one _) (by show 1 + min bs.length 64 ≤ 65; omega) (wr_pad (by omega)) rfl ?_
                refine TL.nil ?_
                refine TE.next hK23 ?_
                clear hK23
                refine TC.seq (fun K24 hK24 => ?_)
                refine TC.draw (fun w => Frm F w ∧ w.heap[b7]? = some (.cells (wcell (at', padS bs)).toArray 170 (0, 0)) ∧ True) mixedD rfl (fun _ s => ⟨Frm.of s, s.block 0 (lb rfl) rfl, trivial⟩) ?_
                refine TD.take (i := 0) rfl (by kernel_rfl) (by kernel_rfl) (by kernel_rfl) (fun _ _ _ _ h => h) (Want.plain rfl) rfl rfl (PV.move rfl rfl) ?_
                refine TD.take (i := 1) rfl (by kernel_rfl) (by kernel_rfl) (by kernel_rfl) (fun _ _ _ _ h => h) (Want.plain rfl) rfl rfl (PV.move rfl rfl) ?_
                refine TD.take (i := 2) rfl (by kernel_rfl) (by kernel_rfl) (by kernel_rfl) (fun _ _ _ _ h => h) (Want.plain rfl) rfl rfl (PV.nilCheck rfl rfl) ?_
                refine TD.take (i := 3) rfl (by kernel_rfl) (by kernel_rfl) (by kernel_rfl) (fun _ _ _ _ h => h) (Want.plain rfl) rfl rfl (PV.fieldAddr (r := 1) rfl Try.underlying136 rfl sz134 rfl rfl) ?_
                refine TD.take (i := 5) rfl (by kernel_rfl) (by kernel_rfl) (by kernel_rfl) (fun _ _ _ _ h => h) (Want.plain rfl) rfl rfl (PV.loadN (vs := wcell (at', padS bs)) rfl Try.underlying170 rfl sz170 rfl (fun _ h => h.2.1) (wcell_len (padS_len (by omega))) (by rw [List.drop_zero, List.take_of_length_le (by rw [(wcell_len (padS_len (by omega)))]; exact Nat.le_refl _)])) ?_
                refine TD.all [4, 6] (by kernel_rfl) rfl ?_
                refine AllT.cons rfl ?_ ?_
                · skip
                  refine TL.v (Want.plain rfl) rfl rfl (PV.load1 (v := wv) rfl Try.underlying134 rfl rfl (Rd.own 1 rfl rfl) rfl) ?_
                  refine TL.nil ?_
                  refine TE.draw (fun _ s => ⟨Frm.of s, s.block 0 (lb rfl) rfl, trivial⟩) ?_
                  refine TD.all [6] (by kernel_rfl) rfl ?_
                  refine AllT.cons rfl ?_ ?_
                  · skip
                    refine TL.buildSlice (cells := (wcell (at', padS bs)).toArray) (Want.plain rfl) rfl rfl rfl Try.underlying134 in170 rfl rfl rfl (fill_at (wcell_len (padS_len (by omega))) (by simp)) (fun b60 => ?_)
                    change TL _ _ _ _ _ _ _ _ _ [blkA b60 (wcell (at', padS bs)) 170, blkA b7 (wcell (at', padS bs)) 170, blkA d [(.map (some m)), wv, (.bool (ar)), (.int .i64 (lf)), (.bool (dn))] 136, own wv (ws.length) (wflat ws) 170 65]
                    refine TL.nil ?_
                    refine TE.draw (fun _ s => ⟨Frm.of s, s.block 1 (lb rfl) rfl, trivial⟩) ?_
                    refine TD.all [7] (by kernel_rfl) rfl ?_
                    refine AllT.cons rfl ?_ ?_
                    · skip
                      refine TL.append (k := 3) (news := wcell (at', padS bs)) (nn' := (ws ++ [(at', padS bs)]).length) (xs' := wflat (ws ++ [(at', padS bs)])) (Want.plain rfl) rfl rfl rfl Try.underlying134 in170 rfl rfl rfl rfl rfl rfl (fun _ _ => Src.rd (wcell_len (padS_len (by omega))) (Rd.own 0 rfl rfl) (by rw [List.drop_zero, List.take_of_length_le (Nat.le_refl _)])) (wcell_one _) (by simp only [maxLen]; omega) (by omega) (by simp) (by simp [wflat]) (fun v61 ov61 => ?_)
                      change TL _ _ _ _ _ _ _ _ _ [blkA b60 (wcell (at', padS bs)) 170, blkA b7 (wcell (at', padS bs)) 170, blkA d [(.map (some m)), wv, (.bool (ar)), (.int .i64 (lf)), (.bool (dn))] 136, own v61 ((ws ++ [(at', padS bs)]).length) (wflat (ws ++ [(at', padS bs)])) 170 65]
                      refine TL.nil ?_
                      refine TE.draw (fun _ s => ⟨Frm.of s, s.block 1 (lb rfl) rfl, trivial⟩) ?_
                      refine TD.take (i := 8) rfl (by kernel_rfl) (by kernel_rfl) (by kernel_rfl) (fun _ _ _ _ h => h) (Want.plain rfl) rfl rfl (PV.nilCheck rfl rfl) ?_
                      refine TD.take (i := 9) rfl (by kernel_rfl) (by kernel_rfl) (by kernel_rfl) (fun _ _ _ _ h => h) (Want.plain rfl) rfl rfl (PV.fieldAddr (r := 1) rfl Try.underlying136 rfl sz134 rfl rfl) ?_
                      refine TD.all [10] (by kernel_rfl) rfl ?_
                      refine AllT.cons rfl ?_ ?_
                      · skip
                        refine TL.store1 (i := 2) (H' := [blkA b60 (wcell (at', padS bs)) 170, blkA b7 (wcell (at', padS bs)) 170, blkA d [(.map (some m)), v61, (.bool (ar)), (.int .i64 (lf)), (.bool (dn))] 136, own v61 ((ws ++ [(at', padS bs)]).length) (wflat (ws ++ [(at', padS bs)])) 170 65]) (Want.plain rfl) rfl rfl rfl rfl ov61 sz134 rfl rfl (lb rfl) rfl rfl ?_
                        refine TL.nil ?_
                        refine TE.draw (fun _ s => ⟨Frm.of s, s.block 1 (lb rfl) rfl, trivial⟩) ?_
                        refine TD.done (by kernel_rfl) ?_
                        refine TE.next hK24 ?_
                        clear hK24
                        refine TC.seq (fun K25 hK25 => ?_)
                        refine TC.region ?_
                        refine TL.v (Want.plain rfl) rfl rfl (PV.assign rfl rfl) ?_
                        refine TL.nil ?_
                        refine TE.next hK25 ?_
                        clear hK25
                        refine TC.ret ?_
                        refine TE.weak (Sub.refl _) (fun _ s => sep_keep [2, 2] rfl s) ?_
                        refine TE.ret1 rfl rfl ?_
                        show (if _ then _ else _)
                        first
                          | (rw [if_pos (by omega)]; exact ⟨rfl, rfl⟩)
                          | (rw [if_neg (by omega), if_pos (by simp_all)]; exact ⟨rfl, by simp_all <;> rfl⟩)
                          | (rw [if_neg (by omega), if_neg (by simp_all)]; exact ⟨rfl, v61, by simp_all <;> rfl⟩)
                      exact AllT.nil
                    exact AllT.nil
                  exact AllT.nil
                refine AllT.cons rfl ?_ ?_
                · skip
                  refine TL.buildSlice (cells := (wcell (at', padS bs)).toArray) (Want.plain rfl) rfl rfl rfl Try.underlying134 in170 rfl rfl rfl (fill_at (wcell_len (padS_len (by omega))) (by simp)) (fun b60 => ?_)
                  change TL _ _ _ _ _ _ _ _ _ [blkA b60 (wcell (at', padS bs)) 170, blkA b7 (wcell (at', padS bs)) 170, blkA d [(.map (some m)), wv, (.bool (ar)), (.int .i64 (lf)), (.bool (dn))] 136, own wv (ws.length) (wflat ws) 170 65]
                  refine TL.nil ?_
                  refine TE.draw (fun _ s => ⟨Frm.of s, s.block 1 (lb rfl) rfl, trivial⟩) ?_
                  refine TD.all [4] (by kernel_rfl) rfl ?_
                  refine AllT.cons rfl ?_ ?_
                  · skip
                    refine TL.v (Want.plain rfl) rfl rfl (PV.load1 (v := wv) rfl Try.underlying134 rfl rfl (Rd.own 2 rfl rfl) rfl) ?_
                    refine TL.nil ?_
                    refine TE.draw (fun _ s => ⟨Frm.of s, s.block 1 (lb rfl) rfl, trivial⟩) ?_
                    refine TD.all [7] (by kernel_rfl) rfl ?_
                    refine AllT.cons rfl ?_ ?_
                    · skip
                      refine TL.append (k := 3) (news := wcell (at', padS bs)) (nn' := (ws ++ [(at', padS bs)]).length) (xs' := wflat (ws ++ [(at', padS bs)])) (Want.plain rfl) rfl rfl rfl Try.underlying134 in170 rfl rfl rfl rfl rfl rfl (fun _ _ => Src.rd (wcell_len (padS_len (by omega))) (Rd.own 0 rfl rfl) (by rw [List.drop_zero, List.take_of_length_le (Nat.le_refl _)])) (wcell_one _) (by simp only [maxLen]; omega) (by omega) (by simp) (by simp [wflat]) (fun v61 ov61 => ?_)
                      change TL _ _ _ _ _ _ _ _ _ [blkA b60 (wcell (at', padS bs)) 170, blkA b7 (wcell (at', padS bs)) 170, blkA d [(.map (some m)), wv, (.bool (ar)), (.int .i64 (lf)), (.bool (dn))] 136, own v61 ((ws ++ [(at', padS bs)]).length) (wflat (ws ++ [(at', padS bs)])) 170 65]
                      refine TL.nil ?_
                      refine TE.draw (fun _ s => ⟨Frm.of s, s.block 1 (lb rfl) rfl, trivial⟩) ?_
                      refine TD.take (i := 8) rfl (by kernel_rfl) (by kernel_rfl) (by kernel_rfl) (fun _ _ _ _ h => h) (Want.plain rfl) rfl rfl (PV.nilCheck rfl rfl) ?_
                      refine TD.take (i := 9) rfl (by kernel_rfl) (by kernel_rfl) (by kernel_rfl) (fun _ _ _ _ h => h) (Want.plain rfl) rfl rfl (PV.fieldAddr (r := 1) rfl Try.underlying136 rfl sz134 rfl rfl) ?_
                      refine TD.all [10] (by kernel_rfl) rfl ?_
                      refine AllT.cons rfl ?_ ?_
                      · skip
                        refine TL.store1 (i := 2) (H' := [blkA b60 (wcell (at', padS bs)) 170, blkA b7 (wcell (at', padS bs)) 170, blkA d [(.map (some m)), v61, (.bool (ar)), (.int .i64 (lf)), (.bool (dn))] 136, own v61 ((ws ++ [(at', padS bs)]).length) (wflat (ws ++ [(at', padS bs)])) 170 65]) (Want.plain rfl) rfl rfl rfl rfl ov61 sz134 rfl rfl (lb rfl) rfl rfl ?_
                        refine TL.nil ?_
                        refine TE.draw (fun _ s => ⟨Frm.of s, s.block 1 (lb rfl) rfl, trivial⟩) ?_
                        refine TD.done (by kernel_rfl) ?_
                        refine TE.next hK24 ?_
                        clear hK24
                        refine TC.seq (fun K26 hK26 => ?_)
                        refine TC.region ?_
                        refine TL.v (Want.plain rfl) rfl rfl (PV.assign rfl rfl) ?_
                        refine TL.nil ?_
                        refine TE.next hK26 ?_
                        clear hK26
                        refine TC.ret ?_
                        refine TE.weak (Sub.refl _) (fun _ s => sep_keep [2, 2] rfl s) ?_
                        refine TE.ret1 rfl rfl ?_
                        show (if _ then _ else _)
                        first
                          | (rw [if_pos (by omega)]; exact ⟨rfl, rfl⟩)
                          | (rw [if_neg (by omega), if_pos (by simp_all)]; exact ⟨rfl, by simp_all <;> rfl⟩)
                          | (rw [if_neg (by omega), if_neg (by simp_all)]; exact ⟨rfl, v61, by simp_all <;> rfl⟩)
                      exact AllT.nil
                    exact AllT.nil
                  exact AllT.nil
                exact AllT.nil
        · skip
          refine TL.v (Want.plain rfl) rfl rfl (PV.move rfl rfl) ?_
          refine TL.unmet (b := false) rfl rfl rfl rfl (lb rfl) ?_
          refine TL.unmet (b := false) rfl rfl rfl rfl (lb rfl) ?_
          refine TL.unmet (b := false) rfl rfl rfl rfl (lb rfl) ?_
          refine TL.unmet (b := false) rfl rfl rfl rfl (lb rfl) ?_
          refine TL.unmet (b := false) rfl rfl rfl rfl (lb rfl) ?_
          refine TL.v (Want.plain rfl) rfl rfl (PV.pick rfl rfl rfl) ?_
          refine TL.nil ?_
          refine TE.next hK8 ?_
          clear hK8
          refine TC.no rfl ?_
          refine TC.skip ?_
          refine TE.next hK7 ?_
          clear hK7
          refine TC.seq (fun K27 hK27 => ?_)
          refine TC.seq (fun K28 hK28 => ?_)
          refine TC.region ?_
          refine TL.v (Want.plain rfl) rfl rfl (PV.move rfl rfl) ?_
          refine TL.v (Want.plain rfl) rfl rfl (PV.nilCheck rfl rfl) ?_
          refine TL.v (Want.plain rfl) rfl rfl (PV.fieldAddr (r := 4) rfl Try.underlying136 rfl sz4 rfl rfl) ?_
          refine TL.v (Want.plain rfl) rfl rfl (PV.load1 (v := (.bool (dn))) rfl Try.underlying4 rfl rfl (Rd.own 0 rfl rfl) rfl) ?_
          refine TL.decB (fun h36 => ?_) (fun h36 => ?_)
          · skip
            refine TL.nil ?_
            refine TE.next hK28 ?_
            clear hK28
            refine TC.yes rfl ?_
            refine TC.seq (fun K29 hK29 => ?_)
            refine TC.region ?_
            refine TL.v (Want.plain rfl) rfl rfl (PV.assign rfl rfl) ?_
            refine TL.nil ?_
            refine TE.next hK29 ?_
            clear hK29
            refine TC.ret ?_
            refine TE.passRet ?_
            clear hK27
            refine TE.weak (Sub.refl _) (fun _ s => sep_keep [0, 0] rfl s) ?_
            refine TE.ret1 rfl rfl ?_
            show (if _ then _ else _)
            first
              | (rw [if_pos (by omega)]; exact ⟨rfl, rfl⟩)
              | (rw [if_neg (by omega), if_pos (by simp_all)]; exact ⟨rfl, by simp_all <;> rfl⟩)
              | (rw [if_neg (by omega), if_neg (by simp_all)]; exact ⟨rfl, v61, by simp_all <;> rfl⟩)
          · skip
            refine TL.nil ?_
            refine TE.next hK28 ?_
            clear hK28
            refine TC.no rfl ?_
            refine TC.skip ?_
            refine TE.next hK27 ?_
            clear hK27
            refine TC.seq (fun K30 hK30 => ?_)
            refine TC.seq (fun K31 hK31 => ?_)
            refine TC.region ?_
            refine TL.v (Want.plain rfl) rfl rfl (PV.move rfl rfl) ?_
            refine TL.v (Want.plain rfl) rfl rfl (PV.nilCheck rfl rfl) ?_
            refine TL.v (Want.plain rfl) rfl rfl (PV.fieldAddr (r := 2) rfl Try.underlying136 rfl sz4 rfl rfl) ?_
            refine TL.v (Want.plain rfl) rfl rfl (PV.load1 (v := (.bool (ar))) rfl Try.underlying4 rfl rfl (Rd.own 0 rfl rfl) rfl) ?_
            refine TL.decB (fun h40 => ?_) (fun h40 => ?_)
            · skip
              refine TL.nil ?_
              refine TE.next hK31 ?_
              clear hK31
              refine TC.yes rfl ?_
              refine TC.region ?_
              refine TL.v (Want.plain rfl) rfl rfl (PV.move rfl rfl) ?_
              refine TL.v (Want.plain rfl) rfl rfl (PV.nilCheck rfl rfl) ?_
              refine TL.v (Want.plain rfl) rfl rfl (PV.fieldAddr (r := 3) rfl Try.underlying136 rfl sz3 rfl rfl) ?_
              refine TL.v (Want.plain rfl) rfl rfl (PV.load1 (v := (.int .i64 (lf))) rfl Try.underlying3 rfl rfl (Rd.own 0 rfl rfl) rfl) ?_
              refine TL.v (Want.plain rfl) rfl rfl (PV.sub rfl rfl rfl (wrap_i64 (by omega) (by omega))) ?_
              refine TL.v (Want.plain rfl) rfl rfl (PV.nilCheck rfl rfl) ?_
              refine TL.v (Want.plain rfl) rfl rfl (PV.fieldAddr (r := 3) rfl Try.underlying136 rfl sz3 rfl rfl) ?_
              refine TL.store1 (i := 0) (H' := [blkA d [(.map (some m)), wv, (.bool (ar)), (.int .i64 (lf - 1)), (.bool (dn))] 136, own wv (ws.length) (wflat ws) 170 65]) (Want.plain rfl) rfl rfl rfl rfl rfl sz3 rfl rfl (lb rfl) rfl rfl ?_
              refine TL.nil ?_
              refine TE.next hK30 ?_
              clear hK30
              refine TC.seq (fun K32 hK32 => ?_)
              refine TC.region ?_
              refine TL.v (Want.plain rfl) rfl rfl (PV.move rfl rfl) ?_
              refine TL.v (Want.plain rfl) rfl rfl (PV.build (cells := #[(.int .i64 (at')), (.int .u8 0), (.int .u8 0), (.int .u8 0), (.int .u8 0), (.int .u8 0), (.int .u8 0), (.int .u8 0), (.int .u8 0), (.int .u8 0), (.int .u8 0), (.int .u8 0), (.int .u8 0), (.int .u8 0), (.int .u8 0), (.int .u8 0), (.int .u8 0), (.int .u8 0), (.int .u8 0), (.int .u8 0), (.int .u8 0), (.int .u8 0), (.int .u8 0), (.int .u8 0), (.int .u8 0), (.int .u8 0), (.int .u8 0), (.int .u8 0), (.int .u8 0), (.int .u8 0), (.int .u8 0), (.int .u8 0), (.int .u8 0), (.int .u8 0), (.int .u8 0), (.int .u8 0), (.int .u8 0), (.int .u8 0), (.int .u8 0), (.int .u8 0), (.int .u8 0), (.int .u8 0), (.int .u8 0), (.int .u8 0), (.int .u8 0), (.int .u8 0), (.int .u8 0), (.int .u8 0), (.int .u8 0), (.int .u8 0), (.int .u8 0), (.int .u8 0), (.int .u8 0), (.int .u8 0), (.int .u8 0), (.int .u8 0), (.int .u8 0), (.int .u8 0), (.int .u8 0), (.int .u8 0), (.int .u8 0), (.int .u8 0), (.int .u8 0), (.int .u8 0), (.int .u8 0)]) rfl rfl (by as_aux_lemma => kernel_rfl)) ?_
              refine TL.alloc (Want.plain rfl) rfl rfl rfl z170 (fun b7 => ?_)
              change TL _ _ _ _ _ _ _ _ _ [blkA b7 [(.int .i64 0), (.int .u8 0), (.int .u8 0), (.int .u8 0), (.int .u8 0), (.int .u8 0), (.int .u8 0), (.int .u8 0), (.int .u8 0), (.int .u8 0), (.int .u8 0), (.int .u8 0), (.int .u8 0), (.int .u8 0), (.int .u8 0), (.int .u8 0), (.int .u8 0), (.int .u8 0), (.int .u8 0), (.int .u8 0), (.int .u8 0), (.int .u8 0), (.int .u8 0), (.int .u8 0), (.int .u8 0), (.int .u8 0), (.int .u8 0), (.int .u8 0), (.int .u8 0), (.int .u8 0), (.int .u8 0), (.int .u8 0), (.int .u8 0), (.int .u8 0), (.int .u8 0), (.int .u8 0), (.int .u8 0), (.int .u8 0), (.int .u8 0), (.int .u8 0), (.int .u8 0), (.int .u8 0), (.int .u8 0), (.int .u8 0), (.int .u8 0), (.int .u8 0), (.int .u8 0), (.int .u8 0), (.int .u8 0), (.int .u8 0), (.int .u8 0), (.int .u8 0), (.int .u8 0), (.int .u8 0), (.int .u8 0), (.int .u8 0), (.int .u8 0), (.int .u8 0), (.int .u8 0), (.int .u8 0), (.int .u8 0), (.int .u8 0), (.int .u8 0), (.int .u8 0), (.int .u8 0)] 170, blkA d [(.map (some m)), wv, (.bool (ar)), (.int .i64 (lf - 1)), (.bool (dn))] 136, own wv (ws.length) (wflat ws) 170 65]
              refine TL.store (vs := [(.int .i64 (at')), (.int .u8 0), (.int .u8 0), (.int .u8 0), (.int .u8 0), (.int .u8 0), (.int .u8 0), (.int .u8 0), (.int .u8 0), (.int .u8 0), (.int .u8 0), (.int .u8 0), (.int .u8 0), (.int .u8 0), (.int .u8 0), (.int .u8 0), (.int .u8 0), (.int .u8 0), (.int .u8 0), (.int .u8 0), (.int .u8 0), (.int .u8 0), (.int .u8 0), (.int .u8 0), (.int .u8 0), (.int .u8 0), (.int .u8 0), (.int .u8 0), (.int .u8 0), (.int .u8 0), (.int .u8 0), (.int .u8 0), (.int .u8 0), (.int .u8 0), (.int .u8 0), (.int .u8 0), (.int .u8 0), (.int .u8 0), (.int .u8 0), (.int .u8 0), (.int .u8 0), (.int .u8 0), (.int .u8 0), (.int .u8 0), (.int .u8 0), (.int .u8 0), (.int .u8 0), (.int .u8 0), (.int .u8 0), (.int .u8 0), (.int .u8 0), (.int .u8 0), (.int .u8 0), (.int .u8 0), (.int .u8 0), (.int .u8 0), (.int .u8 0), (.int .u8 0), (.int .u8 0), (.int .u8 0), (.int .u8 0), (.int .u8 0), (.int .u8 0), (.int .u8 0), (.int .u8 0)]) (i := 0) (H' := [blkA b7 [(.int .i64 (at')), (.int .u8 0), (.int .u8 0), (.int .u8 0), (.int .u8 0), (.int .u8 0), (.int .u8 0), (.int .u8 0), (.int .u8 0), (.int .u8 0), (.int .u8 0), (.int .u8 0), (.int .u8 0), (.int .u8 0), (.int .u8 0), (.int .u8 0), (.int .u8 0), (.int .u8 0), (.int .u8 0), (.int .u8 0), (.int .u8 0), (.int .u8 0), (.int .u8 0), (.int .u8 0), (.int .u8 0), (.int .u8 0), (.int .u8 0), (.int .u8 0), (.int .u8 0), (.int .u8 0), (.int .u8 0), (.int .u8 0), (.int .u8 0), (.int .u8 0), (.int .u8 0), (.int .u8 0), (.int .u8 0), (.int .u8 0), (.int .u8 0), (.int .u8 0), (.int .u8 0), (.int .u8 0), (.int .u8 0), (.int .u8 0), (.int .u8 0), (.int .u8 0), (.int .u8 0), (.int .u8 0), (.int .u8 0), (.int .u8 0), (.int .u8 0), (.int .u8 0), (.int .u8 0), (.int .u8 0), (.int .u8 0), (.int .u8 0), (.int .u8 0), (.int .u8 0), (.int .u8 0), (.int .u8 0), (.int .u8 0), (.int .u8 0), (.int .u8 0), (.int .u8 0), (.int .u8 0)] 170, blkA d [(.map (some m)), wv, (.bool (ar)), (.int .i64 (lf - 1)), (.bool (dn))] 136, own wv (ws.length) (wflat ws) 170 65]) (Want.plain rfl) rfl rfl rfl rfl rfl sz170 (by simp [Value.oneCell']) rfl rfl (lbe rfl) rfl rfl ?_
              refine TL.nil ?_
              refine TE.next hK32 ?_
              clear hK32
              refine TC.seq (fun K33 hK33 => ?_)
              refine TC.region ?_
              refine TL.v (Want.plain rfl) rfl rfl (PV.fieldAddr (r := 1) rfl Try.underlying170 rfl sz161 rfl rfl) ?_
              refine TL.v (Want.plain rfl) rfl rfl (PV.sliceArr rfl Try.underlying161 sz5 rfl) ?_
              refine TL.v (Want.plain rfl) rfl rfl (PV.move rfl rfl) ?_
              refine TL.copy (i := 0) (m := bs.length) (news := (u8s bs)) (H' := [blkA b7 (wcell (at', padS bs)) 170, blkA d [(.map (some m)), wv, (.bool (ar)), (.int .i64 (lf - 1)), (.bool (dn))] 136, own wv (ws.length) (wflat ws) 170 65]) (Want.plain rfl) rfl rfl rfl Try.underlying27 sz5 rfl rfl rfl rfl (fun _ _ => hF.src (fun _ h => Frm.of h)) (u8s_one _) (by show 1 + min bs.length 64 ≤ 65; omega) (wr_pad (by omega)) rfl ?_
              refine TL.nil ?_
              refine TE.next hK33 ?_
              clear hK33
              refine TC.seq (fun K34 hK34 => ?_)
              refine TC.draw (fun w => Frm F w ∧ w.heap[b7]? = some (.cells (wcell (at', padS bs)).toArray 170 (0, 0)) ∧ True) mixedD rfl (fun _ s => ⟨Frm.of s, s.block 0 (lb rfl) rfl, trivial⟩) ?_
              refine TD.take (i := 0) rfl (by kernel_rfl) (by kernel_rfl) (by kernel_rfl) (fun _ _ _ _ h => h) (Want.plain rfl) rfl rfl (PV.move rfl rfl) ?_
              refine TD.take (i := 1) rfl (by kernel_rfl) (by kernel_rfl) (by kernel_rfl) (fun _ _ _ _ h => h) (Want.plain rfl) rfl rfl (PV.move rfl rfl) ?_
              refine TD.take (i := 2) rfl (by kernel_rfl) (by kernel_rfl) (by kernel_rfl) (fun _ _ _ _ h => h) (Want.plain rfl) rfl rfl (PV.nilCheck rfl rfl) ?_
              refine TD.take (i := 3) rfl (by kernel_rfl) (by kernel_rfl) (by kernel_rfl) (fun _ _ _ _ h => h) (Want.plain rfl) rfl rfl (PV.fieldAddr (r := 1) rfl Try.underlying136 rfl sz134 rfl rfl) ?_
              refine TD.take (i := 5) rfl (by kernel_rfl) (by kernel_rfl) (by kernel_rfl) (fun _ _ _ _ h => h) (Want.plain rfl) rfl rfl (PV.loadN (vs := wcell (at', padS bs)) rfl Try.underlying170 rfl sz170 rfl (fun _ h => h.2.1) (wcell_len (padS_len (by omega))) (by rw [List.drop_zero, List.take_of_length_le (by rw [(wcell_len (padS_len (by omega)))]; exact Nat.le_refl _)])) ?_
              refine TD.all [4, 6] (by kernel_rfl) rfl ?_
              refine AllT.cons rfl ?_ ?_
              · skip
                refine TL.v (Want.plain rfl) rfl rfl (PV.load1 (v := wv) rfl Try.underlying134 rfl rfl (Rd.own 1 rfl rfl) rfl) ?_
                refine TL.nil ?_
                refine TE.draw (fun _ s => ⟨Frm.of s, s.block 0 (lb rfl) rfl, trivial⟩) ?_
                refine TD.all [6] (by kernel_rfl) rfl ?_
                refine AllT.cons rfl ?_ ?_
                · skip
                  refine TL.buildSlice (cells := (wcell (at', padS bs)).toArray) (Want.plain rfl) rfl rfl rfl Try.underlying134 in170 rfl rfl rfl (fill_at (wcell_len (padS_len (by omega))) (by simp)) (fun b60 => ?_)
                  change TL _ _ _ _ _ _ _ _ _ [blkA b60 (wcell (at', padS bs)) 170, blkA b7 (wcell (at', padS bs)) 170, blkA d [(.map (some m)), wv, (.bool (ar)), (.int .i64 (lf - 1)), (.bool (dn))] 136, own wv (ws.length) (wflat ws) 170 65]
                  refine TL.nil ?_
                  refine TE.draw (fun _ s => ⟨Frm.of s, s.block 1 (lb rfl) rfl, trivial⟩) ?_
                  refine TD.all [7] (by kernel_rfl) rfl ?_
                  refine AllT.cons rfl ?_ ?_
                  · skip
                    refine TL.append (k := 3) (news := wcell (at', padS bs)) (nn' := (ws ++ [(at', padS bs)]).length) (xs' := wflat (ws ++ [(at', padS bs)])) (Want.plain rfl) rfl rfl rfl Try.underlying134 in170 rfl rfl rfl rfl rfl rfl (fun _ _ => Src.rd (wcell_len (padS_len (by omega))) (Rd.own 0 rfl rfl) (by rw [List.drop_zero, List.take_of_length_le (Nat.le_refl _)])) (wcell_one _) (by simp only [maxLen]; omega) (by omega) (by simp) (by simp [wflat]) (fun v61 ov61 => ?_)
                    change TL _ _ _ _ _ _ _ _ _ [blkA b60 (wcell (at', padS bs)) 170, blkA b7 (wcell (at', padS bs)) 170, blkA d [(.map (some m)), wv, (.bool (ar)), (.int .i64 (lf - 1)), (.bool (dn))] 136, own v61 ((ws ++ [(at', padS bs)]).length) (wflat (ws ++ [(at', padS bs)])) 170 65]
                    refine TL.nil ?_
                    refine TE.draw (fun _ s => ⟨Frm.of s, s.block 1 (lb rfl) rfl, trivial⟩) ?_
                    refine TD.take (i := 8) rfl (by kernel_rfl) (by kernel_rfl) (by kernel_rfl) (fun _ _ _ _ h => h) (Want.plain rfl) rfl rfl (PV.nilCheck rfl rfl) ?_
                    refine TD.take (i := 9) rfl (by kernel_rfl) (by kernel_rfl) (by kernel_rfl) (fun _ _ _ _ h => h) (Want.plain rfl) rfl rfl (PV.fieldAddr (r := 1) rfl Try.underlying136 rfl sz134 rfl rfl) ?_
                    refine TD.all [10] (by kernel_rfl) rfl ?_
                    refine AllT.cons rfl ?_ ?_
                    · skip
                      refine TL.store1 (i := 2) (H' := [blkA b60 (wcell (at', padS bs)) 170, blkA b7 (wcell (at', padS bs)) 170, blkA d [(.map (some m)), v61, (.bool (ar)), (.int .i64 (lf - 1)), (.bool (dn))] 136, own v61 ((ws ++ [(at', padS bs)]).length) (wflat (ws ++ [(at', padS bs)])) 170 65]) (Want.plain rfl) rfl rfl rfl rfl ov61 sz134 rfl rfl (lb rfl) rfl rfl ?_
                      refine TL.nil ?_
                      refine TE.draw (fun _ s => ⟨Frm.of s, s.block 1 (lb rfl) rfl, trivial⟩) ?_
                      refine TD.done (by kernel_rfl) ?_
                      refine TE.next hK34 ?_
                      clear hK34
                      refine TC.seq (fun K35 hK35 => ?_)
                      refine TC.region ?_
                      refine TL.v (Want.plain rfl) rfl rfl (PV.assign rfl rfl) ?_
                      refine TL.nil ?_
                      refine TE.next hK35 ?_
                      clear hK35
                      refine TC.ret ?_
                      refine TE.weak (Sub.refl _) (fun _ s => sep_keep [2, 2] rfl s) ?_
                      refine TE.ret1 rfl rfl ?_
                      show (if _ then _ else _)
                      first
                        | (rw [if_pos (by omega)]; exact ⟨rfl, rfl⟩)
                        | (rw [if_neg (by omega), if_pos (by simp_all)]; exact ⟨rfl, by simp_all <;> rfl⟩)
                        | (rw [if_neg (by omega), if_neg (by simp_all)]; exact ⟨rfl, v61, by simp_all <;> rfl⟩)
                    exact AllT.nil
                  exact AllT.nil
                exact AllT.nil
              refine AllT.cons rfl ?_ ?_
              · skip
                refine TL.buildSlice (cells := (wcell (at', padS bs)).toArray) (Want.plain rfl) rfl rfl rfl Try.underlying134 in170 rfl rfl rfl (fill_at (wcell_len (padS_len (by omega))) (by simp)) (fun b60 => ?_)
                change TL _ _ _ _ _ _ _ _ _ [blkA b60 (wcell (at', padS bs)) 170, blkA b7 (wcell (at', padS bs)) 170, blkA d [(.map (some m)), wv, (.bool (ar)), (.int .i64 (lf - 1)), (.bool (dn))] 136, own wv (ws.length) (wflat ws) 170 65]
                refine TL.nil ?_
                refine TE.draw (fun _ s => ⟨Frm.of s, s.block 1 (lb rfl) rfl, trivial⟩) ?_
                refine TD.all [4] (by kernel_rfl) rfl ?_
                refine AllT.cons rfl ?_ ?_
                · skip
                  refine TL.v (Want.plain rfl) rfl rfl (PV.load1 (v := wv) rfl Try.underlying134 rfl rfl (Rd.own 2 rfl rfl) rfl) ?_
                  refine TL.nil ?_
                  refine TE.draw (fun _ s => ⟨Frm.of s, s.block 1 (lb rfl) rfl, trivial⟩) ?_
                  refine TD.all [7] (by kernel_rfl) rfl ?_
                  refine AllT.cons rfl ?_ ?_
                  · skip
                    refine TL.append (k := 3) (news := wcell (at', padS bs)) (nn' := (ws ++ [(at', padS bs)]).length) (xs' := wflat (ws ++ [(at', padS bs)])) (Want.plain rfl) rfl rfl rfl Try.underlying134 in170 rfl rfl rfl rfl rfl rfl (fun _ _ => Src.rd (wcell_len (padS_len (by omega))) (Rd.own 0 rfl rfl) (by rw [List.drop_zero, List.take_of_length_le (Nat.le_refl _)])) (wcell_one _) (by simp only [maxLen]; omega) (by omega) (by simp) (by simp [wflat]) (fun v61 ov61 => ?_)
                    change TL _ _ _ _ _ _ _ _ _ [blkA b60 (wcell (at', padS bs)) 170, blkA b7 (wcell (at', padS bs)) 170, blkA d [(.map (some m)), wv, (.bool (ar)), (.int .i64 (lf - 1)), (.bool (dn))] 136, own v61 ((ws ++ [(at', padS bs)]).length) (wflat (ws ++ [(at', padS bs)])) 170 65]
                    refine TL.nil ?_
                    refine TE.draw (fun _ s => ⟨Frm.of s, s.block 1 (lb rfl) rfl, trivial⟩) ?_
                    refine TD.take (i := 8) rfl (by kernel_rfl) (by kernel_rfl) (by kernel_rfl) (fun _ _ _ _ h => h) (Want.plain rfl) rfl rfl (PV.nilCheck rfl rfl) ?_
                    refine TD.take (i := 9) rfl (by kernel_rfl) (by kernel_rfl) (by kernel_rfl) (fun _ _ _ _ h => h) (Want.plain rfl) rfl rfl (PV.fieldAddr (r := 1) rfl Try.underlying136 rfl sz134 rfl rfl) ?_
                    refine TD.all [10] (by kernel_rfl) rfl ?_
                    refine AllT.cons rfl ?_ ?_
                    · skip
                      refine TL.store1 (i := 2) (H' := [blkA b60 (wcell (at', padS bs)) 170, blkA b7 (wcell (at', padS bs)) 170, blkA d [(.map (some m)), v61, (.bool (ar)), (.int .i64 (lf - 1)), (.bool (dn))] 136, own v61 ((ws ++ [(at', padS bs)]).length) (wflat (ws ++ [(at', padS bs)])) 170 65]) (Want.plain rfl) rfl rfl rfl rfl ov61 sz134 rfl rfl (lb rfl) rfl rfl ?_
                      refine TL.nil ?_
                      refine TE.draw (fun _ s => ⟨Frm.of s, s.block 1 (lb rfl) rfl, trivial⟩) ?_
                      refine TD.done (by kernel_rfl) ?_
                      refine TE.next hK34 ?_
                      clear hK34
                      refine TC.seq (fun K36 hK36 => ?_)
                      refine TC.region ?_
                      refine TL.v (Want.plain rfl) rfl rfl (PV.assign rfl rfl) ?_
                      refine TL.nil ?_
                      refine TE.next hK36 ?_
                      clear hK36
                      refine TC.ret ?_
                      refine TE.weak (Sub.refl _) (fun _ s => sep_keep [2, 2] rfl s) ?_
                      refine TE.ret1 rfl rfl ?_
                      show (if _ then _ else _)
                      first
                        | (rw [if_pos (by omega)]; exact ⟨rfl, rfl⟩)
                        | (rw [if_neg (by omega), if_pos (by simp_all)]; exact ⟨rfl, by simp_all <;> rfl⟩)
                        | (rw [if_neg (by omega), if_neg (by simp_all)]; exact ⟨rfl, v61, by simp_all <;> rfl⟩)
                    exact AllT.nil
                  exact AllT.nil
                exact AllT.nil
              exact AllT.nil
            · skip
              refine TL.nil ?_
              refine TE.next hK31 ?_
              clear hK31
              refine TC.no rfl ?_
              refine TC.skip ?_
              refine TE.next hK30 ?_
              clear hK30
              refine TC.seq (fun K37 hK37 => ?_)
              refine TC.region ?_
              refine TL.v (Want.plain rfl) rfl rfl (PV.move rfl rfl) ?_
              refine TL.v (Want.plain rfl) rfl rfl (PV.build (cells := #[(.int .i64 (at')), (.int .u8 0), (.int .u8 0), (.int .u8 0), (.int .u8 0), (.int .u8 0), (.int .u8 0), (.int .u8 0), (.int .u8 0), (.int .u8 0), (.int .u8 0), (.int .u8 0), (.int .u8 0), (.int .u8 0), (.int .u8 0), (.int .u8 0), (.int .u8 0), (.int .u8 0), (.int .u8 0), (.int .u8 0), (.int .u8 0), (.int .u8 0), (.int .u8 0), (.int .u8 0), (.int .u8 0), (.int .u8 0), (.int .u8 0), (.int .u8 0), (.int .u8 0), (.int .u8 0), (.int .u8 0), (.int .u8 0), (.int .u8 0), (.int .u8 0), (.int .u8 0), (.int .u8 0), (.int .u8 0), (.int .u8 0), (.int .u8 0), (.int .u8 0), (.int .u8 0), (.int .u8 0), (.int .u8 0), (.int .u8 0), (.int .u8 0), (.int .u8 0), (.int .u8 0), (.int .u8 0), (.int .u8 0), (.int .u8 0), (.int .u8 0), (.int .u8 0), (.int .u8 0), (.int .u8 0), (.int .u8 0), (.int .u8 0), (.int .u8 0), (.int .u8 0), (.int .u8 0), (.int .u8 0), (.int .u8 0), (.int .u8 0), (.int .u8 0), (.int .u8 0), (.int .u8 0)]) rfl rfl (by as_aux_lemma => kernel_rfl)) ?_
              refine TL.alloc (Want.plain rfl) rfl rfl rfl z170 (fun b7 => ?_)
              change TL _ _ _ _ _ _ _ _ _ [blkA b7 [(.int .i64 0), (.int .u8 0), (.int .u8 0), (.int .u8 0), (.int .u8 0), (.int .u8 0), (.int .u8 0), (.int .u8 0), (.int .u8 0), (.int .u8 0), (.int .u8 0), (.int .u8 0), (.int .u8 0), (.int .u8 0), (.int .u8 0), (.int .u8 0), (.int .u8 0), (.int .u8 0), (.int .u8 0), (.int .u8 0), (.int .u8 0), (.int .u8 0), (.int .u8 0), (.int .u8 0), (.int .u8 0), (.int .u8 0), (.int .u8 0), (.int .u8 0), (.int .u8 0), (.int .u8 0), (.int .u8 0), (.int .u8 0), (.int .u8 0), (.int .u8 0), (.int .u8 0), (.int .u8 0), (.int .u8 0), (.int .u8 0), (.int .u8 0), (.int .u8 0), (.int .u8 0), (.int .u8 0), (.int .u8 0), (.int .u8 0), (.int .u8 0), (.int .u8 0), (.int .u8 0), (.int .u8 0), (.int .u8 0), (.int .u8 0), (.int .u8 0), (.int .u8 0), (.int .u8 0), (.int .u8 0), (.int .u8 0), (.int .u8 0), (.int .u8 0), (.int .u8 0), (.int .u8 0), (.int .u8 0), (.int .u8 0), (.int .u8 0), (.int .u8 0), (.int .u8 0), (.int .u8 0)] 170, blkA d [(.map (some m)), wv, (.bool (ar)), (.int .i64 (lf)), (.bool (dn))] 136, own wv (ws.length) (wflat ws) 170 65]
              refine TL.store (vs := [(.int .i64 (at')), (.int .u8 0), (.int .u8 0), (.int .u8 0), (.int .u8 0), (.int .u8 0), (.int .u8 0), (.int .u8 0), (.int .u8 0), (.int .u8 0), (.int .u8 0), (.int .u8 0), (.int .u8 0), (.int .u8 0), (.int .u8 0), (.int .u8 0), (.int .u8 0), (.int .u8 0), (.int .u8 0), (.int .u8 0), (.int .u8 0), (.int .u8 0), (.int .u8 0), (.int .u8 0), (.int .u8 0), (.int .u8 0), (.int .u8 0), (.int .u8 0), (.int .u8 0), (.int .u8 0), (.int .u8 0), (.int .u8 0), (.int .u8 0), (.int .u8 0), (.int .u8 0), (.int .u8 0), (.int .u8 0), (.int .u8 0), (.int .u8 0), (.int .u8 0), (.int .u8 0), (.int .u8 0), (.int .u8 0), (.int .u8 0), (.int .u8 0), (.int .u8 0), (.int .u8 0), (.int .u8 0), (.int .u8 0), (.int .u8 0), (.int .u8 0), (.int .u8 0), (.int .u8 0), (.int .u8 0), (.int .u8 0), (.int .u8 0), (.int .u8 0), (.int .u8 0), (.int .u8 0), (.int .u8 0), (.int .u8 0), (.int .u8 0), (.int .u8 0), (.int .u8 0), (.int .u8 0)]) (i := 0) (H' := [blkA b7 [(.int .i64 (at')), (.int .u8 0), (.int .u8 0), (.int .u8 0), (.int .u8 0), (.int .u8 0), (.int .u8 0), (.int .u8 0), (.int .u8 0), (.int .u8 0), (.int .u8 0), (.int .u8 0), (.int .u8 0), (.int .u8 0), (.int .u8 0), (.int .u8 0), (.int .u8 0), (.int .u8 0), (.int .u8 0), (.int .u8 0), (.int .u8 0), (.int .u8 0), (.int .u8 0), (.int .u8 0), (.int .u8 0), (.int .u8 0), (.int .u8 0), (.int .u8 0), (.int .u8 0), (.int .u8 0), (.int .u8 0), (.int .u8 0), (.int .u8 0), (.int .u8 0), (.int .u8 0), (.int .u8 0), (.int .u8 0), (.int .u8 0), (.int .u8 0), (.int .u8 0), (.int .u8 0), (.int .u8 0), (.int .u8 0), (.int .u8 0), (.int .u8 0), (.int .u8 0), (.int .u8 0), (.int .u8 0), (.int .u8 0), (.int .u8 0), (.int .u8 0), (.int .u8 0), (.int .u8 0), (.int .u8 0), (.int .u8 0), (.int .u8 0), (.int .u8 0), (.int .u8 0), (.int .u8 0), (.int .u8 0), (.int .u8 0), (.int .u8 0), (.int .u8 0), (.int .u8 0), (.int .u8 0)] 170, blkA d [(.map (some m)), wv, (.bool (ar)), (.int .i64 (lf)), (.bool (dn))] 136, own wv (ws.length) (wflat ws) 170 65]) (Want.plain rfl) rfl rfl rfl rfl rfl sz170 (by simp [Value.oneCell']) rfl rfl (lbe rfl) rfl rfl ?_
              refine TL.nil ?_
              refine TE.next hK37 ?_
              clear hK37
              refine TC.seq (fun K38 hK38 => ?_)
              refine TC.region ?_
              refine TL.v (Want.plain rfl) rfl rfl (PV.fieldAddr (r := 1) rfl Try.underlying170 rfl sz161 rfl rfl) ?_
              refine TL.v (Want.plain rfl) rfl rfl (PV.sliceArr rfl Try.underlying161 sz5 rfl) ?_
              refine TL.v (Want.plain rfl) rfl rfl (PV.move rfl rfl) ?_
              refine TL.copy (i := 0) (m := bs.length) (news := (u8s bs)) (H' := [blkA b7 (wcell (at', padS bs)) 170, blkA d [(.map (some m)), wv, (.bool (ar)), (.int .i64 (lf)), (.bool (dn))] 136, own wv (ws.length) (wflat ws) 170 65]) (Want.plain rfl) rfl rfl rfl Try.underlying27 sz5 rfl rfl rfl rfl (fun _ _ => hF.src (fun _ h => Frm.of h)) (u8s_one _) (by show 1 + min bs.length 64 ≤ 65; omega) (wr_pad (by omega)) rfl ?_
              refine TL.nil ?_
              refine TE.next hK38 ?_
              clear hK38
              refine TC.seq (fun K39 hK39 => ?_)
              refine TC.draw (fun w => Frm F w ∧ w.heap[b7]? = some (.cells (wcell (at', padS bs)).toArray 170 (0, 0)) ∧ True) mixedD rfl (fun _ s => ⟨Frm.of s, s.block 0 (lb rfl) rfl, trivial⟩) ?_
              refine TD.take (i := 0) rfl (by kernel_rfl) (by kernel_rfl) (by kernel_rfl) (fun _ _ _ _ h => h) (Want.plain rfl) rfl rfl (PV.move rfl rfl) ?_
              refine TD.take (i := 1) rfl (by kernel_rfl) (by kernel_rfl) (by kernel_rfl) (fun _ _ _ _ h => h) (Want.plain rfl) rfl rfl (PV.move rfl rfl) ?_
              refine TD.take (i := 2) rfl (by kernel_rfl) (by kernel_rfl) (by kernel_rfl) (fun _ _ _ _ h => h) (Want.plain rfl) rfl rfl (PV.nilCheck rfl rfl) ?_
              refine TD.take (i := 3) rfl (by kernel_rfl) (by kernel_rfl) (by kernel_rfl) (fun _ _ _ _ h => h) (Want.plain rfl) rfl rfl (PV.fieldAddr (r := 1) rfl Try.underlying136 rfl sz134 rfl rfl) ?_
              refine TD.take (i := 5) rfl (by kernel_rfl) (by kernel_rfl) (by kernel_rfl) (fun _ _ _ _ h => h) (Want.plain rfl) rfl rfl (PV.loadN (vs := wcell (at', padS bs)) rfl Try.underlying170 rfl sz170 rfl (fun _ h => h.2.1) (wcell_len (padS_len (by omega))) (by rw [List.drop_zero, List.take_of_length_le (by rw [(wcell_len (padS_len (by omega)))]; exact Nat.le_refl _)])) ?_
              refine TD.all [4, 6] (by kernel_rfl) rfl ?_
              refine AllT.cons rfl ?_ ?_
              · skip
                refine TL.v (Want.plain rfl) rfl rfl (PV.load1 (v := wv) rfl Try.underlying134 rfl rfl (Rd.own 1 rfl rfl) rfl) ?_
                refine TL.nil ?_
                refine TE.draw (fun _ s => ⟨Frm.of s, s.block 0 (lb rfl) rfl, trivial⟩) ?_
                refine TD.all [6] (by kernel_rfl) rfl ?_
                refine AllT.cons rfl ?_ ?_
                · skip
                  refine TL.buildSlice (cells := (wcell (at', padS bs)).toArray) (Want.plain rfl) rfl rfl rfl Try.underlying134 in170 rfl rfl rfl (fill_at (wcell_len (padS_len (by omega))) (by simp)) (fun b60 => ?_)
                  change TL _ _ _ _ _ _ _ _ _ [blkA b60 (wcell (at', padS bs)) 170, blkA b7 (wcell (at', padS bs)) 170, blkA d [(.map (some m)), wv, (.bool (ar)), (.int .i64 (lf)), (.bool (dn))] 136, own wv (ws.length) (wflat ws) 170 65]
                  refine TL.nil ?_
                  refine TE.draw (fun _ s => ⟨Frm.of s, s.block 1 (lb rfl) rfl, trivial⟩) ?_
                  refine TD.all [7] (by kernel_rfl) rfl ?_
                  refine AllT.cons rfl ?_ ?_
                  · skip
                    refine TL.append (k := 3) (news := wcell (at', padS bs)) (nn' := (ws ++ [(at', padS bs)]).length) (xs' := wflat (ws ++ [(at', padS bs)])) (Want.plain rfl) rfl rfl rfl Try.underlying134 in170 rfl rfl rfl rfl rfl rfl (fun _ _ => Src.rd (wcell_len (padS_len (by omega))) (Rd.own 0 rfl rfl) (by rw [List.drop_zero, List.take_of_length_le (Nat.le_refl _)])) (wcell_one _) (by simp only [maxLen]; omega) (by omega) (by simp) (by simp [wflat]) (fun v61 ov61 => ?_)
                    change TL _ _ _ _ _ _ _ _ _ [blkA b60 (wcell (at', padS bs)) 170, blkA b7 (wcell (at', padS bs)) 170, blkA d [(.map (some m)), wv, (.bool (ar)), (.int .i64 (lf)), (.bool (dn))] 136, own v61 ((ws ++ [(at', padS bs)]).length) (wflat (ws ++ [(at', padS bs)])) 170 65]
                    refine TL.nil ?_
                    refine TE.draw (fun _ s => ⟨Frm.of s, s.block 1 (lb rfl) rfl, trivial⟩) ?_
                    refine TD.take (i := 8) rfl (by kernel_rfl) (by kernel_rfl) (by kernel_rfl) (fun _ _ _ _ h => h) (Want.plain rfl) rfl rfl (PV.nilCheck rfl rfl) ?_
                    refine TD.take (i := 9) rfl (by kernel_rfl) (by kernel_rfl) (by kernel_rfl) (fun _ _ _ _ h => h) (Want.plain rfl) rfl rfl (PV.fieldAddr (r := 1) rfl Try.underlying136 rfl sz134 rfl rfl) ?_
                    refine TD.all [10] (by kernel_rfl) rfl ?_
                    refine AllT.cons rfl ?_ ?_
                    · skip
                      refine TL.store1 (i := 2) (H' := [blkA b60 (wcell (at', padS bs)) 170, blkA b7 (wcell (at', padS bs)) 170, blkA d [(.map (some m)), v61, (.bool (ar)), (.int .i64 (lf)), (.bool (dn))] 136, own v61 ((ws ++ [(at', padS bs)]).length) (wflat (ws ++ [(at', padS bs)])) 170 65]) (Want.plain rfl) rfl rfl rfl rfl ov61 sz134 rfl rfl (lb rfl) rfl rfl ?_
                      refine TL.nil ?_
                      refine TE.draw (fun _ s => ⟨Frm.of s, s.block 1 (lb rfl) rfl, trivial⟩) ?_
                      refine TD.done (by kernel_rfl) ?_
                      refine TE.next hK39 ?_
                      clear hK39
                      refine TC.seq (fun K40 hK40 => ?_)
                      refine TC.region ?_
                      refine TL.v (Want.plain rfl) rfl rfl (PV.assign rfl rfl) ?_
                      refine TL.nil ?_
                      refine TE.next hK40 ?_
                      clear hK40
                      refine TC.ret ?_
                      refine TE.weak (Sub.refl _) (fun _ s => sep_keep [2, 2] rfl s) ?_
                      refine TE.ret1 rfl rfl ?_
                      show (if _ then _ else _)
                      first
                        | (rw [if_pos (by omega)]; exact ⟨rfl, rfl⟩)
                        | (rw [if_neg (by omega), if_pos (by simp_all)]; exact ⟨rfl, by simp_all <;> rfl⟩)
                        | (rw [if_neg (by omega), if_neg (by simp_all)]; exact ⟨rfl, v61, by simp_all <;> rfl⟩)
                    exact AllT.nil
                  exact AllT.nil
                exact AllT.nil
              refine AllT.cons rfl ?_ ?_
              · skip
                refine TL.buildSlice (cells := (wcell (at', padS bs)).toArray) (Want.plain rfl) rfl rfl rfl Try.underlying134 in170 rfl rfl rfl (fill_at (wcell_len (padS_len (by omega))) (by simp)) (fun b60 => ?_)
                change TL _ _ _ _ _ _ _ _ _ [blkA b60 (wcell (at', padS bs)) 170, blkA b7 (wcell (at', padS bs)) 170, blkA d [(.map (some m)), wv, (.bool (ar)), (.int .i64 (lf)), (.bool (dn))] 136, own wv (ws.length) (wflat ws) 170 65]
                refine TL.nil ?_
                refine TE.draw (fun _ s => ⟨Frm.of s, s.block 1 (lb rfl) rfl, trivial⟩) ?_
                refine TD.all [4] (by kernel_rfl) rfl ?_
                refine AllT.cons rfl ?_ ?_
                · skip
                  refine TL.v (Want.plain rfl) rfl rfl (PV.load1 (v := wv) rfl Try.underlying134 rfl rfl (Rd.own 2 rfl rfl) rfl) ?_
                  refine TL.nil ?_
                  refine TE.draw (fun _ s => ⟨Frm.of s, s.block 1 (lb rfl) rfl, trivial⟩) ?_
                  refine TD.all [7] (by kernel_rfl) rfl ?_
                  refine AllT.cons rfl ?_ ?_
                  · skip
                    refine TL.append (k := 3) (news := wcell (at', padS bs)) (nn' := (ws ++ [(at', padS bs)]).length) (xs' := wflat (ws ++ [(at', padS bs)])) (Want.plain rfl) rfl rfl rfl Try.underlying134 in170 rfl rfl rfl rfl rfl rfl (fun _ _ => Src.rd (wcell_len (padS_len (by omega))) (Rd.own 0 rfl rfl) (by rw [List.drop_zero, List.take_of_length_le (Nat.le_refl _)])) (wcell_one _) (by simp only [maxLen]; omega) (by omega) (by simp) (by simp [wflat]) (fun v61 ov61 => ?_)
                    change TL _ _ _ _ _ _ _ _ _ [blkA b60 (wcell (at', padS bs)) 170, blkA b7 (wcell (at', padS bs)) 170, blkA d [(.map (some m)), wv, (.bool (ar)), (.int .i64 (lf)), (.bool (dn))] 136, own v61 ((ws ++ [(at', padS bs)]).length) (wflat (ws ++ [(at', padS bs)])) 170 65]
                    refine TL.nil ?_
                    refine TE.draw (fun _ s => ⟨Frm.of s, s.block 1 (lb rfl) rfl, trivial⟩) ?_
                    refine TD.take (i := 8) rfl (by kernel_rfl) (by kernel_rfl) (by kernel_rfl) (fun _ _ _ _ h => h) (Want.plain rfl) rfl rfl (PV.nilCheck rfl rfl) ?_
                    refine TD.take (i := 9) rfl (by kernel_rfl) (by kernel_rfl) (by kernel_rfl) (fun _ _ _ _ h => h) (Want.plain rfl) rfl rfl (PV.fieldAddr (r := 1) rfl Try.underlying136 rfl sz134 rfl rfl) ?_
                    refine TD.all [10] (by kernel_rfl) rfl ?_
                    refine AllT.cons rfl ?_ ?_
                    · skip
                      refine TL.store1 (i := 2) (H' := [blkA b60 (wcell (at', padS bs)) 170, blkA b7 (wcell (at', padS bs)) 170, blkA d [(.map (some m)), v61, (.bool (ar)), (.int .i64 (lf)), (.bool (dn))] 136, own v61 ((ws ++ [(at', padS bs)]).length) (wflat (ws ++ [(at', padS bs)])) 170 65]) (Want.plain rfl) rfl rfl rfl rfl ov61 sz134 rfl rfl (lb rfl) rfl rfl ?_
                      refine TL.nil ?_
                      refine TE.draw (fun _ s => ⟨Frm.of s, s.block 1 (lb rfl) rfl, trivial⟩) ?_
                      refine TD.done (by kernel_rfl) ?_
                      refine TE.next hK39 ?_
                      clear hK39
                      refine TC.seq (fun K41 hK41 => ?_)
                      refine TC.region ?_
                      refine TL.v (Want.plain rfl) rfl rfl (PV.assign rfl rfl) ?_
                      refine TL.nil ?_
                      refine TE.next hK41 ?_
                      clear hK41
                      refine TC.ret ?_
                      refine TE.weak (Sub.refl _) (fun _ s => sep_keep [2, 2] rfl s) ?_
                      refine TE.ret1 rfl rfl ?_
                      show (if _ then _ else _)
                      first
                        | (rw [if_pos (by omega)]; exact ⟨rfl, rfl⟩)
                        | (rw [if_neg (by omega), if_pos (by simp_all)]; exact ⟨rfl, by simp_all <;> rfl⟩)
                        | (rw [if_neg (by omega), if_neg (by simp_all)]; exact ⟨rfl, v61, by simp_all <;> rfl⟩)
                    exact AllT.nil
                  exact AllT.nil
                exact AllT.nil
              exact AllT.nil


theorem dr_syncDown_does (d m : Nat) (wv : Value) (ar : Bool) (lf : Int) :
    Does Try.prog 68 #[(.pointer (some ⟨d, 0, none⟩))] (fun _ => True) [blkA d [(.map (some m)), wv, (.bool (ar)), (.int .i64 (lf)), (.bool true)] 136] (Ret (fun v H => v = .int .i64 4 ∧ H = [blkA d [(.map (some m)), wv, (.bool (ar)), (.int .i64 (lf)), (.bool true)] 136])) := by
  refine Does.body (vs := [(.pointer (some ⟨d, 0, none⟩))]) (n := 28) Try.func68 rfl rfl rfl (fun w0 F hF => ?_)
  refine TC.seq (fun K1 hK1 => ?_)
  refine TC.region ?_
  refine TL.v (Want.plain rfl) rfl rfl (PV.assign rfl rfl) ?_
  refine TL.nil ?_
  refine TE.next hK1 ?_
  clear hK1
  refine TC.seq (fun K2 hK2 => ?_)
  refine TC.seq (fun K3 hK3 => ?_)
  refine TC.region ?_
  refine TL.v (Want.plain rfl) rfl rfl (PV.move rfl rfl) ?_
  refine TL.v (Want.plain rfl) rfl rfl (PV.nilCheck rfl rfl) ?_
  refine TL.v (Want.plain rfl) rfl rfl (PV.fieldAddr (r := 4) rfl Try.underlying136 rfl sz4 rfl rfl) ?_
  refine TL.v (Want.plain rfl) rfl rfl (PV.load1 (v := (.bool true)) rfl Try.underlying4 rfl rfl (Rd.own 0 rfl rfl) rfl) ?_
  refine TL.nil ?_
  refine TE.next hK3 ?_
  clear hK3
  refine TC.yes rfl ?_
  refine TC.seq (fun K4 hK4 => ?_)
  refine TC.region ?_
  refine TL.v (Want.plain rfl) rfl rfl (PV.assign rfl rfl) ?_
  refine TL.nil ?_
  refine TE.next hK4 ?_
  clear hK4
  refine TC.ret ?_
  refine TE.passRet ?_
  clear hK2
  refine TE.weak (Sub.refl _) (fun _ s => sep_keep [0] rfl s) ?_
  refine TE.ret1 rfl rfl ?_
  exact ⟨rfl, rfl⟩


theorem dr_syncUp_does (d m : Nat) (wv : Value) (s ws : Secs) (ar : Bool) (lf : Int) (hw : Whole ws) :
    Does Try.prog 68 #[(.pointer (some ⟨d, 0, none⟩))] (fun _ => True) [blkA d [(.map (some m)), wv, (.bool (ar)), (.int .i64 (lf)), (.bool false)] 136, mapP m (kvS s), own wv (ws.length) (wflat ws) 170 65] (Ret (fun v H => v = .int .i64 0 ∧ H = [blkA d [(.map (some m)), (.slice none 0 0), (.bool (ar)), (.int .i64 (lf)), (.bool false)] 136, mapP m (kvS (layN s ws ws.length)), own (.slice none 0 0) 0 [] 170 65])) := by
  refine Does.body (vs := [(.pointer (some ⟨d, 0, none⟩))]) (n := 28) Try.func68 rfl rfl rfl (fun w0 F hF => ?_)
  refine TC.seq (fun K1 hK1 => ?_)
  refine TC.region ?_
  refine TL.ownLen 2 rfl rfl (fun hwl _ => ?_)
  refine TL.v (Want.plain rfl) rfl rfl (PV.assign rfl rfl) ?_
  refine TL.nil ?_
  refine TE.next hK1 ?_
  clear hK1
  refine TC.seq (fun K2 hK2 => ?_)
  refine TC.seq (fun K3 hK3 => ?_)
  refine TC.region ?_
  refine TL.v (Want.plain rfl) rfl rfl (PV.move rfl rfl) ?_
  refine TL.v (Want.plain rfl) rfl rfl (PV.nilCheck rfl rfl) ?_
  refine TL.v (Want.plain rfl) rfl rfl (PV.fieldAddr (r := 4) rfl Try.underlying136 rfl sz4 rfl rfl) ?_
  refine TL.v (Want.plain rfl) rfl rfl (PV.load1 (v := (.bool false)) rfl Try.underlying4 rfl rfl (Rd.own 0 rfl rfl) rfl) ?_
  refine TL.nil ?_
  refine TE.next hK3 ?_
  clear hK3
  refine TC.no rfl ?_
  refine TC.skip ?_
  refine TE.next hK2 ?_
  clear hK2
  refine TC.seq (fun K4 hK4 => ?_)
  refine TC.seq (fun K5 hK5 => ?_)
  refine TC.region ?_
  refine TL.v (Want.plain rfl) rfl rfl (PV.move rfl rfl) ?_
  refine TL.v (Want.plain rfl) rfl rfl (PV.nilCheck rfl rfl) ?_
  refine TL.v (Want.plain rfl) rfl rfl (PV.fieldAddr (r := 1) rfl Try.underlying136 rfl sz134 rfl rfl) ?_
  refine TL.v (Want.plain rfl) rfl rfl (PV.load1 (v := wv) rfl Try.underlying134 rfl rfl (Rd.own 0 rfl rfl) rfl) ?_
  refine TL.v (Want.plain rfl) rfl rfl (PV.lenV rfl Try.underlying134 rfl hwl) ?_
  refine TL.v (Want.plain rfl) rfl rfl (PV.move rfl rfl) ?_
  refine TL.nil ?_
  refine TE.next hK5 ?_
  clear hK5
  refine TC.block ?_
  refine TC.loop (α := (Nat) × (Secs)) (fun ⟨k, s'⟩ => k ≤ ws.length ∧ s' = layN s ws k) (fun ⟨k, s'⟩ => [(0, (.pointer (some ⟨d, 0, none⟩))), (2, (.int .i64 0)), (12, wv), (13, (.int .i64 (((ws.length : Nat) : Int)))), (14, (.int .i64 (((k : Nat) : Int))))]) (fun ⟨k, s'⟩ => [blkA d [(.map (some m)), wv, (.bool (ar)), (.int .i64 (lf)), (.bool false)] 136, mapP m (kvS s'), own wv (ws.length) (wflat ws) 170 65]) (fun ⟨k, s'⟩ => ws.length - k) (0, s)
      ⟨Nat.zero_le _, rfl⟩ (Sub.r (Sub.r (Sub.r (Sub.r (Sub.cons rfl (by congr 1) (Sub.nil _))))))
      (fun _ s => s) (fun ⟨k, s'⟩ hinv => ?_)
  obtain ⟨hk, hs'⟩ := hinv
  refine TC.seq (fun K6 hK6 => ?_)
  refine TC.region ?_
  refine TL.v (Want.plain rfl) rfl rfl (PV.lss rfl rfl rfl) ?_
  refine TL.dec (fun h15 => ?_) (fun h15 => ?_)
  · skip
    refine TL.ownAt 2 rfl rfl (by omega) (fun g cap hv hcap => ?_)
    refine TL.nil ?_
    refine TE.next hK6 ?_
    clear hK6
    refine TC.seq (fun K7 hK7 => ?_)
    refine TC.yes rfl ?_
    refine TC.skip ?_
    refine TE.next hK7 ?_
    clear hK7
    refine TC.seq (fun K8 hK8 => ?_)
    refine TC.block ?_
    refine TC.seq (fun K9 hK9 => ?_)
    refine TC.region ?_
    refine TL.v (Want.plain rfl) rfl rfl (PV.indexSlV (r := k * 65) hv rfl Try.underlying134 sz170 rfl rfl (by omega) (by omega) (by omega)) ?_
    refine TL.v (Want.plain rfl) rfl rfl (PV.loadNX (vs := wcell (wat ws k)) rfl Try.underlying170 rfl sz170 rfl (RdX.own 2 rfl hv rfl) (wcell_len (wat_len hw (by omega))) (wflat_atN hw (by omega))) ?_
    refine TL.alloc (Want.plain rfl) rfl rfl rfl z170 (fun b4 => ?_)
    change TL _ _ _ _ _ _ _ _ _ [blkA b4 [(.int .i64 0), (.int .u8 0), (.int .u8 0), (.int .u8 0), (.int .u8 0), (.int .u8 0), (.int .u8 0), (.int .u8 0), (.int .u8 0), (.int .u8 0), (.int .u8 0), (.int .u8 0), (.int .u8 0), (.int .u8 0), (.int .u8 0), (.int .u8 0), (.int .u8 0), (.int .u8 0), (.int .u8 0), (.int .u8 0), (.int .u8 0), (.int .u8 0), (.int .u8 0), (.int .u8 0), (.int .u8 0), (.int .u8 0), (.int .u8 0), (.int .u8 0), (.int .u8 0), (.int .u8 0), (.int .u8 0), (.int .u8 0), (.int .u8 0), (.int .u8 0), (.int .u8 0), (.int .u8 0), (.int .u8 0), (.int .u8 0), (.int .u8 0), (.int .u8 0), (.int .u8 0), (.int .u8 0), (.int .u8 0), (.int .u8 0), (.int .u8 0), (.int .u8 0), (.int .u8 0), (.int .u8 0), (.int .u8 0), (.int .u8 0), (.int .u8 0), (.int .u8 0), (.int .u8 0), (.int .u8 0), (.int .u8 0), (.int .u8 0), (.int .u8 0), (.int .u8 0), (.int .u8 0), (.int .u8 0), (.int .u8 0), (.int .u8 0), (.int .u8 0), (.int .u8 0), (.int .u8 0)] 170, blkA d [(.map (some m)), wv, (.bool (ar)), (.int .i64 (lf)), (.bool false)] 136, mapP m (kvS s'), own wv (ws.length) (wflat ws) 170 65]
    refine TL.store (vs := wcell (wat ws k)) (i := 0) (H' := [blkA b4 (wcell (wat ws k)) 170, blkA d [(.map (some m)), wv, (.bool (ar)), (.int .i64 (lf)), (.bool false)] 136, mapP m (kvS s'), own wv (ws.length) (wflat ws) 170 65]) (Want.plain rfl) rfl rfl rfl rfl rfl (by rw [wcell_len (wat_len hw (by omega))]; exact sz170) (wcell_one _) rfl rfl (by rw [wcell_len (wat_len hw (by omega))]; exact Nat.le_refl _) (wr_whole (Eq.trans (rfl : _ = 65) (by rw [wcell_len (wat_len hw (by omega))] : (wcell (wat ws k)).length = 65).symm)) rfl ?_
    refine TL.nil ?_
    refine TE.next hK9 ?_
    clear hK9
    refine TC.region ?_
    refine TL.v (Want.plain rfl) rfl rfl (PV.move rfl rfl) ?_
    refine TL.v (Want.plain rfl) rfl rfl (PV.fieldAddr (r := 0) rfl Try.underlying170 rfl sz3 rfl rfl) ?_
    refine TL.v (Want.plain rfl) rfl rfl (PV.load1 (v := (.int .i64 ((wat ws k).1))) rfl Try.underlying3 rfl rfl (Rd.own 0 rfl rfl) rfl) ?_
    refine TL.v (Want.plain rfl) rfl rfl (PV.fieldAddr (r := 1) rfl Try.underlying170 rfl sz161 rfl rfl) ?_
    refine TL.v (Want.plain rfl) rfl rfl (PV.loadN (vs := u8s (wat ws k).2) rfl Try.underlying161 rfl sz161 rfl (Rd.own 0 rfl rfl) (by rw [u8s_length]; exact wat_len hw (by omega)) (wcell_tail (wat_len hw (by omega)))) ?_
    refine TL.callR (A := [blkA d [(.map (some m)), wv, (.bool (ar)), (.int .i64 (lf)), (.bool false)] 136, mapP m (kvS s')]) (B := [blkA b4 (wcell (wat ws k)) 170, own wv (ws.length) (wflat ws) 170 65]) (Want.plain rfl) rfl rfl rfl nm72 rfl (dr_last_does d m wv s' ar false lf ((wat ws k).1) (wat ws k).2 (by exact wat_len hw (by omega))) (fun _ s => sep_selR [1, 1] rfl s) (fun _ _ _ => trivial) (fun vR HR hR => ?_)
    subst hR
    change TL _ _ _ _ _ _ _ _ _ [blkA d [(.map (some m)), wv, (.bool (ar)), (.int .i64 (lf)), (.bool false)] 136, mapP m (kvS (sput s' ((wat ws k).1) (wat ws k).2)), blkA b4 (wcell (wat ws k)) 170, own wv (ws.length) (wflat ws) 170 65]
    refine TL.nil ?_
    refine TE.blockEnd ?_
    refine TE.next hK8 ?_
    clear hK8
    refine TC.region ?_
    refine TL.v (Want.plain rfl) rfl rfl (PV.add rfl rfl rfl (wrap_i64 (by omega) (by omega))) ?_
    refine TL.v (Want.plain rfl) rfl rfl (PV.move rfl rfl) ?_
    refine TL.nil ?_
    exact TE.round ((k + 1, sput s' (wat ws k).1 (wat ws k).2) : (Nat) × (Secs)) ⟨by omega, by rw [hs']; rfl⟩ (by show ws.length - (k + 1) < ws.length - k; omega)
      (Sub.r (Sub.r (Sub.r (Sub.r (Sub.cons rfl (by simp) (Sub.nil _))))))
      (fun _ s => sep_keep [0, 0, 1] rfl s)
  · skip
    refine TL.nil ?_
    refine TE.next hK6 ?_
    clear hK6
    refine TC.seq (fun K10 hK10 => ?_)
    refine TC.no rfl ?_
    refine TC.exit ?_
    refine TE.pass ?_
    clear hK10
    refine TE.pass ?_
    refine TE.hit ?_
    refine TE.next hK4 ?_
    clear hK4
    refine TC.seq (fun K11 hK11 => ?_)
    refine TC.region ?_
    refine TL.v (Want.plain rfl) rfl rfl (PV.move rfl rfl) ?_
    refine TL.v (Want.plain rfl) rfl rfl (PV.nilCheck rfl rfl) ?_
    refine TL.v (Want.plain rfl) rfl rfl (PV.fieldAddr (r := 1) rfl Try.underlying136 rfl sz134 rfl rfl) ?_
    refine TL.store1 (i := 0) (H' := [blkA d [(.map (some m)), (.slice none 0 0), (.bool (ar)), (.int .i64 (lf)), (.bool false)] 136, mapP m (kvS s'), own wv (ws.length) (wflat ws) 170 65]) (Want.plain rfl) rfl rfl rfl rfl rfl sz134 rfl rfl (lb rfl) rfl rfl ?_
    refine TL.nil ?_
    refine TE.next hK11 ?_
    clear hK11
    refine TC.seq (fun K12 hK12 => ?_)
    refine TC.region ?_
    refine TL.v (Want.plain rfl) rfl rfl (PV.assign rfl rfl) ?_
    refine TL.nil ?_
    refine TE.next hK12 ?_
    clear hK12
    refine TC.ret ?_
    refine TE.weak (H' := [blkA d [(.map (some m)), (.slice none 0 0), (.bool (ar)), (.int .i64 (lf)), (.bool false)] 136, mapP m (kvS s'), own (.slice none 0 0) 0 [] 170 65]) (Sub.refl _) (fun _ s => sep_perm (List.Perm.trans (List.Perm.swap _ _ _) (List.Perm.cons _ (List.Perm.swap _ _ _))) (sep_ownNil 170 65 (sep_keep [0, 0] rfl s))) ?_
    refine TE.ret1 rfl rfl ?_
    obtain rfl : k = ws.length := by omega
    subst hs'
    exact ⟨rfl, rfl⟩


theorem dr_read_does (d m : Nat) (wv : Value) (s ws : Secs) (ar dn : Bool) (lf at' : Int) (hs2 : Whole s) (hw : Whole ws) (hb : ws.length ≤ 1000000000) :
    Does Try.prog 66 #[(.pointer (some ⟨d, 0, none⟩)), (.int .i64 (at'))] (fun _ => True) [blkA d [(.map (some m)), wv, (.bool (ar)), (.int .i64 (lf)), (.bool (dn))] 136, mapP m (kvS s), own wv (ws.length) (wflat ws) 170 65] (Ret (fun v H => v = secV (readN s ws at' ws.length) ∧ H = [blkA d [(.map (some m)), wv, (.bool (ar)), (.int .i64 (lf)), (.bool (dn))] 136, mapP m (kvS s), own wv (ws.length) (wflat ws) 170 65])) := by
  refine Does.body (vs := [(.pointer (some ⟨d, 0, none⟩)), (.int .i64 (at'))]) (n := 40) Try.func66 rfl rfl rfl (fun w0 F hF => ?_)
  refine TC.seq (fun K1 hK1 => ?_)
  refine TC.region ?_
  refine TL.ownLen 2 rfl rfl (fun hwl _ => ?_)
  refine TL.alloc (Want.plain rfl) rfl rfl rfl z161 (fun b4 => ?_)
  change TL _ _ _ _ _ _ _ _ _ [blkA b4 [(.int .u8 0), (.int .u8 0), (.int .u8 0), (.int .u8 0), (.int .u8 0), (.int .u8 0), (.int .u8 0), (.int .u8 0), (.int .u8 0), (.int .u8 0), (.int .u8 0), (.int .u8 0), (.int .u8 0), (.int .u8 0), (.int .u8 0), (.int .u8 0), (.int .u8 0), (.int .u8 0), (.int .u8 0), (.int .u8 0), (.int .u8 0), (.int .u8 0), (.int .u8 0), (.int .u8 0), (.int .u8 0), (.int .u8 0), (.int .u8 0), (.int .u8 0), (.int .u8 0), (.int .u8 0), (.int .u8 0), (.int .u8 0), (.int .u8 0), (.int .u8 0), (.int .u8 0), (.int .u8 0), (.int .u8 0), (.int .u8 0), (.int .u8 0), (.int .u8 0), (.int .u8 0), (.int .u8 0), (.int .u8 0), (.int .u8 0), (.int .u8 0), (.int .u8 0), (.int .u8 0), (.int .u8 0), (.int .u8 0), (.int .u8 0), (.int .u8 0), (.int .u8 0), (.int .u8 0), (.int .u8 0), (.int .u8 0), (.int .u8 0), (.int .u8 0), (.int .u8 0), (.int .u8 0), (.int .u8 0), (.int .u8 0), (.int .u8 0), (.int .u8 0), (.int .u8 0)] 161, blkA d [(.map (some m)), wv, (.bool (ar)), (.int .i64 (lf)), (.bool (dn))] 136, mapP m (kvS s), own wv (ws.length) (wflat ws) 170 65]
  refine TL.nil ?_
  refine TE.next hK1 ?_
  clear hK1
  refine TC.seq (fun K2 hK2 => ?_)
  refine TC.seq (fun K3 hK3 => ?_)
  refine TC.region ?_
  refine TL.v (Want.plain rfl) rfl rfl (PV.move rfl rfl) ?_
  refine TL.v (Want.plain rfl) rfl rfl (PV.nilCheck rfl rfl) ?_
  refine TL.v (Want.plain rfl) rfl rfl (PV.fieldAddr (r := 1) rfl Try.underlying136 rfl sz134 rfl rfl) ?_
  refine TL.v (Want.plain rfl) rfl rfl (PV.load1 (v := wv) rfl Try.underlying134 rfl rfl (Rd.own 1 rfl rfl) rfl) ?_
  refine TL.v (Want.plain rfl) rfl rfl (PV.lenV rfl Try.underlying134 rfl hwl) ?_
  refine TL.v (Want.plain rfl) rfl rfl (PV.sub rfl rfl rfl (wrap_i64 (by omega) (by omega))) ?_
  refine TL.v (Want.plain rfl) rfl rfl (PV.assign rfl rfl) ?_
  refine TL.nil ?_
  refine TE.next hK3 ?_
  clear hK3
  refine TC.block ?_
  refine TC.loop (α := (Int)) (fun p => -1 ≤ p ∧ p < ws.length ∧ readN s ws at' (p + 1).toNat = readN s ws at' ws.length) (fun p => [(0, (.pointer (some ⟨d, 0, none⟩))), (1, (.int .i64 (at'))), (4, (.pointer (some ⟨b4, 0, none⟩))), (5, (.int .i64 (p)))]) (fun p => [blkA b4 [(.int .u8 0), (.int .u8 0), (.int .u8 0), (.int .u8 0), (.int .u8 0), (.int .u8 0), (.int .u8 0), (.int .u8 0), (.int .u8 0), (.int .u8 0), (.int .u8 0), (.int .u8 0), (.int .u8 0), (.int .u8 0), (.int .u8 0), (.int .u8 0), (.int .u8 0), (.int .u8 0), (.int .u8 0), (.int .u8 0), (.int .u8 0), (.int .u8 0), (.int .u8 0), (.int .u8 0), (.int .u8 0), (.int .u8 0), (.int .u8 0), (.int .u8 0), (.int .u8 0), (.int .u8 0), (.int .u8 0), (.int .u8 0), (.int .u8 0), (.int .u8 0), (.int .u8 0), (.int .u8 0), (.int .u8 0), (.int .u8 0), (.int .u8 0), (.int .u8 0), (.int .u8 0), (.int .u8 0), (.int .u8 0), (.int .u8 0), (.int .u8 0), (.int .u8 0), (.int .u8 0), (.int .u8 0), (.int .u8 0), (.int .u8 0), (.int .u8 0), (.int .u8 0), (.int .u8 0), (.int .u8 0), (.int .u8 0), (.int .u8 0), (.int .u8 0), (.int .u8 0), (.int .u8 0), (.int .u8 0), (.int .u8 0), (.int .u8 0), (.int .u8 0), (.int .u8 0)] 161, blkA d [(.map (some m)), wv, (.bool (ar)), (.int .i64 (lf)), (.bool (dn))] 136, mapP m (kvS s), own wv (ws.length) (wflat ws) 170 65]) (fun p => (p + 1).toNat) (((ws.length : Nat) : Int) - 1)
      ⟨by omega, by omega, by congr 1; omega⟩ (Sub.r (Sub.r (Sub.r (Sub.cons rfl (by congr 1) (Sub.nil _)))))
      (fun _ s => s) (fun p hinv => ?_)
  obtain ⟨hp1, hp2, hp3⟩ := hinv
  refine TC.seq (fun K4 hK4 => ?_)
  refine TC.seq (fun K5 hK5 => ?_)
  refine TC.region ?_
  refine TL.v (Want.plain rfl) rfl rfl (PV.move rfl rfl) ?_
  refine TL.v (Want.plain rfl) rfl rfl (PV.geq rfl rfl rfl) ?_
  refine TL.dec (fun h13 => ?_) (fun h13 => ?_)
  · skip
    refine TL.ownAt 3 rfl rfl (by omega) (fun g cap hv hcap => ?_)
    refine TL.nil ?_
    refine TE.next hK5 ?_
    clear hK5
    refine TC.yes rfl ?_
    refine TC.skip ?_
    refine TE.next hK4 ?_
    clear hK4
    refine TC.seq (fun K6 hK6 => ?_)
    refine TC.block ?_
    refine TC.seq (fun K7 hK7 => ?_)
    refine TC.region ?_
    refine TL.v (Want.plain rfl) rfl rfl (PV.move rfl rfl) ?_
    refine TL.v (Want.plain rfl) rfl rfl (PV.nilCheck rfl rfl) ?_
    refine TL.v (Want.plain rfl) rfl rfl (PV.fieldAddr (r := 1) rfl Try.underlying136 rfl sz134 rfl rfl) ?_
    refine TL.v (Want.plain rfl) rfl rfl (PV.load1 (v := wv) rfl Try.underlying134 rfl rfl (Rd.own 1 rfl rfl) rfl) ?_
    refine TL.v (Want.plain rfl) rfl rfl (PV.move rfl rfl) ?_
    refine TL.v (Want.plain rfl) rfl rfl (PV.indexSlV (r := p.toNat * 65) hv rfl Try.underlying134 sz170 rfl rfl (by omega) (by omega) (by omega)) ?_
    refine TL.v (Want.plain rfl) rfl rfl (PV.fieldAddr (r := p.toNat * 65) rfl Try.underlying170 rfl sz3 rfl rfl) ?_
    refine TL.v (Want.plain rfl) rfl rfl (PV.load1X (v := (.int .i64 ((wat ws p.toNat).1))) rfl Try.underlying3 rfl rfl (RdX.own 3 rfl hv rfl) (wflat_at0 hw (by omega))) ?_
    refine TL.v (Want.plain rfl) rfl rfl (PV.move rfl rfl) ?_
    refine TL.v (Want.plain rfl) rfl rfl (PV.eql rfl rfl rfl) ?_
    refine TL.dec (fun h25 => ?_) (fun h25 => ?_)
    · skip
      refine TL.nil ?_
      refine TE.next hK7 ?_
      clear hK7
      refine TC.yes rfl ?_
      refine TC.seq (fun K8 hK8 => ?_)
      refine TC.region ?_
      refine TL.v (Want.plain rfl) rfl rfl (PV.move rfl rfl) ?_
      refine TL.v (Want.plain rfl) rfl rfl (PV.nilCheck rfl rfl) ?_
      refine TL.v (Want.plain rfl) rfl rfl (PV.fieldAddr (r := 1) rfl Try.underlying136 rfl sz134 rfl rfl) ?_
      refine TL.v (Want.plain rfl) rfl rfl (PV.load1 (v := wv) rfl Try.underlying134 rfl rfl (Rd.own 1 rfl rfl) rfl) ?_
      refine TL.v (Want.plain rfl) rfl rfl (PV.move rfl rfl) ?_
      refine TL.v (Want.plain rfl) rfl rfl (PV.indexSlV (r := p.toNat * 65) hv rfl Try.underlying134 sz170 rfl rfl (by omega) (by omega) (by omega)) ?_
      refine TL.v (Want.plain rfl) rfl rfl (PV.fieldAddr (r := p.toNat * 65 + 1) rfl Try.underlying170 rfl sz161 rfl rfl) ?_
      refine TL.v (Want.plain rfl) rfl rfl (PV.loadNX (vs := u8s (wat ws p.toNat).2) rfl Try.underlying161 rfl sz161 rfl (RdX.own 3 rfl hv rfl) (by rw [u8s_length]; exact wat_len hw (by omega)) (wflat_at1 hw (by omega))) ?_
      refine TL.store (vs := u8s (wat ws p.toNat).2) (i := 0) (H' := [blkA b4 (u8s (wat ws p.toNat).2) 161, blkA d [(.map (some m)), wv, (.bool (ar)), (.int .i64 (lf)), (.bool (dn))] 136, mapP m (kvS s), own wv (ws.length) (wflat ws) 170 65]) (Want.plain rfl) rfl rfl rfl rfl rfl (by rw [u8s_length, wat_len hw (by omega)]; exact sz161) (u8s_one _) rfl rfl (by rw [u8s_length, wat_len hw (by omega)]; exact Nat.le_refl _) (wr_whole (Eq.trans (rfl : _ = 64) (by rw [u8s_length, wat_len hw (by omega)] : (u8s (wat ws p.toNat).2).length = 64).symm)) rfl ?_
      refine TL.nil ?_
      refine TE.next hK8 ?_
      clear hK8
      refine TC.ret ?_
      refine TE.blockRet ?_
      refine TE.passRet ?_
      clear hK6
      refine TE.passRet ?_
      refine TE.blockRet ?_
      refine TE.passRet ?_
      clear hK2
      refine TE.retC (H' := [blkA d [(.map (some m)), wv, (.bool (ar)), (.int .i64 (lf)), (.bool (dn))] 136, mapP m (kvS s), own wv (ws.length) (wflat ws) 170 65]) rfl rfl Try.underlying161 rfl sz161 (Rd.own 0 rfl rfl) (by rw [u8s_length]; exact wat_len hw (by omega)) (fun _ s => sep_keep [1, 1, 1] rfl s) ?_
      have e := readN_hit (s := s) h25
      rw [show p.toNat + 1 = (p + 1).toNat by omega, hp3] at e
      exact ⟨by rw [e]; rfl, rfl⟩
    · skip
      refine TL.nil ?_
      refine TE.next hK7 ?_
      clear hK7
      refine TC.no rfl ?_
      refine TC.skip ?_
      refine TE.blockEnd ?_
      refine TE.next hK6 ?_
      clear hK6
      refine TC.region ?_
      refine TL.v (Want.plain rfl) rfl rfl (PV.move rfl rfl) ?_
      refine TL.v (Want.plain rfl) rfl rfl (PV.sub rfl rfl rfl (wrap_i64 (by omega) (by omega))) ?_
      refine TL.v (Want.plain rfl) rfl rfl (PV.assign rfl rfl) ?_
      refine TL.nil ?_
      exact TE.round ((p - 1) : (Int)) ⟨by omega, by omega, by rw [← hp3, show (p + 1).toNat = p.toNat + 1 by omega, readN_miss h25]; congr 1; omega⟩ (by show (p - 1 + 1).toNat < (p + 1).toNat; omega)
        (Sub.r (Sub.r (Sub.r (Sub.r (Sub.nil _)))))
        (fun _ s => s)
  · skip
    refine TL.nil ?_
    refine TE.next hK5 ?_
    clear hK5
    refine TC.no rfl ?_
    refine TC.exit ?_
    refine TE.pass ?_
    clear hK4
    refine TE.pass ?_
    refine TE.hit ?_
    refine TE.next hK2 ?_
    clear hK2
    refine TC.seq (fun K9 hK9 => ?_)
    refine TC.region ?_
    refine TL.v (Want.plain rfl) rfl rfl (PV.move rfl rfl) ?_
    refine TL.v (Want.plain rfl) rfl rfl (PV.nilCheck rfl rfl) ?_
    refine TL.v (Want.plain rfl) rfl rfl (PV.fieldAddr (r := 0) rfl Try.underlying136 rfl sz133 rfl rfl) ?_
    refine TL.v (Want.plain rfl) rfl rfl (PV.load1 (v := (.map (some m))) rfl Try.underlying133 rfl rfl (Rd.own 1 rfl rfl) rfl) ?_
    refine TL.v (Want.plain rfl) rfl rfl (PV.move rfl rfl) ?_
    refine TL.v (Want.plain rfl) rfl rfl (PV.lookup rfl Try.underlying133 Try.underlying3 z161 rfl rfl (RdM.own 2 rfl rfl) (kget_kvS _ _)) ?_
    refine TL.store (vs := u8s (sget s at')) (i := 0) (H' := [blkA b4 (u8s (sget s at')) 161, blkA d [(.map (some m)), wv, (.bool (ar)), (.int .i64 (lf)), (.bool (dn))] 136, mapP m (kvS s), own wv (ws.length) (wflat ws) 170 65]) (Want.plain rfl) rfl rfl rfl rfl rfl (by rw [u8s_length, sget_whole hs2]; exact sz161) (u8s_one _) rfl rfl (by rw [u8s_length, sget_whole hs2]; exact Nat.le_refl _) (wr_whole (Eq.trans (rfl : _ = 64) (by rw [u8s_length, sget_whole hs2] : (u8s (sget s at')).length = 64).symm)) rfl ?_
    refine TL.nil ?_
    refine TE.next hK9 ?_
    clear hK9
    refine TC.ret ?_
    refine TE.retC (H' := [blkA d [(.map (some m)), wv, (.bool (ar)), (.int .i64 (lf)), (.bool (dn))] 136, mapP m (kvS s), own wv (ws.length) (wflat ws) 170 65]) rfl rfl Try.underlying161 rfl sz161 (Rd.own 0 rfl rfl) (by rw [u8s_length]; exact sget_whole hs2 _) (fun _ s => sep_keep [1, 1, 1] rfl s) ?_
    rw [show (p + 1).toNat = 0 by omega] at hp3
    exact ⟨by rw [← hp3]; rfl, rfl⟩


theorem sg161 : Try.prog.eqGuardType Try.prog.depth 161 = false := by kernel_rfl
theorem sk161 : Try.prog.keyTypeAt 2 161 = true := by kernel_rfl
theorem sf161 : flatK Try.prog 2 161 = some (List.replicate 64 (some .u8)) := by kernel_rfl
theorem sa161 : aggT Try.prog 161 = true := by kernel_rfl
theorem sc161 : Try.prog.cellsOf 161 = 64 := by kernel_rfl

/-- A disk. -/
abbrev dk (d : Nat) (D : DS) : HP := diskP 136 170 d D

theorem dk_read (d : Nat) (D : DS) (at' : Int) (hD : D.Ok) (hb : D.ws.length ≤ 1000000000) : Does Try.prog 66 #[(.pointer (some ⟨d, 0, none⟩)), .int .i64 at'] (fun _ => True) [dk d D] (Ret (fun v H => v = secV (D.read at') ∧ H = [dk d (D)])) := Does.pack (B := []) fun ⟨m, wv⟩ =>
  Does.withinR (dr_read_does d m wv D.s D.ws D.ar D.dn D.lf at' hD.s hD.ws hb) (B := []) (fun _ _ _ _ => trivial) (fun _ s => s) (fun v H h => by
    obtain ⟨rfl, rfl⟩ := h
    exact ⟨_, fun _ s => sep_close (H := []) (m, wv) (s), rfl, rfl⟩)

theorem dk_write (d : Nat) (D : DS) (at' : Int) (x : Value) (bs : List UInt8) (hD : D.Ok) (hb : D.ws.length ≤ 1000000000) : Does Try.prog 67 #[(.pointer (some ⟨d, 0, none⟩)), .int .i64 at', x] (IsW x bs) [dk d D] (Ret (fun v H => v = .int .i64 (D.write at' bs).1 ∧ H = [dk d ((D.write at' bs).2)])) := Does.pack (B := []) fun ⟨m, wv⟩ =>
  Does.withinR (dr_write_does d m wv D.ws D.ar D.dn D.lf at' x bs hD.lf hb) (B := [mapP m (kvS D.s)]) (fun _ _ h d => h.more d) (fun _ s => sep_selR [0, 1] rfl s) (fun v H h => by
    unfold DS.write
    replace h : (if at' < 0 ∨ 2048 ≤ at' ∨ 64 < bs.length then _ else _) := h
    split at h <;> rename_i h1
    · rw [if_pos h1]
      obtain ⟨rfl, rfl⟩ := h
      exact ⟨_, fun _ s => sep_close (H := []) (m, wv) (sep_selR [0, 1] rfl s), rfl, rfl⟩
    · rw [if_neg h1]
      split at h <;> rename_i h2
      · rw [if_pos h2]
        obtain ⟨rfl, rfl⟩ := h
        exact ⟨_, fun _ s => sep_close (H := []) (m, wv) (sep_selR [0, 1] rfl s), rfl, rfl⟩
      · rw [if_neg h2]
        obtain ⟨rfl, wv', rfl⟩ := h
        exact ⟨_, fun _ s => sep_close (H := []) (m, wv') (sep_selR [0, 1] rfl s), rfl, rfl⟩)

theorem dk_sync (d : Nat) (D : DS) (hD : D.Ok) : Does Try.prog 68 #[(.pointer (some ⟨d, 0, none⟩))] (fun _ => True) [dk d D] (Ret (fun v H => v = .int .i64 D.sync.1 ∧ H = [dk d D.sync.2])) := by
  obtain ⟨s, ws, ar, lf, dn⟩ := D
  cases dn
  · exact Does.pack (B := []) fun ⟨m, wv⟩ => Does.withinR (dr_syncUp_does d m wv s ws ar lf hD.ws) (B := []) (fun _ _ _ _ => trivial) (fun _ s => s) (fun v H h => by
      obtain ⟨rfl, rfl⟩ := h
      exact ⟨_, fun _ s => sep_close (H := []) (m, (.slice none 0 0 : Value)) s, rfl, rfl⟩)
  · exact Does.pack (B := []) fun ⟨m, wv⟩ => Does.withinR (dr_syncDown_does d m wv ar lf) (B := [mapP m (kvS s), own wv ws.length (wflat ws) 170 65]) (fun _ _ _ _ => trivial) (fun _ s => s) (fun v H h => by
      obtain ⟨rfl, rfl⟩ := h
      exact ⟨_, fun _ s => sep_close (H := []) (m, wv) s, rfl, rfl⟩)

theorem dk_new : Does Try.prog 58 #[] (fun _ => True) [] (Ret (fun v H => ∃ d, v = .pointer (some ⟨d, 0, none⟩) ∧ H = [dk d DS.new])) :=
  Does.withinR dr_new_does (B := []) (fun _ _ _ _ => trivial) (fun _ s => s) (fun v H h => by
    obtain ⟨d, m, rfl, rfl⟩ := h
    exact ⟨_, fun _ s => sep_close (H := []) (m, (.slice none 0 0 : Value)) (sep_perm (List.Perm.trans (List.Perm.swap _ _ _) (List.Perm.cons _ (List.Perm.swap _ _ _))) (sep_ownNil 170 65 s)), d, rfl, rfl⟩)

end Go.Proofs.Ytdekgkmbcdlekaa
