/-
  Joined texts: what a statement's proof reaches.
-/
import Derived.Test.YtohmkchalilodaaGreatDoorPLock6
set_option maxHeartbeats 8000000
set_option maxRecDepth 100000
set_option linter.unusedSimpArgs false
set_option linter.unusedVariables false
section
namespace Go.Proofs.YtohmkchalilodaaGreatDoor
open Go Leg Codec Api Dsk Wal
def frME (k : Nat) (m : MsgT) : List UInt8 := frameB ((k / 5 : Nat) : Int) ((k % 5 : Nat) : Int) (encM (cleanM m))
def frM (W : List (List MsgT)) : List (List (List UInt8)) := (List.range 25).map fun k => (W.getD k []).map (frME k)
theorem frM_len (W : List (List MsgT)) : (frM W).length = 25 := by simp [frM]
theorem frM_at (W : List (List MsgT)) {k : Nat} (h : k < 25) : (frM W).getD k [] = (W.getD k []).map (frME k) := by simp [frM, h, List.getD_eq_getElem?_getD]
theorem frM_set (W : List (List MsgT)) {k : Nat} (h : k < 25) (hW : W.length = 25) (l : List MsgT) : (frM W).set k (l.map (frME k)) = frM (W.set k l) := by
 refine List.ext_getElem? fun j => ?_
 by_cases hj : j = k
 · subst hj
   rw [List.getElem?_set_self (by rw [frM_len]; exact h)]
   simp [frM, h, List.getD_eq_getElem?_getD, List.getElem?_set_self (show j < W.length by omega)]
 · rw [List.getElem?_set_ne (fun e => hj e.symm)]
   unfold frM
   rw [List.getElem?_map, List.getElem?_map]
   by_cases hk : j < 25
   · simp [hk, List.getD_eq_getElem?_getD, List.getElem?_set_ne (fun e => hj e.symm)]
   · simp [hk]
theorem frME_way {f t : Nat} (ht : t < 5) (m : MsgT) : frME (f * 5 + t) m = frameB ((f : Nat) : Int) ((t : Nat) : Int) (encM (cleanM m)) := by
 unfold frME
 rw [show (f * 5 + t) / 5 = f by omega, show (f * 5 + t) % 5 = t by omega]
theorem frM_put {W : List (List MsgT)} (hW : W.length = 25) {f : Nat} (hf : f < 5) (s : SaidT) (hc : cleanM s.msg = s.msg) : netPut (frM W) ((f : Nat) : Int) s.to' (frameB ((f : Nat) : Int) s.to' (encM s.msg)) = frM (putM W f s) := by
 unfold netPut putM
 cases hv : validB ((f : Nat) : Int) s.to'
 · rfl
 · obtain ⟨h1, h2⟩ := validB_k hv
   unfold validB at hv
   rw [Bool.and_eq_true, Bool.and_eq_true] at hv
   have ht : 0 ≤ s.to' ∧ s.to' < 5 := of_decide_eq_true hv.1.2
   obtain ⟨t, ht5, e⟩ : ∃ t : Nat, t < 5 ∧ s.to' = ((t : Nat) : Int) := ⟨s.to'.toNat, by omega, by omega⟩
   rw [if_pos rfl, if_pos rfl, frM_at W h1]
   have e2 : frameB ((f : Nat) : Int) s.to' (encM s.msg) = frME (wayK ((f : Nat) : Int) s.to') s.msg := by
    rw [e, show wayK ((f : Nat) : Int) ((t : Nat) : Int) = f * 5 + t from rfl, frME_way ht5, hc]
   rw [e2, ← frM_set W h1 hW]
   unfold putBox
   rw [List.length_map]
   split
   · rw [List.map_append]; rfl
   · rfl
theorem putM_len (W : List (List MsgT)) (f : Nat) (s : SaidT) : (putM W f s).length = W.length := by unfold putM; split <;> simp
theorem frM_send {f : Nat} (hf : f < 5) : ∀ (l : List SaidT) {W : List (List MsgT)}, W.length = 25 → CleanS l → sendAll (frM W) f l = frM (sendM W f l)
 | [], _, _, _ => rfl
 | s :: l, W, hW, hc => by
  have ih := frM_send hf l (W := putM W f s) (by rw [putM_len]; exact hW) (fun x hx => hc x (List.mem_cons_of_mem _ hx))
  have h1 := frM_put hW hf s (hc s (List.mem_cons_self ..))
  show sendAll (netPut (frM W) _ _ _) f l = _
  rw [h1]
  exact ih
def mVM (a : CM) (r : Nat → Nat) : Nat → Value := fun i => if (a.at' i).up then .pointer (some ⟨r i, 0, none⟩) else .pointer none
abbrev rcBM (m : MM) : List (List UInt8) := m.rc.map encR
abbrev runUM (m : MM) (d r : Nat) (g : Nat × Value) : List HP := [blkA r (RepT.cells (withL m.x g.1 g.2)) 95, lgL g.1 d (rcBM m), ownR g.2 m.rs]
def runPM (m : MM) (d r : Nat) : HP := if m.up then pack (runUM m d r) else fun _ => True
abbrev machUM (m : MM) (d r : Nat) (p : Value) : List HP := [dkL d (rcBM m), ownR p m.pl, runPM m d r]
def machPM (m : MM) (d r : Nat) (p : Value) : HP := sep (machUM m d r p)
abbrev cluLM (c : Nat) (a : CM) (g : CG) : List HP := [blkA c (clC g.n (dV g) (mVM a g.r) g.p) 56, netP 106 169 5 g.n (frM a.W), sep ((List.range 5).map fun i => machPM (a.at' i) (g.d i) (g.r i) (g.p i))]
def cluM (c : Nat) (a : CM) : HP := pack (cluLM c a)
section
variable {f : FuncId} {args : Array Value} {Q : Value → Prop} {c i : Nat} {a a' : CM}
theorem cm_gen (hi : i < 5) (hne : ∀ j, j ≠ i → a'.at' j = a.at' j)
 (core : ∀ g : CG, Leg.Does Tryz.prog f args (fun _ => True) (blkA c (clC g.n (dV g) (mVM a g.r) g.p) 56 :: netP 106 169 5 g.n (frM a.W) :: machUM (a.at' i) (g.d i) (g.r i) (g.p i))
  (Ret fun v H => Q v ∧ ∃ g' : CG, g'.n = g.n ∧ (∀ j, j ≠ i → g'.d j = g.d j ∧ g'.r j = g.r j ∧ g'.p j = g.p j) ∧ H = blkA c (clC g.n (dV g') (mVM a' g'.r) g'.p) 56 :: netP 106 169 5 g.n (frM a'.W) :: machUM (a'.at' i) (g'.d i) (g'.r i) (g'.p i))) :
 Leg.Does Tryz.prog f args (fun _ => True) [cluM c a] (Ret fun v H => Q v ∧ H = [cluM c a']) := by
 refine Leg.Does.ex (A' := fun g : CG => (blkA c (clC g.n (dV g) (mVM a g.r) g.p) 56 :: netP 106 169 5 g.n (frM a.W) :: machUM (a.at' i) (g.d i) (g.r i) (g.p i)) ++ [sep (((List.range 5).map fun i => machPM (a.at' i) (g.d i) (g.r i) (g.p i)).eraseIdx i)]) (fun h s => ?_) fun g => ?_
 · obtain ⟨g, s⟩ := sep_open s
   have s2 := range_open (f := fun i => machPM (a.at' i) (g.d i) (g.r i) (g.p i)) hi (sep_selR [2, 0, 0] rfl s)
   have s3 := (sep_append (machUM (a.at' i) (g.d i) (g.r i) (g.p i)) _).2 s2
   exact ⟨g, sep_selR [4, 4, 0, 0, 0, 0] rfl s3⟩
 · refine Leg.Does.withinR (core g) (fun _ _ _ _ => trivial) (fun h s => s) fun v H hp => ?_
   obtain ⟨hQ, g', hn, hg, rfl⟩ := hp
   refine ⟨[cluM c a'], fun h s => ?_, hQ, rfl⟩
   have s1 := sep_selR [2, 2, 2, 2, 0, 0] rfl s
   have s2 := (sep_append (machUM (a'.at' i) (g'.d i) (g'.r i) (g'.p i)) _).1 s1
   have s3 := range_shut (f := fun i => machPM (a.at' i) (g.d i) (g.r i) (g.p i)) (g := fun i => machPM (a'.at' i) (g'.d i) (g'.r i) (g'.p i)) hi (fun j hj => by
    obtain ⟨h1, h2, h3⟩ := hg j hj
    rw [hne j hj, h1, h2, h3]) s2
   refine sep_close (p := cluLM c a') g' ?_
   rw [← hn] at s3
   exact sep_selR [1, 1, 0] rfl s3
theorem cm_up (hi : i < 5) (hu : (a.at' i).up = true) (hu' : (a'.at' i).up = true) (hpl : (a'.at' i).pl = (a.at' i).pl) (hne : ∀ j, j ≠ i → a'.at' j = a.at' j)
 (core : ∀ (g : CG) (lg : Nat) (vr : Value), mVM a g.r i = .pointer (some ⟨g.r i, 0, none⟩) → Leg.Does Tryz.prog f args (fun _ => True) (blkA c (clC g.n (dV g) (mVM a g.r) g.p) 56 :: netP 106 169 5 g.n (frM a.W) :: dkL (g.d i) (rcBM (a.at' i)) :: runUM (a.at' i) (g.d i) (g.r i) (lg, vr))
  (Ret fun v H => Q v ∧ ∃ vr', H = blkA c (clC g.n (dV g) (mVM a g.r) g.p) 56 :: netP 106 169 5 g.n (frM a'.W) :: dkL (g.d i) (rcBM (a'.at' i)) :: runUM (a'.at' i) (g.d i) (g.r i) (lg, vr'))) :
 Leg.Does Tryz.prog f args (fun _ => True) [cluM c a] (Ret fun v H => Q v ∧ H = [cluM c a']) := by
 have hm : ∀ r, mVM a' r = mVM a r := fun r => funext fun j => by
  unfold mVM
  by_cases hj : j = i
  · subst hj; rw [if_pos hu, if_pos hu']
  · rw [hne j hj]
 refine cm_gen hi hne fun g => ?_
 have e1 : runPM (a.at' i) (g.d i) (g.r i) = pack (runUM (a.at' i) (g.d i) (g.r i)) := if_pos hu
 have e2 : runPM (a'.at' i) (g.d i) (g.r i) = pack (runUM (a'.at' i) (g.d i) (g.r i)) := if_pos hu'
 refine Leg.Does.ex (A' := fun x : Nat × Value => (blkA c (clC g.n (dV g) (mVM a g.r) g.p) 56 :: netP 106 169 5 g.n (frM a.W) :: dkL (g.d i) (rcBM (a.at' i)) :: runUM (a.at' i) (g.d i) (g.r i) x) ++ [ownR (g.p i) (a.at' i).pl]) (fun h s => ?_) fun ⟨lg, vr⟩ => ?_
 · unfold machUM at s
   rw [e1] at s
   obtain ⟨x, s⟩ := sep_open (sep_selR [4, 0, 0, 0, 0] rfl s)
   exact ⟨x, sep_selR [3, 3, 3, 0, 0, 0, 0] rfl s⟩
 · refine Leg.Does.withinR (core g lg vr (if_pos hu)) (fun _ _ _ _ => trivial) (fun h s => s) fun v H hp => ?_
   obtain ⟨hQ, vr', rfl⟩ := hp
   refine ⟨_, fun h s => ?_, hQ, g, rfl, fun _ _ => ⟨rfl, rfl, rfl⟩, rfl⟩
   unfold machUM
   rw [e2, hm, hpl]
   have s1 := sep_close (p := runUM (a'.at' i) (g.d i) (g.r i)) (H := [blkA c (clC g.n (dV g) (mVM a g.r) g.p) 56, netP 106 169 5 g.n (frM a'.W), dkL (g.d i) (rcBM (a'.at' i)), ownR (g.p i) (a.at' i).pl]) (lg, vr') (sep_selR [3, 3, 3, 0, 0, 0, 0] rfl s)
   exact sep_selR [1, 1, 1, 1, 0] rfl s1
theorem cm_net (hm : a'.ms = a.ms) (core : ∀ g : CG, Leg.Does Tryz.prog f args (fun _ => True) [blkA c (clC g.n (dV g) (mVM a g.r) g.p) 56, netP 106 169 5 g.n (frM a.W)] (Ret fun v H => Q v ∧ H = [blkA c (clC g.n (dV g) (mVM a g.r) g.p) 56, netP 106 169 5 g.n (frM a'.W)])) :
 Leg.Does Tryz.prog f args (fun _ => True) [cluM c a] (Ret fun v H => Q v ∧ H = [cluM c a']) := by
 obtain ⟨ms, W'⟩ := a'
 obtain rfl : ms = a.ms := hm
 refine Leg.Does.ex (A' := fun g : CG => [blkA c (clC g.n (dV g) (mVM a g.r) g.p) 56, netP 106 169 5 g.n (frM a.W)] ++ [sep ((List.range 5).map fun i => machPM (a.at' i) (g.d i) (g.r i) (g.p i))]) (fun h s => sep_open s) fun g => ?_
 refine Leg.Does.withinR (core g) (fun _ _ _ _ => trivial) (fun h s => s) fun v H hp => ?_
 obtain ⟨hQ, rfl⟩ := hp
 exact ⟨[cluM c ⟨a.ms, W'⟩], fun h s => sep_close (p := cluLM c ⟨a.ms, W'⟩) g s, hQ, rfl⟩
end
theorem okCM_len {a : CM} (h : okCM a = true) : a.ms.length = 5 ∧ a.W.length = 25 := by
 unfold okCM at h
 rw [Bool.and_eq_true] at h
 exact ⟨of_decide_eq_true h.1, of_decide_eq_true h.2⟩
theorem atM_set {a : CM} {W : List (List MsgT)} {i : Nat} {m : MM} (h : i < a.ms.length) : (CM.mk (a.ms.set i m) W).at' i = m := by
 unfold CM.at'
 rw [List.getD_eq_getElem?_getD, List.getElem?_set_self h]; rfl
theorem atM_ne {a : CM} {W : List (List MsgT)} {i j : Nat} {m : MM} (h : j ≠ i) : (CM.mk (a.ms.set i m) W).at' j = a.at' j := by
 unfold CM.at'
 rw [List.getD_eq_getElem?_getD, List.getElem?_set_ne (fun e => h e.symm), List.getD_eq_getElem?_getD]
theorem CleanS.tick (x : RepT) : CleanS (tickO x) := by
 unfold tickO
 refine CleanS.app ?_ ?_
 · split
   · exact CleanS.tell x
   · exact CleanS.nil
 · split
   · exact CleanS.news _ _
   · exact CleanS.nil
theorem tickM_does {c i : Nat} {a a' : CM} (hi : i < 5) (h : tickM a i = some a') : Leg.Does Tryz.prog 10 #[(.pointer (some ⟨c, 0, none⟩)), (.agg (ints (OpT.mk 8 ((i : Nat) : Int) 0 0 0 ChangeT.zero 0 0 0).flat).toArray)] (fun _ => True) [cluM c a] (Ret fun v H => (∃ e : Int, v = .int .i64 e) ∧ H = [cluM c a']) := by
 unfold tickM at h
 split at h
 · cases h
 rename_i hok
 obtain ⟨hms, hW⟩ := okCM_len (by simpa using hok)
 split at h
 · rename_i hu
   split at h
   · rename_i hl
     have hL := loneB_is hl
     obtain rfl := Option.some.inj h
     refine cm_up (a' := ⟨a.ms, sendM a.W i (tickOM (a.at' i).x)⟩) hi hu hu rfl (fun _ _ => rfl) fun g lg vr hM => ?_
     refine Leg.Does.withinR (B := [lgL lg (g.d i) (rcBM (a.at' i)), ownR vr (a.at' i).rs]) (doTick1_does c g.n i (dV g) (mVM a g.r) g.p hi (g.d i) (g.r i) (rcBM (a.at' i)) rfl hM (frM a.W) (frM_len ..) (withL (a.at' i).x lg vr) hL.view hL.vote (by show machB (a.at' i).x.id = true; rw [hL.id]; exact machB_nat hi)) (fun _ _ _ _ => trivial) (fun h s => sep_selR [0, 1, 0, 0, 0, 0] rfl s) fun v H hp => ?_
     obtain ⟨rfl, rfl⟩ := hp
     rw [show tickO (withL (a.at' i).x lg vr) = tickO (a.at' i).x from rfl, frM_send hi _ hW (CleanS.tick _)]
     exact ⟨_, fun h s => sep_selR [0, 1, 0, 0, 0, 0] rfl s, ⟨0, rfl⟩, vr, rfl⟩
   · cases h
 · rename_i hu
   obtain rfl := Option.some.inj h
   refine cm_net rfl fun g => ?_
   refine Leg.Does.withinR (B := [netP 106 169 5 g.n (frM a.W)]) (doTick0_does c g.n i (dV g) (mVM a g.r) g.p hi (if_neg hu)) (fun _ _ _ _ => trivial) (fun h s => s) fun v H hp => ?_
   obtain ⟨rfl, rfl⟩ := hp
   exact ⟨_, fun h s => s, ⟨4, rfl⟩, rfl⟩
theorem rowC_map (x : RepT) (f w : Int) (y : RowT) (rc : List RecT) : rowC x f w y (rc.map encR) = (if takeB x f w y then rc ++ [mirRec w y] else rc).map encR := by
 unfold rowC
 split <;> simp
theorem kindOf {m : MsgT} (h : okMB m = true) : (cleanM m).kind = m.kind ∧ (m.kind = 0 ∨ m.kind = 1 ∨ m.kind = 2) ∧ (m.kind ≠ 1 → (cleanM m).whose = m.whose ∧ (cleanM m).row = m.row) ∧ (m.kind = 1 → (cleanM m).version = m.version) := by
 unfold okMB at h
 unfold cleanM
 split at h
 · rename_i hk
   rw [if_pos hk]
   exact ⟨hk.symm, Or.inr (Or.inl hk), fun e => absurd hk e, fun _ => rfl⟩
 · rename_i hk
   rw [Bool.and_eq_true, Bool.and_eq_true, Bool.and_eq_true, Bool.and_eq_true, Bool.or_eq_true] at h
   obtain ⟨⟨⟨⟨hk2, w1⟩, w2⟩, ht⟩, hr⟩ := h
   rw [if_neg hk]
   refine ⟨rfl, ?_, fun _ => ⟨rfl, rfl⟩, fun e => absurd e hk⟩
   rcases hk2 with hk2 | hk2
   · exact Or.inl (of_decide_eq_true hk2)
   · exact Or.inr (Or.inr (of_decide_eq_true hk2))
theorem wayM_step {c i j : Nat} {a a' : CM} (hi : i < 5) (hj : j < 5) (hij : i ≠ j) (h : stepM a i j = some a') : Leg.Does Tryz.prog 26 #[(.pointer (some ⟨c, 0, none⟩)), (.agg (ints (OpT.mk 5 ((i : Nat) : Int) ((j : Nat) : Int) 0 0 ChangeT.zero 0 0 0).flat).toArray)] (fun _ => True) [cluM c a] (Ret fun v H => (∃ e : Int, v = .int .i64 e) ∧ H = [cluM c a']) := by
 have hv : validB ((i : Nat) : Int) ((j : Nat) : Int) = true := by rw [valid_nat hi hj, decide_eq_false hij]; rfl
 unfold stepM at h
 split at h
 · cases h
 rename_i hok
 obtain ⟨hms, hW⟩ := okCM_len (by simpa using hok)
 split at h
 · rename_i hk
   obtain rfl := Option.some.inj h
   refine cm_net rfl fun g => ?_
   refine Leg.Does.fold (wayLost c g.n i j (dV g) (mVM a g.r) g.p hi hj hv (frM a.W) (frM_len ..) (by rw [wayK_nat, frM_at a.W (by omega), hk]; rfl)) fun e H hp => ?_
   cases e with
   | returned v => obtain ⟨rfl, rfl⟩ := hp; exact ⟨_, fun _ s => s, ⟨10, rfl⟩, rfl⟩
   | panicked c => exact hp.elim
   | outgrown => exact hp.elim
 · rename_i m t hk
   split at h
   · cases h
   rename_i hmb
   have hm : okMB m = true := by simpa using hmb
   obtain ⟨k1, k2, k3, k4⟩ := kindOf hm
   have hfk : (frM a.W).getD (wayK ((i : Nat) : Int) ((j : Nat) : Int)) [] = frameB ((i : Nat) : Int) ((j : Nat) : Int) (encM (cleanM m)) :: t.map (frME (i * 5 + j)) := by
    rw [wayK_nat, frM_at a.W (by omega), hk, List.map_cons, frME_way hj]
   have hset : (frM a.W).set (wayK ((i : Nat) : Int) ((j : Nat) : Int)) (t.map (frME (i * 5 + j))) = frM (a.W.set (i * 5 + j) t) := frM_set a.W (k := i * 5 + j) (by omega) hW t
   have hb : (encM (cleanM m)).length ≤ 100000 := Nat.le_trans (encM_len _) (by decide)
   have h0 := okMB_pos hm
   have hdec := okMB_dec hm
   have hwf := okMB_wf hm
   have hW2 : (a.W.set (i * 5 + j) t).length = 25 := by rw [List.length_set]; exact hW
   split at h
   · rename_i hu
     split at h
     · rename_i hl
       have hL := loneB_is hl
       split at h
       · rename_i hk0
         obtain ⟨kw, kr⟩ := k3 (by omega)
         obtain rfl := Option.some.inj h
         refine cm_up hj hu (by rw [atM_set (by omega)]; exact hu) (by rw [atM_set (by omega)]) (fun _ hx => atM_ne hx) fun g lg vr hM => ?_
         rw [atM_set (by omega)]
         refine Leg.Does.withinR (B := [ownR vr (a.at' j).rs]) (wayTake0 c g.n i j (dV g) (mVM a g.r) g.p hi hj hv (frM a.W) (frM_len ..) _ _ hfk h0 hb (g.d j) (g.r j) (rcBM (a.at' j)) rfl hM (cleanM m) hdec (withL (a.at' j).x lg vr) lg rfl (k1.trans hk0) hL.rc hwf (fun e => hij (by have : ((i : Nat) : Int) = (a.at' j).x.id := e; rw [hL.id] at this; omega))) (fun _ _ _ _ => trivial) (fun h s => s) fun v H hp => ?_
         obtain ⟨rfl, rfl⟩ := hp
         rw [kw, kr, rowX_L, rowO_L, show rowC (withL (a.at' j).x lg vr) ((i : Nat) : Int) m.whose m.row (rcBM (a.at' j)) = rowC (a.at' j).x ((i : Nat) : Int) m.whose m.row (rcBM (a.at' j)) from rfl, rowC_map, hset, frM_send hj _ hW2 (CleanS.row _ _ _ _)]
         exact ⟨_, fun h s => sep_selR [0, 1, 0, 0, 0, 0] rfl s, ⟨0, rfl⟩, vr, rfl⟩
       · rename_i hk0
         split at h
         · rename_i hk1
           obtain rfl := Option.some.inj h
           refine cm_up hj hu (by rw [atM_set (by omega)]; exact hu) (by rw [atM_set (by omega)]) (fun _ hx => atM_ne hx) fun g lg vr hM => ?_
           rw [atM_set (by omega)]
           refine Leg.Does.withinR (B := [lgL lg (g.d j) (rcBM (a.at' j))]) (wayTake1 c g.n i j (dV g) (mVM a g.r) g.p hi hj hv (frM a.W) (frM_len ..) _ _ hfk h0 hb (g.d j) (g.r j) (rcBM (a.at' j)) rfl hM (cleanM m) hdec (withL (a.at' j).x lg vr) (a.at' j).rs (k1.trans hk1) (by show machB (a.at' j).x.id = true; rw [hL.id]; exact machB_nat hj) hL.own.wf (alone_first hL.view) (Nat.le_trans hL.rs (by decide))) (fun _ _ _ _ => trivial) (fun h s => sep_selR [0, 0, 0, 0, 1, 0] rfl s) fun v H hp => ?_
           obtain ⟨rfl, v', _, rfl⟩ := hp
           rw [k4 hk1, keptS_L, show keptR (withL (a.at' j).x lg vr) ((i : Nat) : Int) m.version (a.at' j).rs = keptR (a.at' j).x ((i : Nat) : Int) m.version (a.at' j).rs from rfl, show keptO (withL (a.at' j).x lg vr) ((i : Nat) : Int) m.version = keptO (a.at' j).x ((i : Nat) : Int) m.version from rfl, hset, frM_send hj _ hW2 (CleanS.kept _ _ _)]
           exact ⟨_, fun h s => sep_selR [0, 1, 0, 0, 1, 0] rfl s, ⟨0, rfl⟩, v', rfl⟩
         · rename_i hk1
           have hk2 : m.kind = 2 := by omega
           obtain ⟨kw, kr⟩ := k3 hk1
           obtain rfl := Option.some.inj h
           refine cm_up hj hu (by rw [atM_set (by omega)]; exact hu) (by rw [atM_set (by omega)]) (fun _ hx => atM_ne hx) fun g lg vr hM => ?_
           rw [atM_set (by omega)]
           refine Leg.Does.withinR (B := [lgL lg (g.d j) (rcBM (a.at' j)), ownR vr (a.at' j).rs]) (wayTake2 c g.n i j (dV g) (mVM a g.r) g.p hi hj hv (frM a.W) (frM_len ..) _ _ hfk h0 hb (g.d j) (g.r j) (rcBM (a.at' j)) rfl hM (cleanM m) hdec (withL (a.at' j).x lg vr) (k1.trans hk2) hwf) (fun _ _ _ _ => trivial) (fun h s => s) fun v H hp => ?_
           obtain ⟨rfl, rfl⟩ := hp
           rw [kw, kr, hset]
           exact ⟨_, fun h s => sep_selR [0, 1, 0, 0, 0, 0] rfl s, ⟨0, rfl⟩, vr, rfl⟩
     · cases h
   · rename_i hu
     obtain rfl := Option.some.inj h
     refine cm_net rfl fun g => ?_
     refine Leg.Does.fold (wayDown c g.n i j (dV g) (mVM a g.r) g.p hi hj hv (frM a.W) (frM_len ..) _ _ hfk h0 hb (if_neg hu)) fun e H hp => ?_
     cases e with
     | returned v => obtain ⟨rfl, rfl⟩ := hp; rw [hset]; exact ⟨_, fun _ s => s, ⟨0, rfl⟩, rfl⟩
     | panicked c => exact hp.elim
     | outgrown => exact hp.elim
theorem stepM_does {c i j : Nat} {a a' : CM} (hi : i < 5) (hj : j < 5) (hij : i ≠ j) (h : stepM a i j = some a') : Leg.Does Tryz.prog 10 #[(.pointer (some ⟨c, 0, none⟩)), (.agg (ints (OpT.mk 5 ((i : Nat) : Int) ((j : Nat) : Int) 0 0 ChangeT.zero 0 0 0).flat).toArray)] (fun _ => True) [cluM c a] (Ret fun v H => (∃ e : Int, v = .int .i64 e) ∧ H = [cluM c a']) := by
 refine Leg.Does.fold (doStep_does c i j hi (cluM c a) (fun _ X => X = cluM c a') (Leg.Does.fold (wayM_step hi hj hij h) fun e H hp => ?_)) fun e H hp => ?_
 · cases e with
   | returned v => obtain ⟨⟨e, rfl⟩, rfl⟩ := hp; exact ⟨_, fun _ s => s, e, _, rfl, rfl, rfl⟩
   | panicked c => exact hp.elim
   | outgrown => exact hp.elim
 · cases e with
   | returned v => obtain ⟨e, X, rfl, rfl, rfl⟩ := hp; exact ⟨_, fun _ s => s, ⟨e, rfl⟩, rfl⟩
   | panicked c => exact hp.elim
   | outgrown => exact hp.elim
theorem roomM {i : Nat} {m : MM} (h : LoneM i m) (y : RowT) : sizeS (rcBM m) + piecesN (encR (rowRec y)).length ≤ 2048 := by
 have := pieces34 (rowRec_len y)
 have := h.rc
 unfold rcBM
 omega
theorem clientC_map (x : RepT) (o : OpT) (rc : List RecT) : clientC x o (rc.map encR) = (if doneB x o then rc else rc ++ [rowRec (cN x o).1]).map encR := by
 unfold clientC
 split <;> simp
theorem clientM0_does {c i : Nat} {a a' : CM} {to' key k e : Int} (hi : i < 5) (h : clientM a i ((OpT.mk 0 ((i : Nat) : Int) to' key k ChangeT.zero 0 0 0)) = some (a', e)) : Leg.Does Tryz.prog 10 #[(.pointer (some ⟨c, 0, none⟩)), (.agg (ints (OpT.mk 0 ((i : Nat) : Int) to' key k ChangeT.zero 0 0 0).flat).toArray)] (fun _ => True) [cluM c a] (Ret fun v H => v = .int .i64 e ∧ H = [cluM c a']) := by
 unfold clientM at h
 split at h
 · cases h
 rename_i hok
 obtain ⟨hms, hW⟩ := okCM_len (by simpa using hok)
 split at h
 · rename_i hu
   split at h
   · rename_i hl
     rw [Bool.and_eq_true] at hl
     have hL := loneB_is hl.1
     obtain ⟨rfl, rfl⟩ := Prod.mk.inj (Option.some.inj h)
     refine cm_up hi hu (by rw [atM_set (by omega)]; exact hu) (by rw [atM_set (by omega)]) (fun _ hx => atM_ne hx) fun g lg vr hM => ?_
     rw [atM_set (by omega)]
     refine Leg.Does.withinR (B := []) (doC0_does c g.n i (dV g) (mVM a g.r) g.p hi (g.d i) (g.r i) (rcBM (a.at' i)) rfl hM (frM a.W) (frM_len ..) to' key k lg (withL (a.at' i).x lg vr) (a.at' i).rs rfl (fun _ _ => roomM hL _) (Nat.le_trans hL.rs (by decide)) (by show machB (a.at' i).x.id = true; rw [hL.id]; exact machB_nat hi)) (fun _ _ _ _ => trivial) (fun h s => sep_selR [0, 1, 0, 0, 0, 0] rfl s) fun v H hp => ?_
     obtain ⟨rfl, v', _, rfl⟩ := hp
     rw [clientX_L, show clientC (withL (a.at' i).x lg vr) ((OpT.mk 0 ((i : Nat) : Int) to' key k ChangeT.zero 0 0 0)) (rcBM (a.at' i)) = clientC (a.at' i).x ((OpT.mk 0 ((i : Nat) : Int) to' key k ChangeT.zero 0 0 0)) (rcBM (a.at' i)) from rfl, clientC_map, show clientR (withL (a.at' i).x lg vr) ((OpT.mk 0 ((i : Nat) : Int) to' key k ChangeT.zero 0 0 0)) (a.at' i).rs = clientR (a.at' i).x ((OpT.mk 0 ((i : Nat) : Int) to' key k ChangeT.zero 0 0 0)) (a.at' i).rs from rfl, show clientO (withL (a.at' i).x lg vr) ((OpT.mk 0 ((i : Nat) : Int) to' key k ChangeT.zero 0 0 0)) = clientO (a.at' i).x ((OpT.mk 0 ((i : Nat) : Int) to' key k ChangeT.zero 0 0 0)) from rfl, frM_send hi _ hW (CleanS.client _ _)]
     exact ⟨_, fun h s => sep_selR [0, 1, 0, 0, 0, 0] rfl s, rfl, v', rfl⟩
   · cases h
 · cases h
theorem clientM1_does {c i : Nat} {a a' : CM} {to' key k e : Int} (hi : i < 5) (h : clientM a i ((OpT.mk 1 ((i : Nat) : Int) to' key k ChangeT.zero 0 0 0)) = some (a', e)) : Leg.Does Tryz.prog 10 #[(.pointer (some ⟨c, 0, none⟩)), (.agg (ints (OpT.mk 1 ((i : Nat) : Int) to' key k ChangeT.zero 0 0 0).flat).toArray)] (fun _ => True) [cluM c a] (Ret fun v H => v = .int .i64 e ∧ H = [cluM c a']) := by
 unfold clientM at h
 split at h
 · cases h
 rename_i hok
 obtain ⟨hms, hW⟩ := okCM_len (by simpa using hok)
 split at h
 · rename_i hu
   split at h
   · rename_i hl
     rw [Bool.and_eq_true] at hl
     have hL := loneB_is hl.1
     obtain ⟨rfl, rfl⟩ := Prod.mk.inj (Option.some.inj h)
     refine cm_up hi hu (by rw [atM_set (by omega)]; exact hu) (by rw [atM_set (by omega)]) (fun _ hx => atM_ne hx) fun g lg vr hM => ?_
     rw [atM_set (by omega)]
     refine Leg.Does.withinR (B := []) (doC1_does c g.n i (dV g) (mVM a g.r) g.p hi (g.d i) (g.r i) (rcBM (a.at' i)) rfl hM (frM a.W) (frM_len ..) to' key k lg (withL (a.at' i).x lg vr) (a.at' i).rs rfl (fun _ _ => roomM hL _) (Nat.le_trans hL.rs (by decide)) (by show machB (a.at' i).x.id = true; rw [hL.id]; exact machB_nat hi)) (fun _ _ _ _ => trivial) (fun h s => sep_selR [0, 1, 0, 0, 0, 0] rfl s) fun v H hp => ?_
     obtain ⟨rfl, v', _, rfl⟩ := hp
     rw [clientX_L, show clientC (withL (a.at' i).x lg vr) ((OpT.mk 1 ((i : Nat) : Int) to' key k ChangeT.zero 0 0 0)) (rcBM (a.at' i)) = clientC (a.at' i).x ((OpT.mk 1 ((i : Nat) : Int) to' key k ChangeT.zero 0 0 0)) (rcBM (a.at' i)) from rfl, clientC_map, show clientR (withL (a.at' i).x lg vr) ((OpT.mk 1 ((i : Nat) : Int) to' key k ChangeT.zero 0 0 0)) (a.at' i).rs = clientR (a.at' i).x ((OpT.mk 1 ((i : Nat) : Int) to' key k ChangeT.zero 0 0 0)) (a.at' i).rs from rfl, show clientO (withL (a.at' i).x lg vr) ((OpT.mk 1 ((i : Nat) : Int) to' key k ChangeT.zero 0 0 0)) = clientO (a.at' i).x ((OpT.mk 1 ((i : Nat) : Int) to' key k ChangeT.zero 0 0 0)) from rfl, frM_send hi _ hW (CleanS.client _ _)]
     exact ⟨_, fun h s => sep_selR [0, 1, 0, 0, 0, 0] rfl s, rfl, v', rfl⟩
   · cases h
 · cases h
theorem clientM2_does {c i : Nat} {a a' : CM} {to' key k e : Int} (hi : i < 5) (h : clientM a i ((OpT.mk 2 ((i : Nat) : Int) to' key k ChangeT.zero 0 0 0)) = some (a', e)) : Leg.Does Tryz.prog 10 #[(.pointer (some ⟨c, 0, none⟩)), (.agg (ints (OpT.mk 2 ((i : Nat) : Int) to' key k ChangeT.zero 0 0 0).flat).toArray)] (fun _ => True) [cluM c a] (Ret fun v H => v = .int .i64 e ∧ H = [cluM c a']) := by
 unfold clientM at h
 split at h
 · cases h
 rename_i hok
 obtain ⟨hms, hW⟩ := okCM_len (by simpa using hok)
 split at h
 · rename_i hu
   split at h
   · rename_i hl
     rw [Bool.and_eq_true] at hl
     have hL := loneB_is hl.1
     obtain ⟨rfl, rfl⟩ := Prod.mk.inj (Option.some.inj h)
     refine cm_up hi hu (by rw [atM_set (by omega)]; exact hu) (by rw [atM_set (by omega)]) (fun _ hx => atM_ne hx) fun g lg vr hM => ?_
     rw [atM_set (by omega)]
     refine Leg.Does.withinR (B := []) (doC2_does c g.n i (dV g) (mVM a g.r) g.p hi (g.d i) (g.r i) (rcBM (a.at' i)) rfl hM (frM a.W) (frM_len ..) to' key k lg (withL (a.at' i).x lg vr) (a.at' i).rs rfl (fun _ _ => roomM hL _) (Nat.le_trans hL.rs (by decide)) (by show machB (a.at' i).x.id = true; rw [hL.id]; exact machB_nat hi)) (fun _ _ _ _ => trivial) (fun h s => sep_selR [0, 1, 0, 0, 0, 0] rfl s) fun v H hp => ?_
     obtain ⟨rfl, v', _, rfl⟩ := hp
     rw [clientX_L, show clientC (withL (a.at' i).x lg vr) ((OpT.mk 2 ((i : Nat) : Int) to' key k ChangeT.zero 0 0 0)) (rcBM (a.at' i)) = clientC (a.at' i).x ((OpT.mk 2 ((i : Nat) : Int) to' key k ChangeT.zero 0 0 0)) (rcBM (a.at' i)) from rfl, clientC_map, show clientR (withL (a.at' i).x lg vr) ((OpT.mk 2 ((i : Nat) : Int) to' key k ChangeT.zero 0 0 0)) (a.at' i).rs = clientR (a.at' i).x ((OpT.mk 2 ((i : Nat) : Int) to' key k ChangeT.zero 0 0 0)) (a.at' i).rs from rfl, show clientO (withL (a.at' i).x lg vr) ((OpT.mk 2 ((i : Nat) : Int) to' key k ChangeT.zero 0 0 0)) = clientO (a.at' i).x ((OpT.mk 2 ((i : Nat) : Int) to' key k ChangeT.zero 0 0 0)) from rfl, frM_send hi _ hW (CleanS.client _ _)]
     exact ⟨_, fun h s => sep_selR [0, 1, 0, 0, 0, 0] rfl s, rfl, v', rfl⟩
   · cases h
 · cases h
end Go.Proofs.YtohmkchalilodaaGreatDoor
end

section
namespace Go.Proofs.YtohmkchalilodaaGreatDoor
open Go Leg Codec Api Dsk Wal
theorem lenTo_frM (W : List (List MsgT)) : ∀ k, k ≤ 25 → lenTo (frM W) k = lenMW W k
 | 0, _ => rfl
 | k + 1, h => by
  rw [lenTo_succ, lenMW_succ, lenTo_frM W k (by omega), frM_at W (by omega), List.length_map]
theorem lenM_small {d : CM} (h : okLM d = true) : ∀ k, k < 25 → lenTo (frM d.W) k + ((frM d.W).getD k []).length ≤ 1000000000 := fun k hk => by
 rw [lenTo_frM d.W k (by omega), frM_at d.W hk, List.length_map]
 have h1 := lenMW_le h k
 have h2 := okLM_at h k
 omega
theorem lenM_is {d : CM} {m : Nat} (h : lenM d = some m) : okLM d = true ∧ m = lenMW d.W 25 := by
 unfold lenM at h
 split at h
 · rename_i ho
   exact ⟨ho, (Option.some.inj h).symm⟩
 · cases h
theorem sweepM_does {c : Nat} {a fin : CM} (h : sweepG stepM (5 - 0) 0 a = some fin) :
 Leg.Does Tryz.prog 32 #[(.pointer (some ⟨c, 0, none⟩))] (fun _ => True) [cluM c (a)] (Ret (fun _ H => H = [cluM c fin])) := by
 refine Leg.Does.body (n := 20) Tryz.func32 rfl rfl rfl (fun w0 F hF => sr fun _ J1 => PS ?_)
 refine nx J1 (TC.block ?_)
 refine TC.loop (α := (Nat) × (CM)) (fun ⟨i, b⟩ => i ≤ 5 ∧ sweepG stepM (5 - i) i b = some fin) (fun ⟨i, b⟩ => [(0, (.pointer (some ⟨c, 0, none⟩))), (4, (.int .i64 (((i : Nat) : Int))))]) (fun ⟨i, b⟩ => [cluM c (b)]) (fun ⟨i, b⟩ => 5 - i) (0, a)
  ⟨Nat.zero_le _, h⟩ SB
  (fun _ s => s) (fun ⟨i, b⟩ hinv => ?_)
 obtain ⟨hi, hs⟩ := hinv
 refine sr fun _ J2 => PS ?_
 refine TL.dec (fun h5 => ?_) (fun h5 => ?_)
 obtain ⟨b3, hr0, hs2⟩ := sweepG_step (by omega) hs
 refine nx J2 (TC.seq fun _ J3 => CY (CX J3 (TC.seq fun _ J4 => TC.block (sr fun _ J5 => PS ?_))))
 refine PS ?_
 refine nx J5 (sr fun _ J6 => PS ?_)
 refine nx J6 (TC.block ?_)
 refine TC.loop (α := (Nat) × (CM)) (fun ⟨j, b2⟩ => j ≤ 5 ∧ rowsG stepM i (5 - j) j b2 = some b3) (fun ⟨j, b2⟩ => [(0, (.pointer (some ⟨c, 0, none⟩))), (2, (.int .i64 (((i : Nat) : Int)))), (4, (.int .i64 (((i : Nat) : Int)))), (7, (.int .i64 (((j : Nat) : Int))))]) (fun ⟨j, b2⟩ => [cluM c (b2)]) (fun ⟨j, b2⟩ => 5 - j) (0, b)
  ⟨Nat.zero_le _, hr0⟩ SB
  (fun _ s => s) (fun ⟨j, b2⟩ hinv => ?_)
 obtain ⟨hj, hr⟩ := hinv
 refine sr fun _ J7 => PS ?_
 refine TL.dec (fun h8 => ?_) (fun h8 => ?_)
 obtain ⟨b4, hw, hr2⟩ := rowsG_step (by omega) hr
 refine nx J7 (TC.seq fun _ J8 => CY (CX J8 (TC.seq fun _ J9 => TC.block (sr fun _ J10 => PS ?_))))
 refine PS ?_
 refine nx J10 (sr fun _ J11 => ?_)
 iterate 3 refine PS ?_
 refine TL.dec (fun h12 => ?_) (fun h12 => ?_)
 have hij : i ≠ j := by omega
 refine nx J11 (CY (TC.region ?_))
 iterate 3 refine PS ?_
 refine tp (PV.buildSegs (cs := ints (OpT.mk 5 ((i : Nat) : Int) ((j : Nat) : Int) 0 0 ChangeT.zero 0 0 0).flat) (segs := OZ) (res := [[Value.int .i64 5], [Value.int .i64 ((i : Nat) : Int)], [Value.int .i64 ((j : Nat) : Int)], [Value.int .i64 0], [Value.int .i64 0], ints ChangeT.zero.flat, [Value.int .i64 0], [Value.int .i64 0], [Value.int .i64 0]]) (parts := [(0, [Value.int .i64 5]), (1, [Value.int .i64 ((i : Nat) : Int)]), (2, [Value.int .i64 ((j : Nat) : Int)])]) rfl rfl Y30 (by kernel_rfl) (by kernel_rfl) rfl (putSegs_step rfl rfl (putSegs_step rfl rfl (putSegs_step rfl rfl putSegs_nil))) (OpT.eq (OpT.mk 5 ((i : Nat) : Int) ((j : Nat) : Int) 0 0 ChangeT.zero 0 0 0)).symm) ?_
 refine CR nm10 (stepM_does (by omega) (by omega) hij (wayG_step hij hw)) (fun _ s => s) fun vR HR hR => ?_
 obtain ⟨⟨e, rfl⟩, rfl⟩ := hR
 refine TL.nil (TE.blockEnd (TE.next J9 (TC.region (AD ?_))))
 refine PS ?_
 refine TL.nil ?_
 exact TE.round ((j + 1, b4) : (Nat) × (CM)) ⟨by omega, hr2⟩ (by show 5 - (j + 1) < 5 - j; omega)
  SB
  (fun _ s => s)
 obtain rfl := wayG_same (by omega) hw
 refine nx J11 (CN (TC.skip (TE.blockEnd (TE.next J9 (TC.region (AD ?_))))))
 refine PS ?_
 refine TL.nil ?_
 exact TE.round ((j + 1, b2) : (Nat) × (CM)) ⟨by omega, hr2⟩ (by show 5 - (j + 1) < 5 - j; omega)
  SB
  (fun _ s => s)
 refine nx J7 (TC.seq fun _ J12 => CN (TC.exit (TE.pass (TE.pass (TE.hit (TE.blockEnd (TE.next J4 (TC.region (AD ?_)))))))))
 refine PS ?_
 refine TL.nil ?_
 exact TE.round ((i + 1, b2) : (Nat) × (CM)) ⟨by omega, by rw [rowsG_last (by omega) hr]; exact hs2⟩ (by show 5 - (i + 1) < 5 - i; omega)
  SB
  (fun _ s => s)
 exact nx J2 (TC.seq fun _ J13 => CN (TC.exit (TE.pass (TE.pass (TE.hit (TE.weak (H' := [cluM c fin]) (Sub.refl _) (fun _ s => by rw [← sweepG_last (by omega) hs]; exact s) (TE.end0 rfl rfl)))))))
theorem settleM_does {c : Nat} {a fin : CM} (rounds : Nat) (hrd : rounds ≤ 1000) (h : settleG tickM stepM lenM (rounds - 0) a = some fin) :
 Leg.Does Tryz.prog 11 #[(.pointer (some ⟨c, 0, none⟩)), (.int .i64 (((rounds : Nat) : Int)))] (fun _ => True) [cluM c (a)] (Ret (fun _ H => H = [cluM c fin])) := by
 refine Leg.Does.body (n := 36) Tryz.func11 rfl rfl rfl (fun w0 F hF => TC.seq fun _ J1 => sr fun _ J2 => PS ?_)
 refine tp (PV.ptrNil rfl Y23 rfl rfl) ?_
 refine nx J2 (CN (CX J1 (sr fun _ J3 => PS ?_)))
 refine nx J3 (TC.block ?_)
 refine TC.loop (α := (Nat) × (CM)) (fun ⟨m, b⟩ => m ≤ rounds ∧ settleG tickM stepM lenM (rounds - m) b = some fin) (fun ⟨m, b⟩ => [(0, (.pointer (some ⟨c, 0, none⟩))), (1, (.int .i64 (((rounds : Nat) : Int)))), (4, (.int .i64 (((m : Nat) : Int))))]) (fun ⟨m, b⟩ => [cluM c (b)]) (fun ⟨m, b⟩ => rounds - m) (0, a)
  ⟨Nat.zero_le _, h⟩ SB
  (fun _ s => s) (fun ⟨m, b⟩ hinv => ?_)
 obtain ⟨hm, hs⟩ := hinv
 refine TC.seq fun _ J4 => sr fun _ J5 => ?_
 iterate 3 refine PS ?_
 refine TL.dec (fun h11 => ?_) (fun h11 => ?_)
 obtain ⟨b1, b2, ht1, hw1, hs2⟩ := settleG_step (by omega) hs
 refine nx J5 (CY (CX J4 (TC.seq fun _ J6 => TC.block (TC.seq fun _ J7 => sr fun _ J8 => PS ?_))))
 refine nx J8 (TC.block ?_)
 refine TC.loop (α := (Nat) × (CM)) (fun ⟨i, d⟩ => i ≤ 5 ∧ ticksG tickM (5 - i) i d = some b1) (fun ⟨i, d⟩ => [(0, (.pointer (some ⟨c, 0, none⟩))), (1, (.int .i64 (((rounds : Nat) : Int)))), (4, (.int .i64 (((m : Nat) : Int)))), (14, (.int .i64 (((i : Nat) : Int))))]) (fun ⟨i, d⟩ => [cluM c (d)]) (fun ⟨i, d⟩ => 5 - i) (0, b)
  ⟨Nat.zero_le _, ht1⟩ SB
  (fun _ s => s) (fun ⟨i, d⟩ hinv => ?_)
 obtain ⟨hi, ht0⟩ := hinv
 refine sr fun _ J9 => PS ?_
 refine TL.dec (fun h15 => ?_) (fun h15 => ?_)
 obtain ⟨d2, ht, ht2⟩ := ticksG_step (by omega) ht0
 refine nx J9 (TC.seq fun _ J10 => CY (CX J10 (TC.seq fun _ J11 => TC.block (sr fun _ J12 => PS ?_))))
 refine PS ?_
 refine nx J12 (TC.region (PS ?_))
 refine PS ?_
 refine tp (PV.buildSegs (cs := ints (OpT.mk 8 ((i : Nat) : Int) 0 0 0 ChangeT.zero 0 0 0).flat) (segs := OZ) (res := [[Value.int .i64 8], [Value.int .i64 ((i : Nat) : Int)], [Value.int .i64 0], [Value.int .i64 0], [Value.int .i64 0], ints ChangeT.zero.flat, [Value.int .i64 0], [Value.int .i64 0], [Value.int .i64 0]]) (parts := [(0, [Value.int .i64 8]), (1, [Value.int .i64 ((i : Nat) : Int)])]) rfl rfl Y30 (by kernel_rfl) (by kernel_rfl) rfl (putSegs_step rfl rfl (putSegs_step rfl rfl putSegs_nil)) (OpT.eq (OpT.mk 8 ((i : Nat) : Int) 0 0 0 ChangeT.zero 0 0 0)).symm) ?_
 refine CR nm10 (tickM_does (by omega) ht) (fun _ s => s) fun vR HR hR => ?_
 obtain ⟨⟨e, rfl⟩, rfl⟩ := hR
 refine TL.nil (TE.blockEnd (TE.next J11 (TC.region (AD ?_))))
 refine PS ?_
 refine TL.nil ?_
 exact TE.round ((i + 1, d2) : (Nat) × (CM)) ⟨by omega, ht2⟩ (by show 5 - (i + 1) < 5 - i; omega)
  SB
  (fun _ s => s)
 refine nx J9 (TC.seq fun _ J13 => CN (TC.exit (TE.pass (TE.pass (TE.hit (TE.next J7 (sr fun _ J14 => PS ?_)))))))
 refine nx J14 (TC.block ?_)
 refine TC.loop (α := (Nat) × (CM)) (fun ⟨k, d⟩ => k ≤ 400 ∧ sweepsG stepM lenM (400 - k) d = some b2) (fun ⟨k, d⟩ => [(0, (.pointer (some ⟨c, 0, none⟩))), (1, (.int .i64 (((rounds : Nat) : Int)))), (4, (.int .i64 (((m : Nat) : Int)))), (6, (.int .i64 (((k : Nat) : Int))))]) (fun ⟨k, d⟩ => [cluM c (d)]) (fun ⟨k, d⟩ => 400 - k) (0, d)
  ⟨Nat.zero_le _, by rw [ticksG_last (by omega) ht0]; exact hw1⟩ SB
  (fun _ s => s) (fun ⟨k, d⟩ hinv => ?_)
 obtain ⟨hk, hw0⟩ := hinv
 refine TC.seq fun _ J15 => sr fun _ J16 => PS ?_
 refine PS ?_
 refine TL.dec (fun h23 => ?_) (fun h23 => ?_)
 obtain ⟨ln, hln, hz, hnz⟩ := sweepsG_step (by omega) hw0
 have hol := (lenM_is hln).1
 have hle := (lenM_is hln).2
 iterate 3 refine PS ?_
 refine FA 0 Y56 sz49 ?_
 refine TL.ex (H' := fun g : CG => [blkA c (clC g.n (dV g) (mVM d g.r) g.p) 56, netP 106 169 5 g.n (frM d.W), sep ((List.range 5).map fun i => machPM (d.at' i) (g.d i) (g.r i) (g.p i))]) (fun _ s => sep_open s) (fun g => tq (PV.load1 (v := (.pointer (some ⟨g.n, 0, none⟩))) rfl Y49 rfl rfl (RO 0) (cl_n g.n (dV g) (mVM d g.r) g.p)) ?_)
 refine CE nm31 (netLen_does g.n (frM d.W) (lenM_small hol)) (SM [1]) ?_
 change TL _ _ _ _ _ _ _ _ _ [netP 106 169 5 g.n (frM d.W), blkA c (clC g.n (dV g) (mVM d g.r) g.p) 56, sep ((List.range 5).map fun i => machPM (d.at' i) (g.d i) (g.r i) (g.p i))]
 refine TL.mono (H' := [cluM c (d)]) (fun _ s => sep_close (p := cluLM c d) (H := []) g (sep_selR [1, 0, 0] rfl s)) (PS ?_)
 refine TL.dec (fun h30 => ?_) (fun h30 => ?_)
 rw [lenTo_frM d.W 25 (Nat.le_refl _)] at h30
 obtain ⟨d2, hw, hw2⟩ := hnz (by omega)
 refine PS ?_
 refine nx J16 (CY (CX J15 (TC.seq fun _ J17 => TC.block (TC.region (PS ?_)))))
 refine CZ nm32 (sweepM_does hw) (fun _ s => s) fun vR => ?_
 refine TL.nil (TE.blockEnd (TE.next J17 (TC.region (PS ?_))))
 refine AD ?_
 refine PS ?_
 refine TL.nil ?_
 exact TE.round ((k + 1, d2) : (Nat) × (CM)) ⟨by omega, hw2⟩ (by show 400 - (k + 1) < 400 - k; omega)
  SB
  (fun _ s => s)
 rw [lenTo_frM d.W 25 (Nat.le_refl _)] at h30
 have hd := hz (by omega)
 refine PS ?_
 refine nx J16 (CN (TC.exit (TE.pass (TE.pass (TE.hit (TE.blockEnd (TE.next J6 (TC.region (PS ?_)))))))))
 refine AD ?_
 refine PS ?_
 refine TL.nil ?_
 exact TE.round ((m + 1, d) : (Nat) × (CM)) ⟨by omega, by rw [hd]; exact hs2⟩ (by show rounds - (m + 1) < rounds - m; omega)
  SB
  (fun _ s => s)
 have hd := sweepsG_last (by omega) hw0
 refine PS ?_
 iterate 6 refine UF ?_
 refine PS ?_
 refine nx J16 (CN (TC.exit (TE.pass (TE.pass (TE.hit (TE.blockEnd (TE.next J6 (TC.region (PS ?_)))))))))
 refine AD ?_
 refine PS ?_
 refine TL.nil ?_
 exact TE.round ((m + 1, d) : (Nat) × (CM)) ⟨by omega, by rw [hd]; exact hs2⟩ (by show rounds - (m + 1) < rounds - m; omega)
  SB
  (fun _ s => s)
 exact nx J5 (CN (TC.exit (TE.pass (TE.pass (TE.hit (TE.weak (H' := [cluM c fin]) (Sub.refl _) (fun _ s => by rw [← settleG_last (by omega) hs]; exact s) (TE.end0 rfl rfl)))))))
end Go.Proofs.YtohmkchalilodaaGreatDoor
end

section
namespace Go.Proofs.YtohmkchalilodaaGreatDoor
open Go Leg Codec Api Dsk Wal
theorem dkNew_does : Leg.Does Tryz.prog 21 #[] (fun _ => True) [] (Ret (fun r' H => ∃ d, r' = .pointer (some ⟨d, 0, none⟩) ∧ H = [dkL d []])) :=
 Leg.Does.fold dk_new fun e H hp => by
  cases e with
  | returned v =>
   obtain ⟨d, rfl, rfl⟩ := hp
   exact ⟨[dkL d []], fun _ s => sep_close (p := fun D : { D : DS // LogD D [] ∧ D.dn = false ∧ D.ar = false } => [dk d D.1]) (H := []) ⟨DS.new, LogD.new, rfl, rfl⟩ s, d, rfl, rfl⟩
  | panicked c => exact hp.elim
  | outgrown => exact hp.elim
def dI (i : Nat) (d : Nat → Nat) : Nat → Value := fun j => if j < i then .pointer (some ⟨d j, 0, none⟩) else .pointer none
def noP : Nat → Value := fun _ => .slice none 0 0
theorem dI_upd (i : Nat) (d : Nat → Nat) (x : Nat) : upd (dI i d) i (.pointer (some ⟨x, 0, none⟩)) = dI (i + 1) (upd d i x) := funext fun j => by
 unfold dI upd
 by_cases hj : j = i
 · subst hj; simp
 · rw [if_neg hj, if_neg hj]
   show (if j < i then _ else _) = _
   by_cases h : j < i
   · rw [if_pos h, if_pos (by omega)]
   · rw [if_neg h, if_neg (by omega)]
theorem clC_congr {n : Nat} {D M P D' M' P' : Nat → Value} (h1 : ∀ i, i < 5 → D i = D' i) (h2 : ∀ i, i < 5 → M i = M' i) (h3 : ∀ i, i < 5 → P i = P' i) : clC n D M P = clC n D' M' P' := by
 unfold clC
 rw [List.map_congr_left (fun i hi => h1 i (List.mem_range.1 hi)), List.map_congr_left (fun i hi => h2 i (List.mem_range.1 hi)), List.map_congr_left (fun i hi => h3 i (List.mem_range.1 hi))]
theorem range_add {f g : Nat → HP} {i : Nat} (hg : ∀ j, j < i → g j = f j) {H : List HP} {h : Hl} (s : sep (g i :: sep ((List.range i).map f) :: H) h) : sep (sep ((List.range (i + 1)).map g) :: H) h := by
 have e : (List.range (i + 1)).map g = (List.range i).map f ++ [g i] := by
  rw [List.range_succ, List.map_append, List.map_congr_left (fun j hj => hg j (List.mem_range.1 hj))]; rfl
 rw [e]
 obtain ⟨h1, h2, d, rfl, a, b⟩ := s
 have s2 : sep ((g i :: (List.range i).map f) ++ H) (jn h1 h2) := ⟨h1, h2, d, rfl, a, (sep_append _ _).2 b⟩
 exact (sep_append _ _).1 (sep_perm ((List.perm_append_comm (l₁ := [g i])).append_right H) s2)
abbrev newM (q : Nat) (k : Int) (d r : Nat → Nat) (j : Nat) : HP := machP q k j .new (d j) (r j) (.slice none 0 0)
theorem new_add {q : Nat} {k : Int} {d r : Nat → Nat} {i x y lg : Nat} {X Y : HP} {h : Hl} (s : sep [blkA y (RepT.cells (newRep ((i : Nat) : Int) lg)) 95, lgL lg x [], dkL x [], X, Y, sep ((List.range i).map (newM q k d r))] h) : sep [X, Y, sep ((List.range (i + 1)).map (newM q k (upd d i x) (upd r i y)))] h := by
 have s1 := own_none 45 3 s
 have s2 := sep_close (p := runU q k i .new x y) (H := [dkL x [], X, Y, sep ((List.range i).map (newM q k d r))]) (lg, .slice none 0 0) (sep_selR [1, 1, 0, 0, 0, 0, 0] rfl s1)
 have s3 := own_none 45 3 s2
 have s4 := (sep_append (machU q k i .new x y (.slice none 0 0)) [sep ((List.range i).map (newM q k d r)), X, Y]).1 (sep_selR [2, 0, 0, 2, 0, 0] rfl s3)
 have e : newM q k (upd d i x) (upd r i y) i = sep (machU q k i .new x y (.slice none 0 0)) := by
  unfold newM machP
  rw [upd_same, upd_same]
 have s5 := range_add (i := i) (f := newM q k d r) (g := newM q k (upd d i x) (upd r i y)) (H := [X, Y]) (fun j hj => by unfold newM; rw [upd_ne d x (show j ≠ i by omega), upd_ne r y (show j ≠ i by omega)]) (by rw [e]; exact s4)
 exact sep_selR [1, 1, 0] rfl s5
theorem new_all {q : Nat} {k : Int} {c n : Nat} {d r : Nat → Nat} {h : Hl} (s : sep [blkA c (clC n (dI 5 d) (dI 5 r) noP) 56, netP 106 169 5 n (List.replicate 25 []), sep ((List.range 5).map (newM q k d r))] h) : sep [cluP q k c .new] h := by
 have e1 : clC n (dV ⟨n, d, r, noP⟩) (mV .new r) noP = clC n (dI 5 d) (dI 5 r) noP := clC_congr (fun i hi => by unfold dI; rw [if_pos hi]) (fun i hi => by
  unfold dI mV
  rw [if_pos hi]
  match i, hi with
  | 0, _ | 1, _ | 2, _ | 3, _ | 4, _ => rfl) (fun _ _ => rfl)
 have e2 : (List.range 5).map (fun i => machP q k i (AS.new.at' i) (d i) (r i) (noP i)) = (List.range 5).map (newM q k d r) := List.map_congr_left fun i hi => by
  rw [List.mem_range] at hi
  match i, hi with
  | 0, _ | 1, _ | 2, _ | 3, _ | 4, _ => rfl
 have e3 : frW q k AS.new.W = List.replicate 25 [] := rfl
 refine sep_close (p := cluL q k c .new) (H := []) ⟨n, d, r, noP⟩ ?_
 unfold cluL
 rw [e1, e2, e3]
 exact s
theorem cluNew_does (q : Nat) (k : Int) :
 Leg.Does Tryz.prog 9 #[] (fun _ => True) [] (Ret (fun v H => ∃ c, v = .pointer (some ⟨c, 0, none⟩) ∧ H = [cluP q k c .new])) := by
 refine Leg.Does.body (n := 33) Tryz.func9 rfl rfl rfl (fun w0 F hF => sr fun _ J1 => PS ?_)
 refine nx J1 (sr fun _ J2 => CR nm20 (netNew_does) (fun _ s => s) fun vR HR hR => ?_)
 obtain ⟨n, rfl, rfl⟩ := hR
 refine tp (PV.build (cells := #[(.pointer (some ⟨n, 0, none⟩)), (.pointer none), (.pointer none), (.pointer none), (.pointer none), (.pointer none), (.pointer none), (.pointer none), (.pointer none), (.pointer none), (.pointer none), (.slice none 0 0), (.slice none 0 0), (.slice none 0 0), (.slice none 0 0), (.slice none 0 0)]) rfl rfl (by as_aux_lemma => kernel_rfl)) ?_
 refine XB fun b5 => ?_
 refine PS ?_
 refine nx J2 (TC.seq fun _ J3 => sr fun _ J4 => PS ?_)
 refine nx J4 (TC.block ?_)
 refine TC.loop (α := (Nat) × (Nat → Nat) × (Nat → Nat)) (fun ⟨i, d, r⟩ => i ≤ 5) (fun ⟨i, d, r⟩ => [(0, (.pointer none)), (1, (.pointer (some ⟨b5, 0, none⟩))), (6, (.int .i64 (((i : Nat) : Int))))]) (fun ⟨i, d, r⟩ => [blkA b5 (clC n (dI i d) (dI i r) noP) 56, netP 106 169 5 n (List.replicate 25 []), sep ((List.range i).map (newM q k d r))]) (fun ⟨i, d, r⟩ => 5 - i) (0, fun _ => 0, fun _ => 0)
  (Nat.zero_le _) SB
  (fun _ s => sep_selR [1, 1, 0] rfl (true_piece s)) (fun ⟨i, d, r⟩ hinv => ?_)
 obtain hi := hinv
 refine sr fun _ J5 => PS ?_
 refine TL.dec (fun h7 => ?_) (fun h7 => ?_)
 have hlt : i < 5 := by omega
 refine nx J5 (TC.seq fun _ J6 => CY (CX J6 (TC.seq fun _ J7 => TC.block (sr fun _ J8 => PS ?_))))
 refine PS ?_
 refine nx J8 (TC.seq fun _ J9 => D0 mixedD ?_)
 refine PD 0 ?_
 refine PD 1 ?_
 refine PD 3 ?_
 refine FD 4 1 Y56 sz52 ?_
 refine AL 2 ?_
 refine CR nm21 (dkNew_does) (fun _ s => s) fun vR HR hR => ?_
 obtain ⟨dn, rfl, rfl⟩ := hR
 refine TL.nil (E0 (ta 5 rfl (PV.indexArr (r := 1 + i) rfl Y52 sz51 rfl rfl (by omega) (by omega) (by omega)) ?_))
 refine AL 6 ?_
 refine TL.store1 (i := 1) (Want.plain rfl) rfl rfl rfl rfl rfl sz51 rfl rfl (by rw [cl_len]; omega) (cl_setd n (dI i d) (dI i r) noP (.pointer (some ⟨dn, 0, none⟩)) hlt) rfl (TL.nil (E0 (DN (TE.next J9 (D0 mixedD ?_)))))
 refine PD 0 ?_
 refine PD 1 ?_
 refine PD 2 ?_
 refine PD 3 ?_
 refine PD 4 ?_
 refine PD 5 ?_
 refine FD 6 1 Y56 sz52 ?_
 refine ta 7 rfl (PV.indexArr (r := 1 + i) rfl Y52 sz51 rfl rfl (by omega) (by omega) (by omega)) ?_
 refine PD 13 ?_
 refine FD 14 6 Y56 sz53 ?_
 refine AL 8 ?_
 refine tp (PV.load1 (v := (.pointer (some ⟨dn, 0, none⟩))) rfl Y51 rfl rfl (RO 1) ((cl_d n (upd (dI i d) i (.pointer (some ⟨dn, 0, none⟩))) (dI i r) noP hlt).trans (congrArg some (upd_same (dI i d) i _)))) ?_
 refine TL.nil (E0 (AL 9 ?_))
 refine CR nm22 (start0_does ((i : Nat) : Int) dn) (fun _ s => s) fun vR HR hR => ?_
 obtain ⟨rn, lg, rfl, rfl⟩ := hR
 refine TL.nil (E0 (PD 10 ?_))
 refine ta 11 rfl (PV.extract (vs := [(.pointer (some ⟨rn, 0, none⟩)), (.int .i64 0)]) rfl rfl rfl) ?_
 refine ta 12 rfl (PV.extract (vs := [(.pointer (some ⟨rn, 0, none⟩)), (.int .i64 0)]) rfl rfl rfl) ?_
 refine ta 15 rfl (PV.indexArr (r := 6 + i) rfl Y53 sz36 rfl rfl (by omega) (by omega) (by omega)) ?_
 refine AL 16 ?_
 refine TL.store1 (i := 3) (Want.plain rfl) rfl rfl rfl rfl rfl sz36 rfl rfl (by rw [cl_len]; omega) (cl_setm n (upd (dI i d) i (.pointer (some ⟨dn, 0, none⟩))) (dI i r) noP (.pointer (some ⟨rn, 0, none⟩)) hlt) rfl (TL.nil (E0 (DN (TE.blockEnd (TE.next J7 (TC.region (AD ?_)))))))
 refine PS ?_
 refine TL.nil ?_
 exact TE.round ((i + 1, upd d i dn, upd r i rn) : (Nat) × (Nat → Nat) × (Nat → Nat)) (by omega) (by show 5 - (i + 1) < 5 - i; omega)
  SB
  (fun _ s => by
   show sep [blkA b5 (clC n (dI (i + 1) (upd d i dn)) (dI (i + 1) (upd r i rn)) noP) 56, _, _] _
   rw [← dI_upd, ← dI_upd]
   exact new_add (sep_selR [0, 0, 0, 0, 0, 0] rfl s))
 refine nx J5 (TC.seq fun _ J10 => CN (TC.exit (TE.pass (TE.pass (TE.hit (TE.next J3 (sr fun _ J11 => PS ?_)))))))
 refine PS ?_
 exact nx J11 (TC.ret (TE.weak (H' := [cluP q k b5 .new]) (Sub.refl _) (fun _ s => by have h5 : i = 5 := (by omega); subst h5; exact new_all s) (TE.ret1 rfl rfl ⟨b5, rfl, rfl⟩)))
end Go.Proofs.YtohmkchalilodaaGreatDoor
end

section
namespace Go.Proofs.YtohmkchalilodaaGreatDoor
open Go Leg Codec Api Dsk Wal
theorem perm_midM {α : Type} (A B C : List α) : ((A ++ B) ++ C).Perm ((A ++ C) ++ B) := by
 rw [List.append_assoc, List.append_assoc]
 exact List.Perm.append_left _ List.perm_append_comm
theorem new_plain {q : Nat} {k : Int} {c : Nat} {h : Hl} (s : sep [cluP q k c .new] h) : sep [cluM c .new] h := by
 obtain ⟨g, s⟩ := sep_open s
 have e1 : (List.range 5).map (fun i => machP q k i (AS.new.at' i) (g.d i) (g.r i) (g.p i)) = (List.range 5).map (fun i => machPM (CM.new.at' i) (g.d i) (g.r i) (g.p i)) := List.map_congr_left fun i hi => by
  rw [List.mem_range] at hi
  match i, hi with
  | 0, _ | 1, _ | 2, _ | 3, _ | 4, _ => rfl
 have e2 : clC g.n (dV g) (mV .new g.r) g.p = clC g.n (dV g) (mVM .new g.r) g.p := clC_congr (fun _ _ => rfl) (fun i hi => by
  match i, hi with
  | 0, _ | 1, _ | 2, _ | 3, _ | 4, _ => rfl) (fun _ _ => rfl)
 have e3 : frW q k AS.new.W = frM CM.new.W := rfl
 unfold cluL at s
 rw [e1, e2, e3] at s
 exact sep_close (p := cluLM c .new) (H := []) g s
theorem cluNewM_does : Leg.Does Tryz.prog 9 #[] (fun _ => True) [] (Ret (fun v H => ∃ c, v = .pointer (some ⟨c, 0, none⟩) ∧ H = [cluM c .new])) :=
 Leg.Does.fold (cluNew_does 0 0) fun e H hp => by
  cases e with
  | returned v => obtain ⟨c, rfl, rfl⟩ := hp; exact ⟨_, fun _ s => new_plain s, c, rfl, rfl⟩
  | panicked c => exact hp.elim
  | outgrown => exact hp.elim
abbrev seeLM (c : Nat) (a : CM) (i : Nat) (g : CG) (x : Nat × Value) : List HP := [blkA c (clC g.n (dV g) (mVM a g.r) g.p) 56, netP 106 169 5 g.n (frM a.W), dkL (g.d i) (rcBM (a.at' i)), ownR (g.p i) (a.at' i).pl] ++ runUM (a.at' i) (g.d i) (g.r i) x
def cluSM (c : Nat) (a : CM) (g : CG) : HP := sep (cluLM c a g)
section
variable {f : FuncId} {args : Array Value} {c i : Nat} {a : CM} {g : CG}
theorem seeM_open (hi : i < 5) (hu : (a.at' i).up = true) {h : Hl} (s : sep [cluSM c a g] h) : ∃ x, sep (seeLM c a i g x ++ [sep (((List.range 5).map fun i => machPM (a.at' i) (g.d i) (g.r i) (g.p i)).eraseIdx i)]) h := by
 have s0 : sep (cluLM c a g ++ []) h := (sep_append _ _).2 s
 have s2 := range_open (f := fun i => machPM (a.at' i) (g.d i) (g.r i) (g.p i)) hi (sep_selR [2, 0, 0] rfl s0)
 have s3 := (sep_append (machUM (a.at' i) (g.d i) (g.r i) (g.p i)) _).2 s2
 have e1 : runPM (a.at' i) (g.d i) (g.r i) = pack (runUM (a.at' i) (g.d i) (g.r i)) := if_pos hu
 unfold machUM at s3
 rw [e1] at s3
 obtain ⟨x, s4⟩ := sep_open (sep_selR [2, 0, 0, 0, 0, 0] rfl s3)
 exact ⟨x, sep_selR [6, 6, 3, 3, 0, 0, 0, 0] rfl s4⟩
theorem seeM_shut (hi : i < 5) (hu : (a.at' i).up = true) {x : Nat × Value} {h : Hl} (s : sep (seeLM c a i g x ++ [sep (((List.range 5).map fun i => machPM (a.at' i) (g.d i) (g.r i) (g.p i)).eraseIdx i)]) h) : sep [cluSM c a g] h := by
 have e1 : runPM (a.at' i) (g.d i) (g.r i) = pack (runUM (a.at' i) (g.d i) (g.r i)) := if_pos hu
 have s1 := sep_close (p := runUM (a.at' i) (g.d i) (g.r i)) (H := [dkL (g.d i) (rcBM (a.at' i)), ownR (g.p i) (a.at' i).pl, sep (((List.range 5).map fun i => machPM (a.at' i) (g.d i) (g.r i) (g.p i)).eraseIdx i), blkA c (clC g.n (dV g) (mVM a g.r) g.p) 56, netP 106 169 5 g.n (frM a.W)]) x (sep_selR [4, 4, 4, 2, 2, 2, 0, 0] rfl s)
 rw [← e1] at s1
 have s2 := (sep_append (machUM (a.at' i) (g.d i) (g.r i) (g.p i)) _).1 (sep_selR [1, 1, 0, 0, 0, 0] rfl s1)
 have s3 := range_shut (f := fun i => machPM (a.at' i) (g.d i) (g.r i) (g.p i)) (g := fun i => machPM (a.at' i) (g.d i) (g.r i) (g.p i)) hi (fun _ _ => rfl) s2
 exact (sep_append (cluLM c a g) []).1 (sep_selR [1, 1, 0] rfl s3)
theorem cm_see {Q : Value → List HP → Prop} (hi : i < 5) (hu : (a.at' i).up = true) (core : ∀ x, Leg.Does Tryz.prog f args (fun _ => True) (seeLM c a i g x) (Ret fun v H => ∃ X, Q v X ∧ H = seeLM c a i g x ++ X)) :
 Leg.Does Tryz.prog f args (fun _ => True) [cluSM c a g] (Ret fun v H => ∃ X, Q v X ∧ H = cluSM c a g :: X) := by
 refine Leg.Does.ex (A' := fun x => seeLM c a i g x ++ [sep (((List.range 5).map fun i => machPM (a.at' i) (g.d i) (g.r i) (g.p i)).eraseIdx i)]) (fun h s => seeM_open hi hu s) fun x => ?_
 refine Leg.Does.withinR (core x) (fun _ _ _ _ => trivial) (fun h s => s) fun v H hp => ?_
 obtain ⟨X, hQ, rfl⟩ := hp
 refine ⟨_, fun h s => ?_, X, hQ, rfl⟩
 have p := perm_midM (seeLM c a i g x) X [sep (((List.range 5).map fun i => machPM (a.at' i) (g.d i) (g.r i) (g.p i)).eraseIdx i)]
 have s1 := (sep_append _ X).1 (sep_perm p s)
 exact (sep_append [cluSM c a g] X).2 (star_mono s1 (fun h t => seeM_shut hi hu t) fun _ t => t)
theorem cm_known {h : Hl} (s : sep [cluM c a] h) : ∃ g, sep [cluSM c a g] h := by
 obtain ⟨g, s⟩ := sep_open s
 exact ⟨g, (sep_append (cluLM c a g) []).1 s⟩
theorem cm_forget {H : List HP} {h : Hl} (s : sep (cluSM c a g :: H) h) : sep (cluM c a :: H) h := star_mono s (fun _ t => ⟨g, t⟩) fun _ t => t
theorem machineM_does (hi : i < 5) (hu : (a.at' i).up = true) : Leg.Does Tryz.prog 14 #[.pointer (some ⟨c, 0, none⟩), .int .i64 ((i : Nat) : Int)] (fun _ => True) [cluSM c a g] (Ret fun v H => v = .pointer (some ⟨g.r i, 0, none⟩) ∧ H = [cluSM c a g]) :=
 Leg.Does.fold (cm_see (Q := fun v X => v = .pointer (some ⟨g.r i, 0, none⟩) ∧ X = []) hi hu fun x => by
  refine Leg.Does.withinR (A := [blkA c (clC g.n (dV g) (mVM a g.r) g.p) 56, dkL (g.d i) (rcBM (a.at' i))]) (B := [netP 106 169 5 g.n (frM a.W), ownR (g.p i) (a.at' i).pl] ++ runUM (a.at' i) (g.d i) (g.r i) x) (machine1_does c g.n i (dV g) (mVM a g.r) g.p hi (g.d i) (g.r i) (rcBM (a.at' i)) rfl (if_pos hu)) (fun _ _ _ _ => trivial) (fun h s => sep_selR [0, 1, 0, 0, 0, 0, 0] rfl s) fun v H hp => ?_
  obtain ⟨rfl, rfl⟩ := hp
  exact ⟨_, fun h s => sep_selR [0, 1, 0, 0, 0, 0, 0] rfl s, [], ⟨rfl, rfl⟩, rfl⟩) fun e H hp => by
 cases e with
 | returned v => obtain ⟨X, ⟨rfl, rfl⟩, rfl⟩ := hp; exact ⟨_, fun _ s => s, rfl, rfl⟩
 | panicked c => exact hp.elim
 | outgrown => exact hp.elim
theorem repliesM_does (hi : i < 5) (hu : (a.at' i).up = true) (hp1 : (a.at' i).pl.length ≤ 100000) (hp2 : (a.at' i).rs.length ≤ 100000) : Leg.Does Tryz.prog 17 #[.pointer (some ⟨c, 0, none⟩), .int .i64 ((i : Nat) : Int)] (fun _ => True) [cluSM c a g] (Ret fun v H => ∃ u, v = u ∧ H = [cluSM c a g, ownR u ((a.at' i).pl ++ (a.at' i).rs)]) :=
 Leg.Does.fold (cm_see (Q := fun v X => X = [ownR v ((a.at' i).pl ++ (a.at' i).rs)]) hi hu fun x => by
  refine Leg.Does.withinR (B := [netP 106 169 5 g.n (frM a.W), dkL (g.d i) (rcBM (a.at' i)), lgL x.1 (g.d i) (rcBM (a.at' i))]) (replies1_does c g.n i (dV g) (mVM a g.r) g.p hi (g.r i) (if_pos hu) (a.at' i).pl (a.at' i).rs hp1 hp2 (withL (a.at' i).x x.1 x.2)) (fun _ _ _ _ => trivial) (fun h s => sep_selR [0, 2, 2, 3, 0, 0, 0] rfl s) fun v H hp => ?_
  obtain ⟨u, _, rfl, rfl⟩ := hp
  exact ⟨_, fun h s => sep_selR [0, 4, 4, 0, 0, 2, 0, 0] rfl s, [ownR v ((a.at' i).pl ++ (a.at' i).rs)], rfl, rfl⟩) fun e H hp => by
 cases e with
 | returned v => obtain ⟨X, rfl, rfl⟩ := hp; exact ⟨_, fun _ s => s, v, rfl, rfl⟩
 | panicked c => exact hp.elim
 | outgrown => exact hp.elim
theorem lookM {v0 : RepT → Value} (hi : i < 5) (hu : (a.at' i).up = true) (hf : ∀ x, Leg.Does Tryz.prog f args (fun _ => True) [blkA (g.r i) (RepT.cells x) 95] (Ret fun v H => v = v0 x ∧ H = [blkA (g.r i) (RepT.cells x) 95])) (hv : ∀ lg vr, v0 (withL (a.at' i).x lg vr) = v0 (a.at' i).x) : Leg.Does Tryz.prog f args (fun _ => True) [cluSM c a g] (Ret fun v H => v = v0 (a.at' i).x ∧ H = [cluSM c a g]) :=
 Leg.Does.fold (cm_see (Q := fun v X => v = v0 (a.at' i).x ∧ X = []) hi hu fun x => by
  refine Leg.Does.withinR (A := [blkA (g.r i) (RepT.cells (withL (a.at' i).x x.1 x.2)) 95]) (B := [blkA c (clC g.n (dV g) (mVM a g.r) g.p) 56, netP 106 169 5 g.n (frM a.W), dkL (g.d i) (rcBM (a.at' i)), ownR (g.p i) (a.at' i).pl, lgL x.1 (g.d i) (rcBM (a.at' i)), ownR x.2 (a.at' i).rs]) (hf (withL (a.at' i).x x.1 x.2)) (fun _ _ _ _ => trivial) (fun h s => sep_selR [4, 0, 0, 0, 0, 0, 0] rfl s) fun v H hp => ?_
  obtain ⟨rfl, rfl⟩ := hp
  exact ⟨_, fun h s => sep_selR [1, 1, 1, 1, 0, 0, 0] rfl s, [], ⟨hv _ _, rfl⟩, rfl⟩) fun e H hp => by
 cases e with
 | returned v => obtain ⟨X, ⟨rfl, rfl⟩, rfl⟩ := hp; exact ⟨_, fun _ s => s, rfl, rfl⟩
 | panicked c => exact hp.elim
 | outgrown => exact hp.elim
end
end Go.Proofs.YtohmkchalilodaaGreatDoor
end

section
namespace Go.Proofs.YtohmkchalilodaaGreatDoor
open Go Leg Codec Api Dsk Wal
def mergeI (a : CM) (j : Nat) (b : BookT) (i : Nat) : BookT := (bookMerge b ((i : Nat) : Int) (mirRow (a.at' j).x.mirror ((i : Nat) : Int))).1
def mergeTo (a : CM) (j : Nat) (b : BookT) (k : Nat) : BookT := (List.range k).foldl (mergeI a j) b
def truthK (a : CM) (k : Nat) : BookT := (List.range k).foldl (fun b j => mergeTo a j b 5) BookT.zero
theorem mergeTo_succ (a : CM) (j : Nat) (b : BookT) (k : Nat) : mergeTo a j b (k + 1) = mergeI a j (mergeTo a j b k) k := by unfold mergeTo; rw [List.range_succ, List.foldl_append]; rfl
theorem truthK_succ (a : CM) (k : Nat) : truthK a (k + 1) = mergeTo a k (truthK a k) 5 := by unfold truthK; rw [List.range_succ, List.foldl_append]; rfl
abbrev ptr5 (g : CG) : List Value := [.pointer (some ⟨g.r 0, 0, none⟩), .pointer (some ⟨g.r 1, 0, none⟩), .pointer (some ⟨g.r 2, 0, none⟩), .pointer (some ⟨g.r 3, 0, none⟩), .pointer (some ⟨g.r 4, 0, none⟩)]
theorem ptr5_at (g : CG) {j : Nat} (h : j < 5) : (ptr5 g)[j]? = some (.pointer (some ⟨g.r j, 0, none⟩)) := by
 match j, h with
 | 0, _ | 1, _ | 2, _ | 3, _ | 4, _ => rfl
theorem machines_does (c : Nat) (a : CM) (g : CG) (hup : ∀ j, j < 5 → (a.at' j).up = true) :
 Leg.Does Tryz.prog 33 #[(.pointer (some ⟨c, 0, none⟩))] (fun _ => True) [cluSM c a g] (Ret (fun r' H => r' = .agg (ptr5 g).toArray ∧ H = [cluSM c a g])) := by
 refine Leg.Does.body (n := 32) Tryz.func33 rfl rfl rfl (fun w0 F hF => sr fun _ J1 => XA z53 fun b2 => ?_)
 refine nx J1 (sr fun _ J2 => XA z53 fun b3 => ?_)
 refine nx J2 (TC.seq fun _ J3 => sr fun _ J4 => PS ?_)
 refine nx J4 (TC.block (TC.unroll 5 (sr fun _ J5 => PS ?_)))
 refine nx J5 (TC.seq fun _ J6 => CY (CX J6 (TC.seq fun _ J7 => TC.block (sr fun _ J8 => PS ?_))))
 refine PS ?_
 refine nx J8 (sr fun _ J9 => ?_)
 iterate 3 refine PS ?_
 refine CE nm14 (machineM_does (i := 0) (by decide) (hup 0 (by decide))) (SM [2]) ?_
 refine tp (PV.indexArr (r := 0) rfl Y53 sz36 rfl rfl (lz rfl) (lz rfl) rfl) ?_
 refine S0 1 sz36 ?_
 refine nx J9 (sr fun _ J10 => PS ?_)
 refine tp (PV.indexArr (r := 0) rfl Y53 sz36 rfl rfl (lz rfl) (lz rfl) rfl) ?_
 refine LA 1 Y36 ?_
 refine tp (PV.ptrNil rfl Y36 rfl rfl) ?_
 refine PS ?_
 iterate 4 refine UF ?_
 refine PS ?_
 refine nx J10 (CN (TC.skip (TE.blockEnd (TE.next J7 (TC.region (tp (PV.add (r := 1) rfl rfl rfl (by decide)) ?_))))))
 refine PS ?_
 refine TL.nil (TE.again (sr fun _ J11 => PS ?_))
 refine nx J11 (TC.seq fun _ J12 => CY (CX J12 (TC.seq fun _ J13 => TC.block (sr fun _ J14 => PS ?_))))
 refine PS ?_
 refine nx J14 (sr fun _ J15 => ?_)
 iterate 3 refine PS ?_
 refine CE nm14 (machineM_does (i := 1) (by decide) (hup 1 (by decide))) (fun _ s => s) ?_
 refine tp (PV.indexArr (r := 1) rfl Y53 sz36 rfl rfl (lz rfl) (lz rfl) rfl) ?_
 refine S0 1 sz36 ?_
 refine nx J15 (sr fun _ J16 => PS ?_)
 refine tp (PV.indexArr (r := 1) rfl Y53 sz36 rfl rfl (lz rfl) (lz rfl) rfl) ?_
 refine LA 1 Y36 ?_
 refine tp (PV.ptrNil rfl Y36 rfl rfl) ?_
 refine PS ?_
 iterate 4 refine UF ?_
 refine PS ?_
 refine nx J16 (CN (TC.skip (TE.blockEnd (TE.next J13 (TC.region (tp (PV.add (r := 2) rfl rfl rfl (by decide)) ?_))))))
 refine PS ?_
 refine TL.nil (TE.again (sr fun _ J17 => PS ?_))
 refine nx J17 (TC.seq fun _ J18 => CY (CX J18 (TC.seq fun _ J19 => TC.block (sr fun _ J20 => PS ?_))))
 refine PS ?_
 refine nx J20 (sr fun _ J21 => ?_)
 iterate 3 refine PS ?_
 refine CE nm14 (machineM_does (i := 2) (by decide) (hup 2 (by decide))) (fun _ s => s) ?_
 refine tp (PV.indexArr (r := 2) rfl Y53 sz36 rfl rfl (lz rfl) (lz rfl) rfl) ?_
 refine S0 1 sz36 ?_
 refine nx J21 (sr fun _ J22 => PS ?_)
 refine tp (PV.indexArr (r := 2) rfl Y53 sz36 rfl rfl (lz rfl) (lz rfl) rfl) ?_
 refine LA 1 Y36 ?_
 refine tp (PV.ptrNil rfl Y36 rfl rfl) ?_
 refine PS ?_
 iterate 4 refine UF ?_
 refine PS ?_
 refine nx J22 (CN (TC.skip (TE.blockEnd (TE.next J19 (TC.region (tp (PV.add (r := 3) rfl rfl rfl (by decide)) ?_))))))
 refine PS ?_
 refine TL.nil (TE.again (sr fun _ J23 => PS ?_))
 refine nx J23 (TC.seq fun _ J24 => CY (CX J24 (TC.seq fun _ J25 => TC.block (sr fun _ J26 => PS ?_))))
 refine PS ?_
 refine nx J26 (sr fun _ J27 => ?_)
 iterate 3 refine PS ?_
 refine CE nm14 (machineM_does (i := 3) (by decide) (hup 3 (by decide))) (fun _ s => s) ?_
 refine tp (PV.indexArr (r := 3) rfl Y53 sz36 rfl rfl (lz rfl) (lz rfl) rfl) ?_
 refine S0 1 sz36 ?_
 refine nx J27 (sr fun _ J28 => PS ?_)
 refine tp (PV.indexArr (r := 3) rfl Y53 sz36 rfl rfl (lz rfl) (lz rfl) rfl) ?_
 refine LA 1 Y36 ?_
 refine tp (PV.ptrNil rfl Y36 rfl rfl) ?_
 refine PS ?_
 iterate 4 refine UF ?_
 refine PS ?_
 refine nx J28 (CN (TC.skip (TE.blockEnd (TE.next J25 (TC.region (tp (PV.add (r := 4) rfl rfl rfl (by decide)) ?_))))))
 refine PS ?_
 refine TL.nil (TE.again (sr fun _ J29 => PS ?_))
 refine nx J29 (TC.seq fun _ J30 => CY (CX J30 (TC.seq fun _ J31 => TC.block (sr fun _ J32 => PS ?_))))
 refine PS ?_
 refine nx J32 (sr fun _ J33 => ?_)
 iterate 3 refine PS ?_
 refine CE nm14 (machineM_does (i := 4) (by decide) (hup 4 (by decide))) (fun _ s => s) ?_
 refine tp (PV.indexArr (r := 4) rfl Y53 sz36 rfl rfl (lz rfl) (lz rfl) rfl) ?_
 refine S0 1 sz36 ?_
 refine nx J33 (sr fun _ J34 => PS ?_)
 refine tp (PV.indexArr (r := 4) rfl Y53 sz36 rfl rfl (lz rfl) (lz rfl) rfl) ?_
 refine LA 1 Y36 ?_
 refine tp (PV.ptrNil rfl Y36 rfl rfl) ?_
 refine PS ?_
 iterate 4 refine UF ?_
 refine PS ?_
 refine nx J34 (CN (TC.skip (TE.blockEnd (TE.next J31 (TC.region (tp (PV.add (r := 5) rfl rfl rfl (by decide)) ?_))))))
 refine PS ?_
 refine TL.nil (TE.again (sr fun _ J35 => PS ?_))
 refine nx J35 (TC.seq fun _ J36 => CN (TC.exit (TE.pass (TE.pass (TE.hit (TE.next J3 (sr fun _ J37 => tp (PV.loadN (vs := [(.pointer (some ⟨(g.r 0), 0, none⟩)), (.pointer (some ⟨(g.r 1), 0, none⟩)), (.pointer (some ⟨(g.r 2), 0, none⟩)), (.pointer (some ⟨(g.r 3), 0, none⟩)), (.pointer (some ⟨(g.r 4), 0, none⟩))]) rfl Y53 rfl sz53 rfl (RO 1) rfl rfl) ?_)))))))
 exact TL.store (vs := [(.pointer (some ⟨(g.r 0), 0, none⟩)), (.pointer (some ⟨(g.r 1), 0, none⟩)), (.pointer (some ⟨(g.r 2), 0, none⟩)), (.pointer (some ⟨(g.r 3), 0, none⟩)), (.pointer (some ⟨(g.r 4), 0, none⟩))]) (i := 2) (Want.plain rfl) rfl rfl rfl rfl rfl sz53 (by simp [Value.oneCell']) rfl rfl (lbe rfl) rfl rfl (nx J37 (TC.ret (TE.retC (H' := [cluSM c a g]) rfl rfl Y53 rfl sz53 (RO 2) rfl (fun _ s => sep_keep [0] rfl s) ⟨rfl, rfl⟩)))
theorem z77 : (Tryz.prog.info? 77).map (·.zero) = some (some (.agg (ints BookT.zero.flat).toArray)) := by kernel_rfl
theorem truth_does (c : Nat) (a : CM) (g : CG) (hup : ∀ j, j < 5 → (a.at' j).up = true) (hwf : ∀ j i, j < 5 → i < 5 → WF (mirRow (a.at' j).x.mirror ((i : Nat) : Int)).flat) :
 Leg.Does Tryz.prog 12 #[(.pointer (some ⟨c, 0, none⟩))] (fun _ => True) [cluSM c a g] (Ret (fun r' H => ∃ b, r' = .pointer (some ⟨b, 0, none⟩) ∧ H = [cluSM c a g, blkA b (ints (truthK a 5).flat) 77])) := by
 refine Leg.Does.body (n := 33) Tryz.func12 rfl rfl rfl (fun w0 F hF => sr fun _ J1 => PS ?_)
 refine nx J1 (sr fun _ J2 => XA z77 fun b9 => ?_)
 change TL _ _ _ _ _ _ _ _ _ [blkA b9 (ints BookT.zero.flat) 77, cluSM c a g]
 refine PS ?_
 refine nx J2 (TC.seq fun _ J3 => sr fun _ J4 => PS ?_)
 refine CE nm33 (machines_does c a g hup) (SM [1]) ?_
 refine PS ?_
 refine nx J4 (TC.block ?_)
 refine TC.loop (α := (Nat)) (fun j => j ≤ 5) (fun j => [(2, (.pointer none)), (3, (.pointer (some ⟨b9, 0, none⟩))), (11, (.agg (ptr5 g).toArray)), (12, (.int .i64 (((j : Nat) : Int))))]) (fun j => [cluSM c a g, blkA b9 (ints (truthK a j).flat) 77]) (fun j => 5 - j) 0
  (Nat.zero_le _) SB
  (fun _ s => s) (fun j hinv => ?_)
 obtain hj := hinv
 refine sr fun _ J5 => PS ?_
 refine TL.dec (fun h13 => ?_) (fun h13 => ?_)
 refine nx J5 (TC.seq fun _ J6 => CY (CX J6 (TC.seq fun _ J7 => TC.block (sr fun _ J8 => tp (PV.index1 (cs := ptr5 g) (v := (.pointer (some ⟨g.r j, 0, none⟩))) (r := j) rfl Y53 Y36 rfl sz36 rfl rfl (by omega) (by omega) (by omega) (ptr5_at g (by omega))) ?_))))
 refine PS ?_
 refine nx J8 (TC.seq fun _ J9 => sr fun _ J10 => PS ?_)
 refine tp (PV.ptrNil rfl Y36 rfl rfl) ?_
 refine nx J10 (CN (CX J9 (sr fun _ J11 => PS ?_)))
 refine nx J11 (TC.block ?_)
 refine TC.loop (α := (Nat)) (fun i => i ≤ 5) (fun i => [(2, (.pointer none)), (3, (.pointer (some ⟨b9, 0, none⟩))), (5, (.pointer (some ⟨(g.r j), 0, none⟩))), (11, (.agg (ptr5 g).toArray)), (12, (.int .i64 (((j : Nat) : Int)))), (17, (.int .i64 (((i : Nat) : Int))))]) (fun i => [cluSM c a g, blkA b9 (ints (mergeTo a j (truthK a j) i).flat) 77]) (fun i => 5 - i) 0
  (Nat.zero_le _) SB
  (fun _ s => s) (fun i hinv => ?_)
 obtain hi := hinv
 refine sr fun _ J12 => PS ?_
 refine TL.dec (fun h18 => ?_) (fun h18 => ?_)
 refine nx J12 (TC.seq fun _ J13 => CY (CX J13 (TC.seq fun _ J14 => TC.block (sr fun _ J15 => PS ?_))))
 refine PS ?_
 refine nx J15 (sr fun _ J16 => PS ?_)
 refine PS ?_
 refine CE nm34 (lookM (i := j) (v0 := fun x => .tuple #[.agg (ints (mirRow x.mirror ((i : Nat) : Int)).flat).toArray, .bool (mirSealed x.mirror ((i : Nat) : Int))]) (by omega) (hup j (by omega)) (fun x => rMirrored_does (g.r j) x ((i : Nat) : Int)) (fun _ _ => rfl)) (fun _ s => s) ?_
 refine PS ?_
 refine tp (PV.extract (vs := [(.agg (ints (mirRow (a.at' j).x.mirror ((i : Nat) : Int)).flat).toArray), (.bool (mirSealed (a.at' j).x.mirror ((i : Nat) : Int)))]) rfl rfl rfl) ?_
 refine tp (PV.extract (vs := [(.agg (ints (mirRow (a.at' j).x.mirror ((i : Nat) : Int)).flat).toArray), (.bool (mirSealed (a.at' j).x.mirror ((i : Nat) : Int)))]) rfl rfl rfl) ?_
 refine XA z74 fun b7 => ?_
 change TL _ _ _ _ _ _ _ _ _ [blkA b7 (ints RowT.zero.flat) 74, cluSM c a g, blkA b9 (ints (mergeTo a j (truthK a j) i).flat) 77]
 refine TL.store (vs := ints (mirRow (a.at' j).x.mirror ((i : Nat) : Int)).flat) (i := 0) (Want.plain rfl) rfl rfl rfl rfl rfl (by rw [(RowT.len (mirRow (a.at' j).x.mirror ((i : Nat) : Int)))]; exact sz74) (ints_one _) rfl rfl (LC (RowT.len _) (RowT.len _)) (wwhole ((RowT.len RowT.zero).trans (RowT.len (mirRow (a.at' j).x.mirror ((i : Nat) : Int))).symm)) rfl (PS ?_)
 refine nx J16 (TC.region (PS ?_))
 refine PS ?_
 refine tp (PV.loadN (vs := ints (mirRow (a.at' j).x.mirror ((i : Nat) : Int)).flat) rfl Y74 rfl sz74 rfl (RO 0) (RowT.len (mirRow (a.at' j).x.mirror ((i : Nat) : Int))) (whole (RowT.len (mirRow (a.at' j).x.mirror ((i : Nat) : Int))))) ?_
 refine CE nm35 (bookMerge_does b9 0 77 (fun x => ints x.flat) Arnd.whole (mergeTo a j (truthK a j) i) ((i : Nat) : Int) (mirRow (a.at' j).x.mirror ((i : Nat) : Int)) (hwf j i (by omega) (by omega))) (SM [2]) ?_
 refine TL.nil (TE.blockEnd (TE.next J14 (TC.region (AD ?_))))
 refine PS ?_
 refine TL.nil ?_
 exact TE.round ((i + 1) : (Nat)) (by omega) (by show 5 - (i + 1) < 5 - i; omega)
  SB
  (fun _ s => by
   show sep [cluSM c a g, blkA b9 (ints (mergeTo a j (truthK a j) (i + 1)).flat) 77] _
   rw [mergeTo_succ]
   exact sep_keep [2, 0] rfl s)
 refine nx J12 (TC.seq fun _ J17 => CN (TC.exit (TE.pass (TE.pass (TE.hit (TE.blockEnd (TE.next J7 (TC.region (AD ?_)))))))))
 refine PS ?_
 refine TL.nil ?_
 exact TE.round ((j + 1) : (Nat)) (by omega) (by show 5 - (j + 1) < 5 - j; omega)
  SB
  (fun _ s => by
   show sep [cluSM c a g, blkA b9 (ints (truthK a (j + 1)).flat) 77] _
   rw [truthK_succ, show 5 = i by omega]
   exact sep_keep [0, 0] rfl s)
 refine nx J5 (TC.seq fun _ J18 => CN (TC.exit (TE.pass (TE.pass (TE.hit (TE.next J3 (sr fun _ J19 => PS ?_)))))))
 refine PS ?_
 exact nx J19 (TC.ret (TE.weak (H' := [cluSM c a g, blkA b9 (ints (truthK a 5).flat) 77]) (Sub.refl _) (fun _ s => by rw [show 5 = j by omega]; exact s) (TE.ret1 rfl rfl ⟨b9, rfl, rfl⟩)))
end Go.Proofs.YtohmkchalilodaaGreatDoor
end

section
namespace Go.Proofs.YtohmkchalilodaaGreatDoor
open Go Leg Codec Api Dsk Wal
theorem last_does (c : Nat) (a : CM) (g : CG) (hup : ∀ j, j < 5 → (a.at' j).up = true) (hvw : ∀ j, j < 5 → (a.at' j).x.view = firstV) :
 Leg.Does Tryz.prog 130 #[(.pointer (some ⟨c, 0, none⟩))] (fun _ => True) [cluSM c a g] (Ret (fun r' H => r' = .agg (ints firstV.flat).toArray ∧ H = [cluSM c a g])) := by
 refine Leg.Does.body (n := 31) Tryz.func130 rfl rfl rfl (fun w0 F hF => sr fun _ J1 => XA z85 fun b2 => ?_)
 change TL _ _ _ _ _ _ _ _ _ [blkA b2 (ints ViewT.zero.flat) 85, cluSM c a g]
 refine nx J1 (sr fun _ J2 => CE nm46 (first_does) (fun _ s => s) ?_)
 refine XA z85 fun b3 => ?_
 change TL _ _ _ _ _ _ _ _ _ [blkA b3 (ints ViewT.zero.flat) 85, blkA b2 (ints ViewT.zero.flat) 85, cluSM c a g]
 refine TL.store (vs := ints firstV.flat) (i := 0) (Want.plain rfl) rfl rfl rfl rfl rfl (by rw [(ViewT.len firstV)]; exact sz85) (ints_one _) rfl rfl (LC (ViewT.len _) (ViewT.len _)) (wwhole ((ViewT.len ViewT.zero).trans (ViewT.len firstV).symm)) rfl (PS ?_)
 refine nx J2 (TC.seq fun _ J3 => sr fun _ J4 => PS ?_)
 refine CE nm33 (machines_does c a g hup) (SM [2]) ?_
 refine PS ?_
 refine nx J4 (TC.block (TC.unroll 5 (sr fun _ J5 => PS ?_)))
 refine nx J5 (TC.seq fun _ J6 => CY (CX J6 (TC.seq fun _ J7 => TC.block (sr fun _ J8 => tp (PV.index1 (cs := ptr5 g) (v := (.pointer (some ⟨g.r 0, 0, none⟩))) (r := 0) rfl Y53 Y36 rfl sz36 rfl rfl (by decide) (by decide) rfl rfl) ?_))))
 refine PS ?_
 refine nx J8 (TC.seq fun _ J9 => D1 1 mixedD ?_)
 refine PD 0 ?_
 refine ta 1 rfl (PV.ptrNotNil rfl Y36 rfl rfl) ?_
 refine PD 2 ?_
 refine PD 3 ?_
 refine tb 4 rfl (PV.not (r := true) rfl rfl rfl) ?_
 refine PD 5 ?_
 refine NT 6 ?_
 refine NT 7 ?_
 refine NT 8 ?_
 refine NT 9 ?_
 refine NT 10 ?_
 refine NT 11 ?_
 refine PD 12 ?_
 refine PD 13 ?_
 refine DN (TE.next J9 (CY (TC.region (PS ?_))))
 refine CR nm126 (lookM (i := 0) (v0 := fun x => .agg (ints x.view.flat).toArray) (by decide) (hup 0 (by decide)) (fun x => rView_does (g.r 0) x) (fun _ _ => rfl)) (fun _ s => s) fun vR HR hR => ?_
 obtain ⟨hv, rfl⟩ := hR
 rw [hvw 0 (by decide)] at hv
 subst hv
 refine TL.store (vs := ints firstV.flat) (i := 1) (Want.plain rfl) rfl rfl rfl rfl rfl (by rw [(ViewT.len firstV)]; exact sz85) (ints_one _) rfl rfl (LC (ViewT.len _) (ViewT.len _)) (wwhole ((ViewT.len firstV).trans (ViewT.len firstV).symm)) rfl (PS ?_)
 refine TL.nil (TE.blockEnd (TE.next J7 (TC.region (tp (PV.add (r := 1) rfl rfl rfl (by decide)) ?_))))
 refine PS ?_
 refine TL.nil (TE.again (sr fun _ J10 => PS ?_))
 refine nx J10 (TC.seq fun _ J11 => CY (CX J11 (TC.seq fun _ J12 => TC.block (sr fun _ J13 => tp (PV.index1 (cs := ptr5 g) (v := (.pointer (some ⟨g.r 1, 0, none⟩))) (r := 1) rfl Y53 Y36 rfl sz36 rfl rfl (by decide) (by decide) rfl rfl) ?_))))
 refine PS ?_
 refine nx J13 (TC.seq fun _ J14 => D1 1 mixedD ?_)
 refine PD 0 ?_
 refine ta 1 rfl (PV.ptrNotNil rfl Y36 rfl rfl) ?_
 refine PD 2 ?_
 refine PD 3 ?_
 refine tb 4 rfl (PV.not (r := false) rfl rfl rfl) ?_
 refine PD 5 ?_
 refine PD 6 ?_
 refine FD 9 0 Y85 sz3 ?_
 refine tb 10 rfl (PV.to (v' := (.int .i64 1)) (PV.load1 (v := (.int .i64 (firstV.epoch))) rfl Y3 rfl rfl (fun _ h => h.2.1) (ViewT.at_epoch firstV rfl)) rfl) ?_
 refine AL 7 ?_
 refine CR nm126 (lookM (i := 1) (v0 := fun x => .agg (ints x.view.flat).toArray) (by decide) (hup 1 (by decide)) (fun x => rView_does (g.r 1) x) (fun _ _ => rfl)) (fun _ s => s) fun vR HR hR => ?_
 obtain ⟨hv, rfl⟩ := hR
 rw [hvw 1 (by decide)] at hv
 subst hv
 refine TL.nil (E1 1 (tb 8 rfl (PV.to (v' := (.int .i64 1)) (PV.field1 (cs := ints firstV.flat) (v := Value.int .i64 firstV.epoch) rfl Y85 rfl Y3 rfl rfl (ViewT.at_epoch firstV rfl)) rfl) ?_))
 refine PD 11 ?_
 refine PD 12 ?_
 refine PD 13 ?_
 refine DN (TE.next J14 (CN (TC.skip (TE.blockEnd (TE.next J12 (TC.region (tp (PV.add (r := 2) rfl rfl rfl (by decide)) ?_)))))))
 refine PS ?_
 refine TL.nil (TE.again (sr fun _ J15 => PS ?_))
 refine nx J15 (TC.seq fun _ J16 => CY (CX J16 (TC.seq fun _ J17 => TC.block (sr fun _ J18 => tp (PV.index1 (cs := ptr5 g) (v := (.pointer (some ⟨g.r 2, 0, none⟩))) (r := 2) rfl Y53 Y36 rfl sz36 rfl rfl (by decide) (by decide) rfl rfl) ?_))))
 refine PS ?_
 refine nx J18 (TC.seq fun _ J19 => D1 1 mixedD ?_)
 refine PD 0 ?_
 refine ta 1 rfl (PV.ptrNotNil rfl Y36 rfl rfl) ?_
 refine PD 2 ?_
 refine PD 3 ?_
 refine tb 4 rfl (PV.not (r := false) rfl rfl rfl) ?_
 refine PD 5 ?_
 refine PD 6 ?_
 refine FD 9 0 Y85 sz3 ?_
 refine tb 10 rfl (PV.to (v' := (.int .i64 1)) (PV.load1 (v := (.int .i64 (firstV.epoch))) rfl Y3 rfl rfl (fun _ h => h.2.1) (ViewT.at_epoch firstV rfl)) rfl) ?_
 refine AL 7 ?_
 refine CR nm126 (lookM (i := 2) (v0 := fun x => .agg (ints x.view.flat).toArray) (by decide) (hup 2 (by decide)) (fun x => rView_does (g.r 2) x) (fun _ _ => rfl)) (fun _ s => s) fun vR HR hR => ?_
 obtain ⟨hv, rfl⟩ := hR
 rw [hvw 2 (by decide)] at hv
 subst hv
 refine TL.nil (E1 1 (tb 8 rfl (PV.to (v' := (.int .i64 1)) (PV.field1 (cs := ints firstV.flat) (v := Value.int .i64 firstV.epoch) rfl Y85 rfl Y3 rfl rfl (ViewT.at_epoch firstV rfl)) rfl) ?_))
 refine PD 11 ?_
 refine PD 12 ?_
 refine PD 13 ?_
 refine DN (TE.next J19 (CN (TC.skip (TE.blockEnd (TE.next J17 (TC.region (tp (PV.add (r := 3) rfl rfl rfl (by decide)) ?_)))))))
 refine PS ?_
 refine TL.nil (TE.again (sr fun _ J20 => PS ?_))
 refine nx J20 (TC.seq fun _ J21 => CY (CX J21 (TC.seq fun _ J22 => TC.block (sr fun _ J23 => tp (PV.index1 (cs := ptr5 g) (v := (.pointer (some ⟨g.r 3, 0, none⟩))) (r := 3) rfl Y53 Y36 rfl sz36 rfl rfl (by decide) (by decide) rfl rfl) ?_))))
 refine PS ?_
 refine nx J23 (TC.seq fun _ J24 => D1 1 mixedD ?_)
 refine PD 0 ?_
 refine ta 1 rfl (PV.ptrNotNil rfl Y36 rfl rfl) ?_
 refine PD 2 ?_
 refine PD 3 ?_
 refine tb 4 rfl (PV.not (r := false) rfl rfl rfl) ?_
 refine PD 5 ?_
 refine PD 6 ?_
 refine FD 9 0 Y85 sz3 ?_
 refine tb 10 rfl (PV.to (v' := (.int .i64 1)) (PV.load1 (v := (.int .i64 (firstV.epoch))) rfl Y3 rfl rfl (fun _ h => h.2.1) (ViewT.at_epoch firstV rfl)) rfl) ?_
 refine AL 7 ?_
 refine CR nm126 (lookM (i := 3) (v0 := fun x => .agg (ints x.view.flat).toArray) (by decide) (hup 3 (by decide)) (fun x => rView_does (g.r 3) x) (fun _ _ => rfl)) (fun _ s => s) fun vR HR hR => ?_
 obtain ⟨hv, rfl⟩ := hR
 rw [hvw 3 (by decide)] at hv
 subst hv
 refine TL.nil (E1 1 (tb 8 rfl (PV.to (v' := (.int .i64 1)) (PV.field1 (cs := ints firstV.flat) (v := Value.int .i64 firstV.epoch) rfl Y85 rfl Y3 rfl rfl (ViewT.at_epoch firstV rfl)) rfl) ?_))
 refine PD 11 ?_
 refine PD 12 ?_
 refine PD 13 ?_
 refine DN (TE.next J24 (CN (TC.skip (TE.blockEnd (TE.next J22 (TC.region (tp (PV.add (r := 4) rfl rfl rfl (by decide)) ?_)))))))
 refine PS ?_
 refine TL.nil (TE.again (sr fun _ J25 => PS ?_))
 refine nx J25 (TC.seq fun _ J26 => CY (CX J26 (TC.seq fun _ J27 => TC.block (sr fun _ J28 => tp (PV.index1 (cs := ptr5 g) (v := (.pointer (some ⟨g.r 4, 0, none⟩))) (r := 4) rfl Y53 Y36 rfl sz36 rfl rfl (by decide) (by decide) rfl rfl) ?_))))
 refine PS ?_
 refine nx J28 (TC.seq fun _ J29 => D1 1 mixedD ?_)
 refine PD 0 ?_
 refine ta 1 rfl (PV.ptrNotNil rfl Y36 rfl rfl) ?_
 refine PD 2 ?_
 refine PD 3 ?_
 refine tb 4 rfl (PV.not (r := false) rfl rfl rfl) ?_
 refine PD 5 ?_
 refine PD 6 ?_
 refine FD 9 0 Y85 sz3 ?_
 refine tb 10 rfl (PV.to (v' := (.int .i64 1)) (PV.load1 (v := (.int .i64 (firstV.epoch))) rfl Y3 rfl rfl (fun _ h => h.2.1) (ViewT.at_epoch firstV rfl)) rfl) ?_
 refine AL 7 ?_
 refine CR nm126 (lookM (i := 4) (v0 := fun x => .agg (ints x.view.flat).toArray) (by decide) (hup 4 (by decide)) (fun x => rView_does (g.r 4) x) (fun _ _ => rfl)) (fun _ s => s) fun vR HR hR => ?_
 obtain ⟨hv, rfl⟩ := hR
 rw [hvw 4 (by decide)] at hv
 subst hv
 refine TL.nil (E1 1 (tb 8 rfl (PV.to (v' := (.int .i64 1)) (PV.field1 (cs := ints firstV.flat) (v := Value.int .i64 firstV.epoch) rfl Y85 rfl Y3 rfl rfl (ViewT.at_epoch firstV rfl)) rfl) ?_))
 refine PD 11 ?_
 refine PD 12 ?_
 refine PD 13 ?_
 refine DN (TE.next J29 (CN (TC.skip (TE.blockEnd (TE.next J27 (TC.region (tp (PV.add (r := 5) rfl rfl rfl (by decide)) ?_)))))))
 refine PS ?_
 refine TL.nil (TE.again (sr fun _ J30 => PS ?_))
 refine nx J30 (TC.seq fun _ J31 => CN (TC.exit (TE.pass (TE.pass (TE.hit (TE.next J3 (sr fun _ J32 => tp (PV.loadN (vs := ints firstV.flat) rfl Y85 rfl sz85 rfl (RO 1) (ViewT.len firstV) (whole (ViewT.len firstV))) ?_)))))))
 exact TL.store (vs := ints firstV.flat) (i := 2) (Want.plain rfl) rfl rfl rfl rfl rfl (by rw [(ViewT.len firstV)]; exact sz85) (ints_one _) rfl rfl (LC (ViewT.len _) (ViewT.len _)) (wwhole ((ViewT.len ViewT.zero).trans (ViewT.len firstV).symm)) rfl (nx J32 (TC.ret (TE.retC (H' := [cluSM c a g]) rfl rfl Y85 rfl sz85 (RO 2) (ViewT.len firstV) (fun _ s => sep_keep [0] rfl s) ⟨rfl, rfl⟩)))
theorem owners_does  :
 Leg.Does Tryz.prog 129 #[(.agg (ints firstV.flat).toArray)] (fun _ => True) [] (Ret (fun r' H => r' = .agg #[.int .i64 0, .int .i64 1, .int .i64 2, .int .i64 3, .int .i64 4] ∧ H = [])) := by
 refine Leg.Does.body (vs := [(.agg (ints firstV.flat).toArray)]) (n := 25) Tryz.func129 rfl rfl rfl (fun w0 F hF => ?_)
 refine sr fun _ J1 => ?_
 refine TL.box (Want.plain rfl) rfl rfl rfl rfl (fun b1 => ?_)
 change TL _ _ _ _ _ _ _ _ _ [blkA b1 (ints firstV.flat) 85]
 refine TL.alloc (Want.plain rfl) rfl rfl rfl z68 (fun b2 => ?_)
 change TL _ _ _ _ _ _ _ _ _ [blkA b2 (ints (#v[0, 0, 0, 0, 0]).toList) 68, blkA b1 (ints firstV.flat) 85]
 refine nx J1 ?_
 refine sr fun _ J2 => ?_
 refine TL.alloc (Want.plain rfl) rfl rfl rfl z68 (fun b3 => ?_)
 change TL _ _ _ _ _ _ _ _ _ [blkA b3 (ints (#v[0, 0, 0, 0, 0]).toList) 68, blkA b2 (ints (#v[0, 0, 0, 0, 0]).toList) 68, blkA b1 (ints firstV.flat) 85]
 refine nx J2 ?_
 refine TC.seq fun _ J3 => ?_
 refine sr fun _ J4 => ?_
 refine mv ?_
 refine nx J4 ?_
 refine TC.block ?_
 refine TC.unroll 5 ?_
 refine sr fun _ J5 => ?_
 refine tp (PV.lss rfl rfl rfl) ?_
 refine nx J5 ?_
 refine TC.seq fun _ J6 => ?_
 refine TC.yes rfl ?_
 refine TC.skip ?_
 refine TE.next J6 ?_
 refine TC.seq fun _ J7 => ?_
 refine TC.block ?_
 refine sr fun _ J8 => ?_
 refine mv ?_
 refine sg' ?_
 refine nx J8 ?_
 refine sr fun _ J9 => ?_
 refine mv ?_
 refine mv ?_
 refine tp (PV.indexArr (r := 0) rfl Y68 sz3 rfl rfl (lz rfl) (lz rfl) rfl) ?_
 refine TL.store1 (i := 0) (Want.plain rfl) rfl rfl rfl rfl rfl sz3 rfl rfl (by have h0 := (vi5_len (#v[0, 0, 0, 0, 0])); omega) (vi_st (#v[0, 0, 0, 0, 0]) (by decide) _) rfl ?_
 refine nx J9 ?_
 refine sr fun _ J10 => ?_
 refine tp (PV.loadN (vs := ints firstV.flat) rfl Y85 rfl sz85 rfl (Rd.own 2 rfl rfl) (ViewT.len firstV) (whole (ViewT.len firstV))) ?_
 refine mv ?_
 refine TL.callR (Want.plain rfl) rfl rfl rfl nm116 rfl (heir_does firstV 0 Rng.first) (fun _ s => s) (fun _ _ _ => trivial) (fun vR HR hR => ?_)
 obtain ⟨rfl, rfl⟩ := hR
 refine mv ?_
 refine tp (PV.extract (vs := [(.int .i64 0), (.bool false)]) rfl rfl rfl) ?_
 refine tp (PV.extract (vs := [(.int .i64 0), (.bool false)]) rfl rfl rfl) ?_
 refine sg' ?_
 refine sg' ?_
 refine nx J10 ?_
 refine sr fun _ J11 => ?_
 refine mv ?_
 refine nx J11 ?_
 refine TC.no rfl ?_
 refine TC.skip ?_
 refine TE.blockEnd ?_
 refine TE.next J7 ?_
 refine TC.region ?_
 refine tp (PV.add (r := 1) rfl rfl rfl (by decide)) ?_
 refine mv ?_
 refine TL.nil ?_
 refine TE.again ?_
 refine sr fun _ J12 => ?_
 refine tp (PV.lss rfl rfl rfl) ?_
 refine nx J12 ?_
 refine TC.seq fun _ J13 => ?_
 refine TC.yes rfl ?_
 refine TC.skip ?_
 refine TE.next J13 ?_
 refine TC.seq fun _ J14 => ?_
 refine TC.block ?_
 refine sr fun _ J15 => ?_
 refine mv ?_
 refine sg' ?_
 refine nx J15 ?_
 refine sr fun _ J16 => ?_
 refine mv ?_
 refine mv ?_
 refine tp (PV.indexArr (r := 1) rfl Y68 sz3 rfl rfl (lz rfl) (lz rfl) rfl) ?_
 refine TL.store1 (i := 0) (Want.plain rfl) rfl rfl rfl rfl rfl sz3 rfl rfl (by have h0 := (vi5_len ((#v[0, 0, 0, 0, 0]).set 0 0 (by omega))); omega) (vi_st ((#v[0, 0, 0, 0, 0]).set 0 0 (by omega)) (by decide) _) rfl ?_
 refine nx J16 ?_
 refine sr fun _ J17 => ?_
 refine tp (PV.loadN (vs := ints firstV.flat) rfl Y85 rfl sz85 rfl (Rd.own 2 rfl rfl) (ViewT.len firstV) (whole (ViewT.len firstV))) ?_
 refine mv ?_
 refine TL.callR (Want.plain rfl) rfl rfl rfl nm116 rfl (heir_does firstV 1 Rng.first) (fun _ s => s) (fun _ _ _ => trivial) (fun vR HR hR => ?_)
 obtain ⟨rfl, rfl⟩ := hR
 refine mv ?_
 refine tp (PV.extract (vs := [(.int .i64 0), (.bool false)]) rfl rfl rfl) ?_
 refine tp (PV.extract (vs := [(.int .i64 0), (.bool false)]) rfl rfl rfl) ?_
 refine sg' ?_
 refine sg' ?_
 refine nx J17 ?_
 refine sr fun _ J18 => ?_
 refine mv ?_
 refine nx J18 ?_
 refine TC.no rfl ?_
 refine TC.skip ?_
 refine TE.blockEnd ?_
 refine TE.next J14 ?_
 refine TC.region ?_
 refine tp (PV.add (r := 2) rfl rfl rfl (by decide)) ?_
 refine mv ?_
 refine TL.nil ?_
 refine TE.again ?_
 refine sr fun _ J19 => ?_
 refine tp (PV.lss rfl rfl rfl) ?_
 refine nx J19 ?_
 refine TC.seq fun _ J20 => ?_
 refine TC.yes rfl ?_
 refine TC.skip ?_
 refine TE.next J20 ?_
 refine TC.seq fun _ J21 => ?_
 refine TC.block ?_
 refine sr fun _ J22 => ?_
 refine mv ?_
 refine sg' ?_
 refine nx J22 ?_
 refine sr fun _ J23 => ?_
 refine mv ?_
 refine mv ?_
 refine tp (PV.indexArr (r := 2) rfl Y68 sz3 rfl rfl (lz rfl) (lz rfl) rfl) ?_
 refine TL.store1 (i := 0) (Want.plain rfl) rfl rfl rfl rfl rfl sz3 rfl rfl (by have h0 := (vi5_len (((#v[0, 0, 0, 0, 0]).set 0 0 (by omega)).set 1 1 (by omega))); omega) (vi_st (((#v[0, 0, 0, 0, 0]).set 0 0 (by omega)).set 1 1 (by omega)) (by decide) _) rfl ?_
 refine nx J23 ?_
 refine sr fun _ J24 => ?_
 refine tp (PV.loadN (vs := ints firstV.flat) rfl Y85 rfl sz85 rfl (Rd.own 2 rfl rfl) (ViewT.len firstV) (whole (ViewT.len firstV))) ?_
 refine mv ?_
 refine TL.callR (Want.plain rfl) rfl rfl rfl nm116 rfl (heir_does firstV 2 Rng.first) (fun _ s => s) (fun _ _ _ => trivial) (fun vR HR hR => ?_)
 obtain ⟨rfl, rfl⟩ := hR
 refine mv ?_
 refine tp (PV.extract (vs := [(.int .i64 0), (.bool false)]) rfl rfl rfl) ?_
 refine tp (PV.extract (vs := [(.int .i64 0), (.bool false)]) rfl rfl rfl) ?_
 refine sg' ?_
 refine sg' ?_
 refine nx J24 ?_
 refine sr fun _ J25 => ?_
 refine mv ?_
 refine nx J25 ?_
 refine TC.no rfl ?_
 refine TC.skip ?_
 refine TE.blockEnd ?_
 refine TE.next J21 ?_
 refine TC.region ?_
 refine tp (PV.add (r := 3) rfl rfl rfl (by decide)) ?_
 refine mv ?_
 refine TL.nil ?_
 refine TE.again ?_
 refine sr fun _ J26 => ?_
 refine tp (PV.lss rfl rfl rfl) ?_
 refine nx J26 ?_
 refine TC.seq fun _ J27 => ?_
 refine TC.yes rfl ?_
 refine TC.skip ?_
 refine TE.next J27 ?_
 refine TC.seq fun _ J28 => ?_
 refine TC.block ?_
 refine sr fun _ J29 => ?_
 refine mv ?_
 refine sg' ?_
 refine nx J29 ?_
 refine sr fun _ J30 => ?_
 refine mv ?_
 refine mv ?_
 refine tp (PV.indexArr (r := 3) rfl Y68 sz3 rfl rfl (lz rfl) (lz rfl) rfl) ?_
 refine TL.store1 (i := 0) (Want.plain rfl) rfl rfl rfl rfl rfl sz3 rfl rfl (by have h0 := (vi5_len ((((#v[0, 0, 0, 0, 0]).set 0 0 (by omega)).set 1 1 (by omega)).set 2 2 (by omega))); omega) (vi_st ((((#v[0, 0, 0, 0, 0]).set 0 0 (by omega)).set 1 1 (by omega)).set 2 2 (by omega)) (by decide) _) rfl ?_
 refine nx J30 ?_
 refine sr fun _ J31 => ?_
 refine tp (PV.loadN (vs := ints firstV.flat) rfl Y85 rfl sz85 rfl (Rd.own 2 rfl rfl) (ViewT.len firstV) (whole (ViewT.len firstV))) ?_
 refine mv ?_
 refine TL.callR (Want.plain rfl) rfl rfl rfl nm116 rfl (heir_does firstV 3 Rng.first) (fun _ s => s) (fun _ _ _ => trivial) (fun vR HR hR => ?_)
 obtain ⟨rfl, rfl⟩ := hR
 refine mv ?_
 refine tp (PV.extract (vs := [(.int .i64 0), (.bool false)]) rfl rfl rfl) ?_
 refine tp (PV.extract (vs := [(.int .i64 0), (.bool false)]) rfl rfl rfl) ?_
 refine sg' ?_
 refine sg' ?_
 refine nx J31 ?_
 refine sr fun _ J32 => ?_
 refine mv ?_
 refine nx J32 ?_
 refine TC.no rfl ?_
 refine TC.skip ?_
 refine TE.blockEnd ?_
 refine TE.next J28 ?_
 refine TC.region ?_
 refine tp (PV.add (r := 4) rfl rfl rfl (by decide)) ?_
 refine mv ?_
 refine TL.nil ?_
 refine TE.again ?_
 refine sr fun _ J33 => ?_
 refine tp (PV.lss rfl rfl rfl) ?_
 refine nx J33 ?_
 refine TC.seq fun _ J34 => ?_
 refine TC.yes rfl ?_
 refine TC.skip ?_
 refine TE.next J34 ?_
 refine TC.seq fun _ J35 => ?_
 refine TC.block ?_
 refine sr fun _ J36 => ?_
 refine mv ?_
 refine sg' ?_
 refine nx J36 ?_
 refine sr fun _ J37 => ?_
 refine mv ?_
 refine mv ?_
 refine tp (PV.indexArr (r := 4) rfl Y68 sz3 rfl rfl (lz rfl) (lz rfl) rfl) ?_
 refine TL.store1 (i := 0) (Want.plain rfl) rfl rfl rfl rfl rfl sz3 rfl rfl (by have h0 := (vi5_len (((((#v[0, 0, 0, 0, 0]).set 0 0 (by omega)).set 1 1 (by omega)).set 2 2 (by omega)).set 3 3 (by omega))); omega) (vi_st (((((#v[0, 0, 0, 0, 0]).set 0 0 (by omega)).set 1 1 (by omega)).set 2 2 (by omega)).set 3 3 (by omega)) (by decide) _) rfl ?_
 refine nx J37 ?_
 refine sr fun _ J38 => ?_
 refine tp (PV.loadN (vs := ints firstV.flat) rfl Y85 rfl sz85 rfl (Rd.own 2 rfl rfl) (ViewT.len firstV) (whole (ViewT.len firstV))) ?_
 refine mv ?_
 refine TL.callR (Want.plain rfl) rfl rfl rfl nm116 rfl (heir_does firstV 4 Rng.first) (fun _ s => s) (fun _ _ _ => trivial) (fun vR HR hR => ?_)
 obtain ⟨rfl, rfl⟩ := hR
 refine mv ?_
 refine tp (PV.extract (vs := [(.int .i64 0), (.bool false)]) rfl rfl rfl) ?_
 refine tp (PV.extract (vs := [(.int .i64 0), (.bool false)]) rfl rfl rfl) ?_
 refine sg' ?_
 refine sg' ?_
 refine nx J38 ?_
 refine sr fun _ J39 => ?_
 refine mv ?_
 refine nx J39 ?_
 refine TC.no rfl ?_
 refine TC.skip ?_
 refine TE.blockEnd ?_
 refine TE.next J35 ?_
 refine TC.region ?_
 refine tp (PV.add (r := 5) rfl rfl rfl (by decide)) ?_
 refine mv ?_
 refine TL.nil ?_
 refine TE.again ?_
 refine sr fun _ J40 => ?_
 refine tp (PV.lss rfl rfl rfl) ?_
 refine nx J40 ?_
 refine TC.seq fun _ J41 => ?_
 refine TC.no rfl ?_
 refine TC.exit ?_
 refine TE.pass ?_
 refine TE.pass ?_
 refine TE.hit ?_
 refine TE.next J3 ?_
 refine sr fun _ J42 => ?_
 refine tp (PV.loadN (vs := ints ((((((#v[0, 0, 0, 0, 0]).set 0 0 (by omega)).set 1 1 (by omega)).set 2 2 (by omega)).set 3 3 (by omega)).set 4 4 (by omega)).toList) rfl Y68 rfl sz68 rfl (Rd.own 0 rfl rfl) (vi5_len ((((((#v[0, 0, 0, 0, 0]).set 0 0 (by omega)).set 1 1 (by omega)).set 2 2 (by omega)).set 3 3 (by omega)).set 4 4 (by omega))) (whole (vi5_len ((((((#v[0, 0, 0, 0, 0]).set 0 0 (by omega)).set 1 1 (by omega)).set 2 2 (by omega)).set 3 3 (by omega)).set 4 4 (by omega))))) ?_
 refine TL.store (vs := ints ((((((#v[0, 0, 0, 0, 0]).set 0 0 (by omega)).set 1 1 (by omega)).set 2 2 (by omega)).set 3 3 (by omega)).set 4 4 (by omega)).toList) (i := 1) (Want.plain rfl) rfl rfl rfl rfl rfl (by rw [(vi5_len ((((((#v[0, 0, 0, 0, 0]).set 0 0 (by omega)).set 1 1 (by omega)).set 2 2 (by omega)).set 3 3 (by omega)).set 4 4 (by omega)))]; exact sz68) (ints_one _) rfl rfl (by have h0 := (vi5_len (#v[0, 0, 0, 0, 0])); have h1 := (vi5_len ((((((#v[0, 0, 0, 0, 0]).set 0 0 (by omega)).set 1 1 (by omega)).set 2 2 (by omega)).set 3 3 (by omega)).set 4 4 (by omega))); omega) (wwhole ((vi5_len (#v[0, 0, 0, 0, 0])).trans (vi5_len ((((((#v[0, 0, 0, 0, 0]).set 0 0 (by omega)).set 1 1 (by omega)).set 2 2 (by omega)).set 3 3 (by omega)).set 4 4 (by omega))).symm)) rfl ?_
 refine nx J42 ?_
 refine TC.ret ?_
 refine TE.retC (H' := []) rfl rfl Y68 rfl sz68 (Rd.own 1 rfl rfl) (vi5_len ((((((#v[0, 0, 0, 0, 0]).set 0 0 (by omega)).set 1 1 (by omega)).set 2 2 (by omega)).set 3 3 (by omega)).set 4 4 (by omega))) (fun _ s => sep_keep [] rfl s) ?_
 exact ⟨rfl, rfl⟩
theorem cellZ {i k : Nat} (hi : i < 5) (hk : k < 4) : bookCell BookT.zero ((i : Nat) : Int) ((k : Nat) : Int) = CellT.zero := by
 match i, hi, k, hk with
 | 0, _, 0, _ | 0, _, 1, _ | 0, _, 2, _ | 0, _, 3, _ | 1, _, 0, _ | 1, _, 1, _ | 1, _, 2, _ | 1, _, 3, _ | 2, _, 0, _ | 2, _, 1, _ | 2, _, 2, _ | 2, _, 3, _ | 3, _, 0, _ | 3, _, 1, _ | 3, _, 2, _ | 3, _, 3, _ | 4, _, 0, _ | 4, _, 1, _ | 4, _, 2, _ | 4, _, 3, _ => show _ = _; kernel_rfl
theorem rep_len (n : Nat) : (ints (List.replicate n 0)).length = n := by simp [ints]
theorem rep_at {n k : Nat} (h : k < n) : (ints (List.replicate n 0))[k]? = some (.int .i64 0) := by simp [ints, h]
theorem rep_set (n k : Nat) : (ints (List.replicate n 0)).set k (.int .i64 0) = ints (List.replicate n 0) := by
 refine List.ext_getElem? fun j => ?_
 by_cases hj : j = k
 · subst hj
   by_cases h : j < n
   · rw [List.getElem?_set_self (by rw [rep_len]; exact h), rep_at h]
   · rw [List.getElem?_eq_none (by rw [List.length_set, rep_len]; omega), List.getElem?_eq_none (by rw [rep_len]; omega)]
 · rw [List.getElem?_set_ne (fun e => hj e.symm)]
theorem own5_at {j : Nat} (h : j < 5) : ([.int .i64 0, .int .i64 1, .int .i64 2, .int .i64 3, .int .i64 4] : List Value)[j]? = some (.int .i64 ((j : Nat) : Int)) := by
 match j, h with
 | 0, _ | 1, _ | 2, _ | 3, _ | 4, _ => rfl
theorem shares_does (c : Nat) (a : CM) (g : CG) (hup : ∀ j, j < 5 → (a.at' j).up = true) (hvw : ∀ j, j < 5 → (a.at' j).x.view = firstV) (hwf : ∀ j i, j < 5 → i < 5 → WF (mirRow (a.at' j).x.mirror ((i : Nat) : Int)).flat) (htz : truthK a 5 = BookT.zero) (k : Nat) (hk : k < 4) :
 Leg.Does Tryz.prog 82 #[(.pointer (some ⟨c, 0, none⟩)), (.int .i64 (((k : Nat) : Int)))] (fun _ => True) [cluSM c a g] (Ret (fun r' H => r' = .agg (ints (List.replicate 5 0)).toArray ∧ H = [cluSM c a g])) := by
 refine Leg.Does.body (n := 82) Tryz.func82 rfl rfl rfl (fun w0 F hF => sr fun _ J1 => XA z68 fun b4 => ?_)
 change TL _ _ _ _ _ _ _ _ _ [blkA b4 (ints (#v[0, 0, 0, 0, 0]).toList) 68, cluSM c a g]
 refine nx J1 (sr fun _ J2 => XA z68 fun b5 => ?_)
 change TL _ _ _ _ _ _ _ _ _ [blkA b5 (ints (#v[0, 0, 0, 0, 0]).toList) 68, blkA b4 (ints (#v[0, 0, 0, 0, 0]).toList) 68, cluSM c a g]
 refine nx J2 (TC.seq fun _ J3 => sr fun _ J4 => PS ?_)
 refine PS ?_
 refine TL.dec (fun h13 => ?_) (fun h13 => ?_)
 · exact absurd h13 (by omega)
 iterate 3 refine PS ?_
 refine TL.dec (fun h16 => ?_) (fun h16 => ?_)
 · exact absurd h16 (by omega)
 refine PS ?_
 refine nx J4 (CN (CX J3 (sr fun _ J5 => PS ?_)))
 refine CR nm12 (truth_does c a g hup hwf) (SM [2]) fun vR HR hR => ?_
 obtain ⟨bk, rfl, rfl⟩ := hR
 rw [htz]
 refine PS ?_
 refine nx J5 (sr fun _ J6 => XA z154 fun b7 => ?_)
 change TL _ _ _ _ _ _ _ _ _ [blkA b7 (ints ((#v[CellT.zero, CellT.zero, CellT.zero, CellT.zero, CellT.zero]).toList.flatMap CellT.flat)) 154, cluSM c a g, blkA bk (ints BookT.zero.flat) 77, blkA b5 (ints (#v[0, 0, 0, 0, 0]).toList) 68, blkA b4 (ints (#v[0, 0, 0, 0, 0]).toList) 68]
 refine nx J6 (TC.seq fun _ J7 => sr fun _ J8 => PS ?_)
 refine nx J8 (TC.block (TC.unroll 5 (sr fun _ J9 => PS ?_)))
 refine nx J9 (TC.seq fun _ J10 => CY (CX J10 (TC.seq fun _ J11 => TC.block (sr fun _ J12 => PS ?_))))
 refine PS ?_
 refine nx J12 (TC.region ?_)
 iterate 4 refine PS ?_
 refine CR nm36 (bookCell_does bk 0 77 (fun x => ints x.flat) Arnd.whole BookT.zero 0 ((k : Nat) : Int)) (SM [2]) fun vR HR hR => ?_
 obtain ⟨hv, rfl⟩ := hR
 rw [show bookCell BookT.zero 0 ((k : Nat) : Int) = CellT.zero from cellZ (i := 0) (by decide) hk] at hv
 obtain rfl : vR = .agg #[.int .i64 0, .int .i64 0, .int .i64 0, .int .i64 0, .int .i64 0, .int .i64 0, .int .i64 0] := hv
 refine tp (PV.indexArr (r := 0) rfl Y154 sz70 rfl rfl (lz rfl) (lz rfl) rfl) ?_
 refine TL.store (vs := ints (CellT.mk 0 0 (#v[0, 0, 0, 0, 0])).flat) (i := 1) (Want.plain rfl) rfl rfl rfl rfl rfl (by rw [(CellT.len (CellT.mk 0 0 (#v[0, 0, 0, 0, 0])))]; exact sz70) (ints_one _) rfl rfl (by have h0 := (vsc_len (#v[CellT.zero, CellT.zero, CellT.zero, CellT.zero, CellT.zero])); have h1 := (CellT.len (CellT.mk 0 0 (#v[0, 0, 0, 0, 0]))); omega) (vs_wr CellT.flat_length (#v[CellT.zero, CellT.zero, CellT.zero, CellT.zero, CellT.zero]) (i := 0) 0 (by decide) rfl (by have h1 := (CellT.len (CellT.mk 0 0 (#v[0, 0, 0, 0, 0]))); omega) (wwhole ((CellT.len ((#v[CellT.zero, CellT.zero, CellT.zero, CellT.zero, CellT.zero])[0])).trans (CellT.len (CellT.mk 0 0 (#v[0, 0, 0, 0, 0]))).symm))) rfl (TL.nil (TE.blockEnd (TE.next J11 (TC.region (tp (PV.add (r := 1) rfl rfl rfl (by decide)) ?_)))))
 refine PS ?_
 refine TL.nil (TE.again (sr fun _ J13 => PS ?_))
 refine nx J13 (TC.seq fun _ J14 => CY (CX J14 (TC.seq fun _ J15 => TC.block (sr fun _ J16 => PS ?_))))
 refine PS ?_
 refine nx J16 (TC.region ?_)
 iterate 4 refine PS ?_
 refine CR nm36 (bookCell_does bk 0 77 (fun x => ints x.flat) Arnd.whole BookT.zero 1 ((k : Nat) : Int)) (fun _ s => s) fun vR HR hR => ?_
 obtain ⟨hv, rfl⟩ := hR
 rw [show bookCell BookT.zero 1 ((k : Nat) : Int) = CellT.zero from cellZ (i := 1) (by decide) hk] at hv
 obtain rfl : vR = .agg #[.int .i64 0, .int .i64 0, .int .i64 0, .int .i64 0, .int .i64 0, .int .i64 0, .int .i64 0] := hv
 refine tp (PV.indexArr (r := 7) rfl Y154 sz70 rfl rfl (lz rfl) (lz rfl) rfl) ?_
 refine TL.store (vs := ints (CellT.mk 0 0 (#v[0, 0, 0, 0, 0])).flat) (i := 1) (Want.plain rfl) rfl rfl rfl rfl rfl (by rw [(CellT.len (CellT.mk 0 0 (#v[0, 0, 0, 0, 0])))]; exact sz70) (ints_one _) rfl rfl (by have h0 := (vsc_len ((#v[CellT.zero, CellT.zero, CellT.zero, CellT.zero, CellT.zero]).set 0 (CellT.mk 0 0 (#v[0, 0, 0, 0, 0])) (by omega))); have h1 := (CellT.len (CellT.mk 0 0 (#v[0, 0, 0, 0, 0]))); omega) (vs_wr CellT.flat_length ((#v[CellT.zero, CellT.zero, CellT.zero, CellT.zero, CellT.zero]).set 0 (CellT.mk 0 0 (#v[0, 0, 0, 0, 0])) (by omega)) (i := 1) 0 (by decide) rfl (by have h1 := (CellT.len (CellT.mk 0 0 (#v[0, 0, 0, 0, 0]))); omega) (wwhole ((CellT.len (((#v[CellT.zero, CellT.zero, CellT.zero, CellT.zero, CellT.zero]).set 0 (CellT.mk 0 0 (#v[0, 0, 0, 0, 0])) (by omega))[1])).trans (CellT.len (CellT.mk 0 0 (#v[0, 0, 0, 0, 0]))).symm))) rfl (TL.nil (TE.blockEnd (TE.next J15 (TC.region (tp (PV.add (r := 2) rfl rfl rfl (by decide)) ?_)))))
 refine PS ?_
 refine TL.nil (TE.again (sr fun _ J17 => PS ?_))
 refine nx J17 (TC.seq fun _ J18 => CY (CX J18 (TC.seq fun _ J19 => TC.block (sr fun _ J20 => PS ?_))))
 refine PS ?_
 refine nx J20 (TC.region ?_)
 iterate 4 refine PS ?_
 refine CR nm36 (bookCell_does bk 0 77 (fun x => ints x.flat) Arnd.whole BookT.zero 2 ((k : Nat) : Int)) (fun _ s => s) fun vR HR hR => ?_
 obtain ⟨hv, rfl⟩ := hR
 rw [show bookCell BookT.zero 2 ((k : Nat) : Int) = CellT.zero from cellZ (i := 2) (by decide) hk] at hv
 obtain rfl : vR = .agg #[.int .i64 0, .int .i64 0, .int .i64 0, .int .i64 0, .int .i64 0, .int .i64 0, .int .i64 0] := hv
 refine tp (PV.indexArr (r := 14) rfl Y154 sz70 rfl rfl (lz rfl) (lz rfl) rfl) ?_
 refine TL.store (vs := ints (CellT.mk 0 0 (#v[0, 0, 0, 0, 0])).flat) (i := 1) (Want.plain rfl) rfl rfl rfl rfl rfl (by rw [(CellT.len (CellT.mk 0 0 (#v[0, 0, 0, 0, 0])))]; exact sz70) (ints_one _) rfl rfl (by have h0 := (vsc_len (((#v[CellT.zero, CellT.zero, CellT.zero, CellT.zero, CellT.zero]).set 0 (CellT.mk 0 0 (#v[0, 0, 0, 0, 0])) (by omega)).set 1 (CellT.mk 0 0 (#v[0, 0, 0, 0, 0])) (by omega))); have h1 := (CellT.len (CellT.mk 0 0 (#v[0, 0, 0, 0, 0]))); omega) (vs_wr CellT.flat_length (((#v[CellT.zero, CellT.zero, CellT.zero, CellT.zero, CellT.zero]).set 0 (CellT.mk 0 0 (#v[0, 0, 0, 0, 0])) (by omega)).set 1 (CellT.mk 0 0 (#v[0, 0, 0, 0, 0])) (by omega)) (i := 2) 0 (by decide) rfl (by have h1 := (CellT.len (CellT.mk 0 0 (#v[0, 0, 0, 0, 0]))); omega) (wwhole ((CellT.len ((((#v[CellT.zero, CellT.zero, CellT.zero, CellT.zero, CellT.zero]).set 0 (CellT.mk 0 0 (#v[0, 0, 0, 0, 0])) (by omega)).set 1 (CellT.mk 0 0 (#v[0, 0, 0, 0, 0])) (by omega))[2])).trans (CellT.len (CellT.mk 0 0 (#v[0, 0, 0, 0, 0]))).symm))) rfl (TL.nil (TE.blockEnd (TE.next J19 (TC.region (tp (PV.add (r := 3) rfl rfl rfl (by decide)) ?_)))))
 refine PS ?_
 refine TL.nil (TE.again (sr fun _ J21 => PS ?_))
 refine nx J21 (TC.seq fun _ J22 => CY (CX J22 (TC.seq fun _ J23 => TC.block (sr fun _ J24 => PS ?_))))
 refine PS ?_
 refine nx J24 (TC.region ?_)
 iterate 4 refine PS ?_
 refine CR nm36 (bookCell_does bk 0 77 (fun x => ints x.flat) Arnd.whole BookT.zero 3 ((k : Nat) : Int)) (fun _ s => s) fun vR HR hR => ?_
 obtain ⟨hv, rfl⟩ := hR
 rw [show bookCell BookT.zero 3 ((k : Nat) : Int) = CellT.zero from cellZ (i := 3) (by decide) hk] at hv
 obtain rfl : vR = .agg #[.int .i64 0, .int .i64 0, .int .i64 0, .int .i64 0, .int .i64 0, .int .i64 0, .int .i64 0] := hv
 refine tp (PV.indexArr (r := 21) rfl Y154 sz70 rfl rfl (lz rfl) (lz rfl) rfl) ?_
 refine TL.store (vs := ints (CellT.mk 0 0 (#v[0, 0, 0, 0, 0])).flat) (i := 1) (Want.plain rfl) rfl rfl rfl rfl rfl (by rw [(CellT.len (CellT.mk 0 0 (#v[0, 0, 0, 0, 0])))]; exact sz70) (ints_one _) rfl rfl (by have h0 := (vsc_len ((((#v[CellT.zero, CellT.zero, CellT.zero, CellT.zero, CellT.zero]).set 0 (CellT.mk 0 0 (#v[0, 0, 0, 0, 0])) (by omega)).set 1 (CellT.mk 0 0 (#v[0, 0, 0, 0, 0])) (by omega)).set 2 (CellT.mk 0 0 (#v[0, 0, 0, 0, 0])) (by omega))); have h1 := (CellT.len (CellT.mk 0 0 (#v[0, 0, 0, 0, 0]))); omega) (vs_wr CellT.flat_length ((((#v[CellT.zero, CellT.zero, CellT.zero, CellT.zero, CellT.zero]).set 0 (CellT.mk 0 0 (#v[0, 0, 0, 0, 0])) (by omega)).set 1 (CellT.mk 0 0 (#v[0, 0, 0, 0, 0])) (by omega)).set 2 (CellT.mk 0 0 (#v[0, 0, 0, 0, 0])) (by omega)) (i := 3) 0 (by decide) rfl (by have h1 := (CellT.len (CellT.mk 0 0 (#v[0, 0, 0, 0, 0]))); omega) (wwhole ((CellT.len (((((#v[CellT.zero, CellT.zero, CellT.zero, CellT.zero, CellT.zero]).set 0 (CellT.mk 0 0 (#v[0, 0, 0, 0, 0])) (by omega)).set 1 (CellT.mk 0 0 (#v[0, 0, 0, 0, 0])) (by omega)).set 2 (CellT.mk 0 0 (#v[0, 0, 0, 0, 0])) (by omega))[3])).trans (CellT.len (CellT.mk 0 0 (#v[0, 0, 0, 0, 0]))).symm))) rfl (TL.nil (TE.blockEnd (TE.next J23 (TC.region (tp (PV.add (r := 4) rfl rfl rfl (by decide)) ?_)))))
 refine PS ?_
 refine TL.nil (TE.again (sr fun _ J25 => PS ?_))
 refine nx J25 (TC.seq fun _ J26 => CY (CX J26 (TC.seq fun _ J27 => TC.block (sr fun _ J28 => PS ?_))))
 refine PS ?_
 refine nx J28 (TC.region ?_)
 iterate 4 refine PS ?_
 refine CR nm36 (bookCell_does bk 0 77 (fun x => ints x.flat) Arnd.whole BookT.zero 4 ((k : Nat) : Int)) (fun _ s => s) fun vR HR hR => ?_
 obtain ⟨hv, rfl⟩ := hR
 rw [show bookCell BookT.zero 4 ((k : Nat) : Int) = CellT.zero from cellZ (i := 4) (by decide) hk] at hv
 obtain rfl : vR = .agg #[.int .i64 0, .int .i64 0, .int .i64 0, .int .i64 0, .int .i64 0, .int .i64 0, .int .i64 0] := hv
 refine tp (PV.indexArr (r := 28) rfl Y154 sz70 rfl rfl (lz rfl) (lz rfl) rfl) ?_
 refine TL.store (vs := ints (CellT.mk 0 0 (#v[0, 0, 0, 0, 0])).flat) (i := 1) (Want.plain rfl) rfl rfl rfl rfl rfl (by rw [(CellT.len (CellT.mk 0 0 (#v[0, 0, 0, 0, 0])))]; exact sz70) (ints_one _) rfl rfl (by have h0 := (vsc_len (((((#v[CellT.zero, CellT.zero, CellT.zero, CellT.zero, CellT.zero]).set 0 (CellT.mk 0 0 (#v[0, 0, 0, 0, 0])) (by omega)).set 1 (CellT.mk 0 0 (#v[0, 0, 0, 0, 0])) (by omega)).set 2 (CellT.mk 0 0 (#v[0, 0, 0, 0, 0])) (by omega)).set 3 (CellT.mk 0 0 (#v[0, 0, 0, 0, 0])) (by omega))); have h1 := (CellT.len (CellT.mk 0 0 (#v[0, 0, 0, 0, 0]))); omega) (vs_wr CellT.flat_length (((((#v[CellT.zero, CellT.zero, CellT.zero, CellT.zero, CellT.zero]).set 0 (CellT.mk 0 0 (#v[0, 0, 0, 0, 0])) (by omega)).set 1 (CellT.mk 0 0 (#v[0, 0, 0, 0, 0])) (by omega)).set 2 (CellT.mk 0 0 (#v[0, 0, 0, 0, 0])) (by omega)).set 3 (CellT.mk 0 0 (#v[0, 0, 0, 0, 0])) (by omega)) (i := 4) 0 (by decide) rfl (by have h1 := (CellT.len (CellT.mk 0 0 (#v[0, 0, 0, 0, 0]))); omega) (wwhole ((CellT.len ((((((#v[CellT.zero, CellT.zero, CellT.zero, CellT.zero, CellT.zero]).set 0 (CellT.mk 0 0 (#v[0, 0, 0, 0, 0])) (by omega)).set 1 (CellT.mk 0 0 (#v[0, 0, 0, 0, 0])) (by omega)).set 2 (CellT.mk 0 0 (#v[0, 0, 0, 0, 0])) (by omega)).set 3 (CellT.mk 0 0 (#v[0, 0, 0, 0, 0])) (by omega))[4])).trans (CellT.len (CellT.mk 0 0 (#v[0, 0, 0, 0, 0]))).symm))) rfl (TL.nil (TE.blockEnd (TE.next J27 (TC.region (tp (PV.add (r := 5) rfl rfl rfl (by decide)) ?_)))))
 refine PS ?_
 refine TL.nil (TE.again (sr fun _ J29 => PS ?_))
 refine nx J29 (TC.seq fun _ J30 => CN (TC.exit (TE.pass (TE.pass (TE.hit (TE.next J7 (TC.seq fun _ J31 => sr fun _ J32 => PS ?_)))))))
 refine CE nm130 (last_does c a g hup hvw) (SM [2]) ?_
 refine CE nm129 (owners_does) (fun _ s => s) ?_
 refine PS ?_
 refine nx J32 (TC.block ?_)
 refine TC.loop (α := (Nat)) (fun j => j ≤ 5) (fun j => [(4, (.pointer (some ⟨b4, 0, none⟩))), (5, (.pointer (some ⟨b5, 0, none⟩))), (7, (.pointer (some ⟨b7, 0, none⟩))), (33, (.agg ([.int .i64 0, .int .i64 1, .int .i64 2, .int .i64 3, .int .i64 4]).toArray)), (34, (.int .i64 (((j : Nat) : Int))))]) (fun j => [cluSM c a g, blkA b5 (ints (List.replicate 5 0)) 68, blkA b7 (ints (List.replicate 35 0)) 154, blkA b4 (ints (#v[0, 0, 0, 0, 0]).toList) 68]) (fun j => 5 - j) 0
  (Nat.zero_le _) SB
  (fun _ s => sep_keep [0, 2, 1, 1] rfl s) (fun j hinv => ?_)
 obtain hj := hinv
 refine sr fun _ J33 => PS ?_
 refine TL.dec (fun h35 => ?_) (fun h35 => ?_)
 refine nx J33 (TC.seq fun _ J34 => CY (CX J34 (TC.seq fun _ J35 => TC.block (sr fun _ J36 => PS ?_))))
 refine tp (PV.index1 (cs := [.int .i64 0, .int .i64 1, .int .i64 2, .int .i64 3, .int .i64 4]) (v := (.int .i64 ((j : Nat) : Int))) (r := j) rfl Y68 Y3 rfl sz3 rfl rfl (by omega) (by omega) (by omega) (own5_at (by omega))) ?_
 refine PS ?_
 refine PS ?_
 refine nx J36 (TC.seq fun _ J37 => sr fun _ J38 => PS ?_)
 refine PS ?_
 refine TL.dec (fun h39 => ?_) (fun h39 => ?_)
 · exact absurd h39 (by omega)
 iterate 3 refine PS ?_
 refine TL.dec (fun h42 => ?_) (fun h42 => ?_)
 · exact absurd h42 (by omega)
 refine PS ?_
 refine nx J38 (CN (CX J37 (TC.seq fun _ J39 => D1 2 mixedD ?_)))
 refine PD 0 ?_
 refine ta 1 rfl (PV.indexArr (r := j) rfl Y68 sz3 rfl rfl (by omega) (by omega) (by omega)) ?_
 refine PD 3 ?_
 refine ta 4 rfl (PV.indexArr (r := j * 7) rfl Y154 sz70 rfl rfl (by omega) (by omega) (by omega)) ?_
 refine ta 5 rfl (PV.fieldAddr (r := j * 7) rfl Y70 rfl sz3 rfl rfl) ?_
 refine ta 6 rfl (PV.load1 (v := (.int .i64 0)) rfl Y3 rfl rfl (fun _ h => h.2.1) (rep_at (by omega))) ?_
 refine PD 7 ?_
 refine ta 8 rfl (PV.indexArr (r := j * 7) rfl Y154 sz70 rfl rfl (by omega) (by omega) (by omega)) ?_
 refine ta 9 rfl (PV.fieldAddr (r := j * 7 + 1) rfl Y70 rfl sz3 rfl rfl) ?_
 refine ta 10 rfl (PV.load1 (v := (.int .i64 0)) rfl Y3 rfl rfl (fun _ h => h.2.1) (rep_at (by omega))) ?_
 refine ta 11 rfl (PV.sub (r := 0) rfl rfl rfl rfl) ?_
 refine AL 2 ?_
 refine tp (PV.load1 (v := (.int .i64 0)) rfl Y3 rfl rfl (RO 1) (rep_at (by omega))) ?_
 refine TL.nil (E1 2 (ta 12 rfl (PV.add (r := 0) rfl rfl rfl rfl) ?_))
 refine ta 13 rfl (PV.indexArr (r := j) rfl Y68 sz3 rfl rfl (by omega) (by omega) (by omega)) ?_
 refine AL 14 ?_
 refine TL.store1 (i := 1) (Want.plain rfl) rfl rfl rfl rfl rfl sz3 rfl rfl (by rw [rep_len]; omega) (rep_set 5 _) rfl (TL.nil (E1 2 (DN (TE.next J39 (sr fun _ J40 => PS ?_)))))
 refine nx J40 (TC.block ?_)
 refine TC.loop (α := (Nat)) (fun i => i ≤ 5) (fun i => [(4, (.pointer (some ⟨b4, 0, none⟩))), (5, (.pointer (some ⟨b5, 0, none⟩))), (7, (.pointer (some ⟨b7, 0, none⟩))), (9, (.int .i64 (((j : Nat) : Int)))), (10, (.int .i64 (((j : Nat) : Int)))), (33, (.agg ([.int .i64 0, .int .i64 1, .int .i64 2, .int .i64 3, .int .i64 4]).toArray)), (34, (.int .i64 (((j : Nat) : Int)))), (58, (.int .i64 (((i : Nat) : Int))))]) (fun i => [cluSM c a g, blkA b5 (ints (List.replicate 5 0)) 68, blkA b7 (ints (List.replicate 35 0)) 154, blkA b4 (ints (#v[0, 0, 0, 0, 0]).toList) 68]) (fun i => 5 - i) 0
  (Nat.zero_le _) SB
  (fun _ s => s) (fun i hinv => ?_)
 obtain hi := hinv
 refine sr fun _ J41 => PS ?_
 refine TL.dec (fun h59 => ?_) (fun h59 => ?_)
 refine nx J41 (TC.seq fun _ J42 => CY (CX J42 (TC.seq fun _ J43 => TC.block (sr fun _ J44 => PS ?_))))
 refine PS ?_
 refine nx J44 (D1 2 mixedD ?_)
 refine PD 0 ?_
 refine ta 1 rfl (PV.indexArr (r := j) rfl Y68 sz3 rfl rfl (by omega) (by omega) (by omega)) ?_
 refine PD 3 ?_
 refine PD 4 ?_
 refine ta 5 rfl (PV.indexArr (r := i * 7) rfl Y154 sz70 rfl rfl (by omega) (by omega) (by omega)) ?_
 refine ta 6 rfl (PV.fieldAddr (r := i * 7 + 2) rfl Y70 rfl sz68 rfl rfl) ?_
 refine ta 7 rfl (PV.indexArr (r := i * 7 + 2 + j) rfl Y68 sz3 rfl rfl (by omega) (by omega) (by omega)) ?_
 refine ta 8 rfl (PV.load1 (v := (.int .i64 0)) rfl Y3 rfl rfl (fun _ h => h.2.1) (rep_at (by omega))) ?_
 refine PD 9 ?_
 refine PD 10 ?_
 refine ta 11 rfl (PV.indexArr (r := j * 7) rfl Y154 sz70 rfl rfl (by omega) (by omega) (by omega)) ?_
 refine ta 12 rfl (PV.fieldAddr (r := j * 7 + 2) rfl Y70 rfl sz68 rfl rfl) ?_
 refine ta 13 rfl (PV.indexArr (r := j * 7 + 2 + i) rfl Y68 sz3 rfl rfl (by omega) (by omega) (by omega)) ?_
 refine ta 14 rfl (PV.load1 (v := (.int .i64 0)) rfl Y3 rfl rfl (fun _ h => h.2.1) (rep_at (by omega))) ?_
 refine ta 15 rfl (PV.sub (r := 0) rfl rfl rfl rfl) ?_
 refine AL 2 ?_
 refine tp (PV.load1 (v := (.int .i64 0)) rfl Y3 rfl rfl (RO 1) (rep_at (by omega))) ?_
 refine TL.nil (E1 2 (ta 16 rfl (PV.add (r := 0) rfl rfl rfl rfl) ?_))
 refine ta 17 rfl (PV.indexArr (r := j) rfl Y68 sz3 rfl rfl (by omega) (by omega) (by omega)) ?_
 refine AL 18 ?_
 refine TL.store1 (i := 1) (Want.plain rfl) rfl rfl rfl rfl rfl sz3 rfl rfl (by rw [rep_len]; omega) (rep_set 5 _) rfl (TL.nil (E1 2 (DN (TE.blockEnd (TE.next J43 (TC.region (AD ?_)))))))
 refine PS ?_
 refine TL.nil ?_
 exact TE.round ((i + 1) : (Nat)) (by omega) (by show 5 - (i + 1) < 5 - i; omega)
  SB
  (fun _ s => s)
 refine nx J41 (TC.seq fun _ J45 => CN (TC.exit (TE.pass (TE.pass (TE.hit (TE.blockEnd (TE.next J35 (TC.region (AD ?_)))))))))
 refine PS ?_
 refine TL.nil ?_
 exact TE.round ((j + 1) : (Nat)) (by omega) (by show 5 - (j + 1) < 5 - j; omega)
  SB
  (fun _ s => s)
 refine nx J33 (TC.seq fun _ J46 => CN (TC.exit (TE.pass (TE.pass (TE.hit (TE.next J31 (sr fun _ J47 => TL.mono (H' := [cluSM c a g, blkA b5 (ints (#v[0, 0, 0, 0, 0] : Vector Int 5).toList) 68, blkA b7 (ints (List.replicate 35 0)) 154, blkA b4 (ints (#v[0, 0, 0, 0, 0]).toList) 68]) (fun _ s => s) (tp (PV.loadN (vs := ints (#v[0, 0, 0, 0, 0] : Vector Int 5).toList) rfl Y68 rfl sz68 rfl (RO 1) (vi5_len (#v[0, 0, 0, 0, 0] : Vector Int 5)) (whole (vi5_len (#v[0, 0, 0, 0, 0] : Vector Int 5)))) ?_))))))))
 exact TL.store (vs := ints (#v[0, 0, 0, 0, 0] : Vector Int 5).toList) (i := 3) (Want.plain rfl) rfl rfl rfl rfl rfl (by rw [(vi5_len (#v[0, 0, 0, 0, 0] : Vector Int 5))]; exact sz68) (ints_one _) rfl rfl (by have h0 := (vi5_len (#v[0, 0, 0, 0, 0])); have h1 := (vi5_len (#v[0, 0, 0, 0, 0] : Vector Int 5)); omega) (wwhole ((vi5_len (#v[0, 0, 0, 0, 0])).trans (vi5_len (#v[0, 0, 0, 0, 0] : Vector Int 5)).symm)) rfl (nx J47 (TC.ret (TE.retC (H' := [cluSM c a g]) rfl rfl Y68 rfl sz68 (RO 3) (vi5_len (#v[0, 0, 0, 0, 0] : Vector Int 5)) (fun _ s => sep_keep [0] rfl s) ⟨rfl, rfl⟩)))
end Go.Proofs.YtohmkchalilodaaGreatDoor
end

section
namespace Go.Proofs.YtohmkchalilodaaGreatDoor
open Go Leg Codec Api Dsk Wal
theorem set7_does  :
 Leg.Does Tryz.prog 128 #[(.int .i64 7)] (fun _ => True) [] (Ret (fun r' H => ∃ u, r' = u ∧ H = [own u 3 [.int .i64 0, .int .i64 1, .int .i64 2] 3 1])) := by
 refine Leg.Does.body (n := 19) Tryz.func128 rfl rfl rfl (fun w0 F hF => sr fun _ J1 => PS ?_)
 refine nx J1 (sr fun _ J2 => TL.ownNilI 3 1 (fun on => ?_))
 clear on
 refine PS ?_
 refine nx J2 (TC.seq fun _ J3 => sr fun _ J4 => PS ?_)
 refine nx J4 (TC.block (TC.unroll 5 (sr fun _ J5 => PS ?_)))
 refine nx J5 (TC.seq fun _ J6 => CY (CX J6 (TC.seq fun _ J7 => TC.block (sr fun _ J8 => PS ?_))))
 refine PS ?_
 refine nx J8 (sr fun _ J9 => PS ?_)
 refine PS ?_
 refine tp (PV.shr (r := 7) rfl rfl rfl (by omega) (by decide)) ?_
 refine tp (PV.and (r := 1) rfl rfl rfl (by decide)) ?_
 refine PS ?_
 refine nx J9 (CY (TC.region (PS ?_)))
 refine PS ?_
 refine TL.buildSlice (cells := #[(.int .i64 0)]) (Want.plain rfl) rfl rfl rfl Y155 in3 rfl rfl rfl (by as_aux_lemma => kernel_rfl) (fun b15 => TL.append (k := 1) (news := [(.int .i64 0)]) (nn' := 1) (xs' := [(.int .i64 0)]) (Want.plain rfl) rfl rfl rfl Y155 in3 rfl rfl rfl rfl rfl rfl (fun _ _ => Src.rd rfl (RO 0) rfl) (by simp [Value.oneCell']) (by simp only [maxLen]; omega) (by omega) rfl rfl (fun v16 ov16 => PS ?_))
 refine TL.nil (TE.blockEnd (TE.next J7 (TC.region (tp (PV.add (r := 1) rfl rfl rfl (by decide)) ?_))))
 refine PS ?_
 refine TL.nil (TE.again (sr fun _ J10 => PS ?_))
 refine nx J10 (TC.seq fun _ J11 => CY (CX J11 (TC.seq fun _ J12 => TC.block (sr fun _ J13 => PS ?_))))
 refine PS ?_
 refine nx J13 (sr fun _ J14 => PS ?_)
 refine PS ?_
 refine tp (PV.shr (r := 3) rfl rfl rfl (by omega) (by decide)) ?_
 refine tp (PV.and (r := 1) rfl rfl rfl (by decide)) ?_
 refine PS ?_
 refine nx J14 (CY (TC.region (PS ?_)))
 refine PS ?_
 refine TL.mono (H' := [own v16 (1) ([(.int .i64 0)]) 3 1]) (fun _ s => sep_keep [1] rfl s) (TL.buildSlice (cells := #[(.int .i64 1)]) (Want.plain rfl) rfl rfl rfl Y155 in3 rfl rfl rfl (by as_aux_lemma => kernel_rfl) (fun b15 => TL.append (k := 1) (news := [(.int .i64 1)]) (nn' := 2) (xs' := [(.int .i64 0), (.int .i64 1)]) (Want.plain rfl) rfl rfl rfl Y155 in3 rfl rfl rfl rfl rfl rfl (fun _ _ => Src.rd rfl (RO 0) rfl) (by simp [Value.oneCell']) (by simp only [maxLen]; omega) (by omega) rfl rfl (fun v16 ov16 => PS ?_)))
 refine TL.nil (TE.blockEnd (TE.next J12 (TC.region (tp (PV.add (r := 2) rfl rfl rfl (by decide)) ?_))))
 refine PS ?_
 refine TL.nil (TE.again (sr fun _ J15 => PS ?_))
 refine nx J15 (TC.seq fun _ J16 => CY (CX J16 (TC.seq fun _ J17 => TC.block (sr fun _ J18 => PS ?_))))
 refine PS ?_
 refine nx J18 (sr fun _ J19 => PS ?_)
 refine PS ?_
 refine tp (PV.shr (r := 1) rfl rfl rfl (by omega) (by decide)) ?_
 refine tp (PV.and (r := 1) rfl rfl rfl (by decide)) ?_
 refine PS ?_
 refine nx J19 (CY (TC.region (PS ?_)))
 refine PS ?_
 refine TL.mono (H' := [own v16 (2) ([(.int .i64 0), (.int .i64 1)]) 3 1]) (fun _ s => sep_keep [1] rfl s) (TL.buildSlice (cells := #[(.int .i64 2)]) (Want.plain rfl) rfl rfl rfl Y155 in3 rfl rfl rfl (by as_aux_lemma => kernel_rfl) (fun b15 => TL.append (k := 1) (news := [(.int .i64 2)]) (nn' := 3) (xs' := [(.int .i64 0), (.int .i64 1), (.int .i64 2)]) (Want.plain rfl) rfl rfl rfl Y155 in3 rfl rfl rfl rfl rfl rfl (fun _ _ => Src.rd rfl (RO 0) rfl) (by simp [Value.oneCell']) (by simp only [maxLen]; omega) (by omega) rfl rfl (fun v16 ov16 => PS ?_)))
 refine TL.nil (TE.blockEnd (TE.next J17 (TC.region (tp (PV.add (r := 3) rfl rfl rfl (by decide)) ?_))))
 refine PS ?_
 refine TL.nil (TE.again (sr fun _ J20 => PS ?_))
 refine nx J20 (TC.seq fun _ J21 => CY (CX J21 (TC.seq fun _ J22 => TC.block (sr fun _ J23 => PS ?_))))
 refine PS ?_
 refine nx J23 (sr fun _ J24 => PS ?_)
 refine PS ?_
 refine tp (PV.shr (r := 0) rfl rfl rfl (by omega) (by decide)) ?_
 refine tp (PV.and (r := 0) rfl rfl rfl (by decide)) ?_
 refine PS ?_
 refine nx J24 (CN (TC.skip (TE.blockEnd (TE.next J22 (TC.region (tp (PV.add (r := 4) rfl rfl rfl (by decide)) ?_))))))
 refine PS ?_
 refine TL.nil (TE.again (sr fun _ J25 => PS ?_))
 refine nx J25 (TC.seq fun _ J26 => CY (CX J26 (TC.seq fun _ J27 => TC.block (sr fun _ J28 => PS ?_))))
 refine PS ?_
 refine nx J28 (sr fun _ J29 => PS ?_)
 refine PS ?_
 refine tp (PV.shr (r := 0) rfl rfl rfl (by omega) (by decide)) ?_
 refine tp (PV.and (r := 0) rfl rfl rfl (by decide)) ?_
 refine PS ?_
 refine nx J29 (CN (TC.skip (TE.blockEnd (TE.next J27 (TC.region (tp (PV.add (r := 5) rfl rfl rfl (by decide)) ?_))))))
 refine PS ?_
 refine TL.nil (TE.again (sr fun _ J30 => PS ?_))
 refine nx J30 (TC.seq fun _ J31 => CN (TC.exit (TE.pass (TE.pass (TE.hit (TE.next J3 (sr fun _ J32 => PS ?_)))))))
 refine PS ?_
 exact nx J32 (TC.ret (WK [1] (TE.ret1 rfl rfl ⟨_, rfl, rfl⟩)))
def machB (a : CM) (i : Nat) : List UInt8 := lineB ([109, 97, 99, 104, 105, 110, 101, 32] ++ digB i ++ [32, 117, 112]) [1, (a.at' i).x.own.version, 0, 1, 2]
theorem digs5 {n : Int} (h : 0 ≤ n ∧ n < 10) : ∀ m ∈ ([1, n, 0, 1, 2] : List Int), 0 ≤ m ∧ m < 10 := by
 intro m hm
 simp only [List.mem_cons, List.not_mem_nil, or_false] at hm
 rcases hm with rfl | rfl | rfl | rfl | rfl
 · decide
 · exact h
 · decide
 · decide
 · decide
theorem tmach_does (t c : Nat) (A v : Value) (bs : List UInt8) (a : CM) (g : CG) (i : Nat) (hi : i < 5) (hA : A = .pointer none ∨ A = .pointer (some ⟨t, 1, none⟩)) (hv : v.oneCell' = true) (hb : bs.length ≤ 1000) (hup : ∀ j, j < 5 → (a.at' j).up = true) (hvw : ∀ j, j < 5 → (a.at' j).x.view = firstV) (hvd : 0 ≤ (a.at' i).x.own.version ∧ (a.at' i).x.own.version < 10) (hpl : (a.at' i).pl = []) (hrs : (a.at' i).rs = []) :
 Leg.Does Tryz.prog 81 #[(.pointer (some ⟨t, 0, none⟩)), (.int .i64 (((i : Nat) : Int)))] (fun _ => True) [blkA t [(.pointer (some ⟨c, 0, none⟩)), A, v] 163, ownB v (bs) 5, cluSM c a g] (Ret (fun _ H => ∃ v', v'.oneCell' = true ∧ H = [blkA t [(.pointer (some ⟨c, 0, none⟩)), (.pointer (some ⟨t, 1, none⟩)), v'] 163, ownB v' (bs ++ machB a i) 5, cluSM c a g])) := by
 refine Leg.Does.body (n := 63) Tryz.func81 rfl rfl rfl (fun w0 F hF => sr fun _ J1 => PS ?_)
 refine CE nm125 (itoa_does i (by omega)) (fun _ s => s) ?_
 refine tp (PV.strAdd (a := [109, 97, 99, 104, 105, 110, 101, 32]) (b := digB i) rfl rfl rfl (by simp [digB])) ?_
 refine PS ?_
 refine nx J1 (TC.seq fun _ J2 => sr fun _ J3 => PS ?_)
 refine PS ?_
 refine FA 0 Y163 sz23 ?_
 refine LA 0 Y23 ?_
 refine PS ?_
 refine CE nm14 (machineM_does (i := i) hi (hup i hi)) (SM [2]) ?_
 refine PS ?_
 refine nx J3 (sr fun _ J4 => PS ?_)
 refine tp (PV.ptrNil rfl Y36 rfl rfl) ?_
 refine nx J4 (CN (sr fun _ J5 => PS ?_))
 refine CR nm126 (lookM (i := i) (v0 := fun x => .agg (ints x.view.flat).toArray) hi (hup i hi) (fun x => rView_does (g.r i) x) (fun _ _ => rfl)) (fun _ s => s) fun vR HR hR => ?_
 obtain ⟨hv2, rfl⟩ := hR
 rw [hvw i hi] at hv2
 subst hv2
 refine XA z85 fun b6 => ?_
 change TL _ _ _ _ _ _ _ _ _ [blkA b6 (ints ViewT.zero.flat) 85, cluSM c a g, blkA t [(.pointer (some ⟨c, 0, none⟩)), A, v] 163, ownB v (bs) 5]
 refine TL.store (vs := ints firstV.flat) (i := 0) (Want.plain rfl) rfl rfl rfl rfl rfl (by rw [(ViewT.len firstV)]; exact sz85) (ints_one _) rfl rfl (LC (ViewT.len _) (ViewT.len _)) (wwhole ((ViewT.len ViewT.zero).trans (ViewT.len firstV).symm)) rfl (nx J5 (TC.seq fun _ J6 => D1 0 mixedD ?_))
 refine FD 0 0 Y85 sz3 ?_
 refine ta 1 rfl (PV.to (v' := (.int .i64 1)) (PV.load1 (v := (.int .i64 (firstV.epoch))) rfl Y3 rfl rfl (fun _ h => h.2.1) (ViewT.at_epoch firstV rfl)) rfl) ?_
 refine PD 2 ?_
 refine FD 6 1 Y85 sz3 ?_
 refine ta 7 rfl (PV.to (v' := (.int .i64 7)) (PV.load1 (v := (.int .i64 (firstV.members))) rfl Y3 rfl rfl (fun _ h => h.2.1) (ViewT.at_members firstV rfl)) rfl) ?_
 refine AL 3 ?_
 refine CE nm127 (lookM (i := i) (v0 := fun x => .agg (ints x.own.flat).toArray) hi (hup i hi) (fun x => rOwn_does (g.r i) x) (fun _ _ => rfl)) (SM [1]) ?_
 refine TL.nil (E1 1 (ta 4 rfl (PV.field1 (cs := ints ((a.at' i).x.own).flat) (v := Value.int .i64 (((a.at' i).x.own).version)) rfl Y74 rfl Y3 rfl rfl (RowT.at_version _ rfl)) ?_))
 refine TD.all [5, 8] (by kernel_rfl) rfl (AllT.cons rfl ?_ ?_)
 refine TL.buildSlice (cells := #[(.int .i64 1), (.int .i64 (((a.at' i).x.own).version))]) (Want.plain rfl) rfl rfl rfl Y155 in3 rfl rfl rfl (by as_aux_lemma => kernel_rfl) (fun b32 => TL.nil (E1 2 (AL 8 ?_)))
 refine CR nm128 (set7_does) (fun _ s => s) fun vR HR hR => ?_
 obtain ⟨_, rfl, rfl⟩ := hR
 revert vR
 intro u7
 refine TL.nil (E1 3 (AL 9 ?_))
 refine TL.mono (H' := [own u7 (3) ([.int .i64 0, .int .i64 1, .int .i64 2]) 3 1, own (.slice (some ⟨b32, 0, none⟩) (2) (2)) (2) ([.int .i64 1, .int .i64 (a.at' i).x.own.version]) 3 1, cluSM c a g, blkA b6 (ints firstV.flat) 85, blkA t [(.pointer (some ⟨c, 0, none⟩)), A, v] 163, ownB v (bs) 5]) (fun _ s => sep_own (g := b32) (cap := 2) (nn := 2) (e := 3) (cur := [.int .i64 1, .int .i64 (a.at' i).x.own.version]) (xs := [.int .i64 1, .int .i64 (a.at' i).x.own.version]) 1 rfl rfl (by decide) (by decide) rfl rfl s) (TL.append (k := 1) (news := [.int .i64 0, .int .i64 1, .int .i64 2]) (nn' := 5) (xs' := [.int .i64 1, .int .i64 (a.at' i).x.own.version, .int .i64 0, .int .i64 1, .int .i64 2]) (Want.plain rfl) rfl rfl rfl Y155 in3 rfl rfl rfl rfl rfl rfl (fun _ s => Src.own 0 rfl rfl s) (by intro u hu; simp only [List.mem_cons, List.not_mem_nil, or_false] at hu; rcases hu with rfl | rfl | rfl <;> rfl) (by decide) (by decide) rfl rfl (fun v36 ov36 => TL.nil (E1 3 (PD 10 ?_))))
 refine DN (TE.next J6 (TC.region (PS ?_)))
 refine PS ?_
 refine tp (PV.strAdd (a := [109, 97, 99, 104, 105, 110, 101, 32] ++ digB i) (b := [32, 117, 112]) rfl rfl rfl (by simp [digB])) ?_
 refine PS ?_
 refine CQ nm83 (line_does t c A v v36 bs ([109, 97, 99, 104, 105, 110, 101, 32] ++ digB i ++ [32, 117, 112]) [1, (a.at' i).x.own.version, 0, 1, 2] hA hv (digs5 hvd) (by simp [digB]; omega)) (SM [4, 4]) (isI_own (l := [1, (a.at' i).x.own.version, 0, 1, 2]) 1 rfl rfl) fun vR HR hR => ?_
 obtain ⟨w1, hw1, rfl⟩ := hR
 refine nx J2 (sr fun _ J7 => PS ?_)
 refine PS ?_
 refine FA 0 Y163 sz23 ?_
 refine LA 0 Y23 ?_
 refine PS ?_
 refine CR nm17 (repliesM_does (i := i) hi (hup i hi) (by rw [hpl]; decide) (by rw [hrs]; decide)) (SM [4]) fun vR HR hR => ?_
 obtain ⟨_, rfl, hH⟩ := hR
 revert vR
 intro ur hH
 rw [hpl, hrs] at hH
 subst hH
 refine TL.ownLen 1 rfl rfl (fun hlr _ => tp (PV.lenV rfl Y42 rfl hlr) ?_)
 refine PS ?_
 refine nx J7 (TC.block (TC.unroll 1 (sr fun _ J8 => PS ?_)))
 exact nx J8 (TC.seq fun _ J9 => CN (TC.exit (TE.pass (TE.pass (TE.hit (WK [2, 2, 0] (TE.end0 rfl ⟨_, hw1, rfl⟩)))))))
 refine AllT.cons rfl ?_ ?_
 refine CR nm128 (set7_does) (fun _ s => s) fun vR HR hR => ?_
 obtain ⟨_, rfl, rfl⟩ := hR
 revert vR
 intro u7
 refine TL.nil (E1 2 (AL 5 ?_))
 refine TL.buildSlice (cells := #[(.int .i64 1), (.int .i64 (((a.at' i).x.own).version))]) (Want.plain rfl) rfl rfl rfl Y155 in3 rfl rfl rfl (by as_aux_lemma => kernel_rfl) (fun b32 => TL.nil (E1 3 (AL 9 ?_)))
 refine TL.mono (H' := [own (.slice (some ⟨b32, 0, none⟩) (2) (2)) (2) ([.int .i64 1, .int .i64 (a.at' i).x.own.version]) 3 1, own u7 (3) ([.int .i64 0, .int .i64 1, .int .i64 2]) 3 1, cluSM c a g, blkA b6 (ints firstV.flat) 85, blkA t [(.pointer (some ⟨c, 0, none⟩)), A, v] 163, ownB v (bs) 5]) (fun _ s => sep_own (g := b32) (cap := 2) (nn := 2) (e := 3) (cur := [.int .i64 1, .int .i64 (a.at' i).x.own.version]) (xs := [.int .i64 1, .int .i64 (a.at' i).x.own.version]) 0 rfl rfl (by decide) (by decide) rfl rfl s) (TL.append (k := 0) (news := [.int .i64 0, .int .i64 1, .int .i64 2]) (nn' := 5) (xs' := [.int .i64 1, .int .i64 (a.at' i).x.own.version, .int .i64 0, .int .i64 1, .int .i64 2]) (Want.plain rfl) rfl rfl rfl Y155 in3 rfl rfl rfl rfl rfl rfl (fun _ s => Src.own 1 rfl rfl s) (by intro u hu; simp only [List.mem_cons, List.not_mem_nil, or_false] at hu; rcases hu with rfl | rfl | rfl <;> rfl) (by decide) (by decide) rfl rfl (fun v36 ov36 => TL.nil (E1 3 (PD 10 ?_))))
 refine DN (TE.next J6 (TC.region (PS ?_)))
 refine PS ?_
 refine tp (PV.strAdd (a := [109, 97, 99, 104, 105, 110, 101, 32] ++ digB i) (b := [32, 117, 112]) rfl rfl rfl (by simp [digB])) ?_
 refine PS ?_
 refine CQ nm83 (line_does t c A v v36 bs ([109, 97, 99, 104, 105, 110, 101, 32] ++ digB i ++ [32, 117, 112]) [1, (a.at' i).x.own.version, 0, 1, 2] hA hv (digs5 hvd) (by simp [digB]; omega)) (SM [4, 4]) (isI_own (l := [1, (a.at' i).x.own.version, 0, 1, 2]) 0 rfl rfl) fun vR HR hR => ?_
 obtain ⟨w1, hw1, rfl⟩ := hR
 refine nx J2 (sr fun _ J10 => PS ?_)
 refine PS ?_
 refine FA 0 Y163 sz23 ?_
 refine LA 0 Y23 ?_
 refine PS ?_
 refine CR nm17 (repliesM_does (i := i) hi (hup i hi) (by rw [hpl]; decide) (by rw [hrs]; decide)) (SM [4]) fun vR HR hR => ?_
 obtain ⟨_, rfl, hH⟩ := hR
 revert vR
 intro ur hH
 rw [hpl, hrs] at hH
 subst hH
 refine TL.ownLen 1 rfl rfl (fun hlr _ => tp (PV.lenV rfl Y42 rfl hlr) ?_)
 refine PS ?_
 refine nx J10 (TC.block (TC.unroll 1 (sr fun _ J11 => PS ?_)))
 exact nx J11 (TC.seq fun _ J12 => CN (TC.exit (TE.pass (TE.pass (TE.hit (WK [2, 2, 0] (TE.end0 rfl ⟨_, hw1, rfl⟩)))))))
 exact AllT.nil
end Go.Proofs.YtohmkchalilodaaGreatDoor
end

section
namespace Go.Proofs.YtohmkchalilodaaGreatDoor
open Go Leg Codec Api Dsk Wal
def machsB (a : CM) (i : Nat) : List UInt8 := (List.range i).flatMap (machB a)
theorem machB_len (a : CM) (i : Nat) : (machB a i).length = 23 := by simp [machB, lineB, numsB, digI, digB]
theorem machsB_succ (a : CM) (i : Nat) : machsB a (i + 1) = machsB a i ++ machB a i := by unfold machsB; rw [List.range_succ, List.flatMap_append]; simp
theorem machsB_len (a : CM) : ∀ i, (machsB a i).length = 23 * i
 | 0 => rfl
 | i + 1 => by rw [machsB_succ, List.length_append, machsB_len a i, machB_len]; omega
def ctrB (k : Nat) : List UInt8 := lineB [99, 111, 117, 110, 116, 101, 114] [((k : Nat) : Int), 0, 0, 0, 0, 0, 0]
theorem ctrB_len (k : Nat) : (ctrB k).length = 22 := by simp [ctrB, lineB, numsB, digI, digB]
def telsB (a : CM) (k : Nat) : List UInt8 := machsB a 5 ++ (List.range k).flatMap ctrB
theorem telsB_zero (a : CM) : telsB a 0 = machsB a 5 := List.append_nil _
theorem telsB_succ (a : CM) (k : Nat) : telsB a (k + 1) = telsB a k ++ ctrB k := by unfold telsB; rw [List.range_succ, List.flatMap_append, List.append_assoc]; simp
theorem telsB_len (a : CM) : ∀ k, (telsB a k).length = 115 + 22 * k
 | 0 => by rw [telsB_zero, machsB_len]
 | k + 1 => by rw [telsB_succ, List.length_append, telsB_len a k, ctrB_len]; omega
theorem valueZ {k : Nat} (hk : k < 4) : bookValue BookT.zero ((k : Nat) : Int) = 0 := by
 match k, hk with
 | 0, _ | 1, _ | 2, _ | 3, _ => show _ = _; kernel_rfl
theorem digs7 {k : Nat} (hk : k < 4) : ∀ m ∈ ([((k : Nat) : Int), 0, 0, 0, 0, 0, 0] : List Int), 0 ≤ m ∧ m < 10 := by
 intro m hm
 simp only [List.mem_cons, List.not_mem_nil, or_false] at hm
 rcases hm with rfl | rfl | rfl | rfl | rfl | rfl | rfl
 · omega
 all_goals decide
theorem tcluster_does (c : Nat) (a : CM) (g : CG) (hup : ∀ j, j < 5 → (a.at' j).up = true) (hvw : ∀ j, j < 5 → (a.at' j).x.view = firstV) (hwf : ∀ j i, j < 5 → i < 5 → WF (mirRow (a.at' j).x.mirror ((i : Nat) : Int)).flat) (htz : truthK a 5 = BookT.zero) (hvd : ∀ i, i < 5 → 0 ≤ (a.at' i).x.own.version ∧ (a.at' i).x.own.version < 10) (hpl : ∀ i, i < 5 → (a.at' i).pl = []) (hrs : ∀ i, i < 5 → (a.at' i).rs = []) :
 Leg.Does Tryz.prog 41 #[(.pointer (some ⟨c, 0, none⟩))] (fun _ => True) [cluSM c a g] (Ret (fun r' H => r' = strV (telsB a 4) ∧ H = [cluSM c a g])) := by
 refine Leg.Does.body (n := 40) Tryz.func41 rfl rfl rfl (fun w0 F hF => sr fun _ J1 => PS ?_)
 refine nx J1 (sr fun _ J2 => PS ?_)
 refine tp (PV.build (cells := #[(.pointer (some ⟨c, 0, none⟩)), (.pointer none), (.slice none 0 0)]) rfl rfl (by as_aux_lemma => kernel_rfl)) ?_
 refine XB fun b10 => ?_
 refine PS ?_
 refine nx J2 (TC.seq fun _ J3 => sr fun _ J4 => PS ?_)
 refine nx J4 (TC.block ?_)
 refine TC.loop (α := (Nat) × (Value) × (Value)) (fun ⟨i, A, v⟩ => i ≤ 5 ∧ (A = .pointer none ∨ A = (.pointer (some ⟨b10, 1, none⟩))) ∧ v.oneCell' = true ∧ (0 < i → A = (.pointer (some ⟨b10, 1, none⟩)))) (fun ⟨i, A, v⟩ => [(0, (.pointer (some ⟨c, 0, none⟩))), (2, (strV ([]))), (3, (.pointer (some ⟨b10, 0, none⟩))), (11, (.int .i64 (((i : Nat) : Int))))]) (fun ⟨i, A, v⟩ => [blkA b10 [(.pointer (some ⟨c, 0, none⟩)), A, v] 163, ownB v (machsB a i) 5, cluSM c a g]) (fun ⟨i, A, v⟩ => 5 - i) (0, .pointer none, .slice none 0 0)
  ⟨Nat.zero_le _, Or.inl rfl, rfl, fun h => absurd h (by decide)⟩ SB
  (fun _ s => sep_selR [1, 0, 0] rfl (own_none 5 1 s)) (fun ⟨i, A, v⟩ hinv => ?_)
 obtain ⟨hi, hA, hv, hself⟩ := hinv
 refine sr fun _ J5 => PS ?_
 refine TL.dec (fun h12 => ?_) (fun h12 => ?_)
 refine nx J5 (TC.seq fun _ J6 => CY (CX J6 (TC.seq fun _ J7 => TC.block (sr fun _ J8 => PS ?_))))
 refine PS ?_
 refine nx J8 (TC.region (PS ?_))
 refine PS ?_
 refine CR nm81 (tmach_does b10 c A v (machsB a i) a g i (by omega) hA hv (by rw [machsB_len]; omega) hup hvw (hvd i (by omega)) (hpl i (by omega)) (hrs i (by omega))) (fun _ s => s) fun vR HR hR => ?_
 obtain ⟨w1, hw1, rfl⟩ := hR
 refine TL.nil (TE.blockEnd (TE.next J7 (TC.region (AD ?_))))
 refine PS ?_
 refine TL.nil ?_
 exact TE.round ((i + 1, (.pointer (some ⟨b10, 1, none⟩)), w1) : (Nat) × (Value) × (Value)) ⟨by omega, Or.inr rfl, hw1, fun _ => rfl⟩ (by show 5 - (i + 1) < 5 - i; omega)
  SB
  (fun _ s => by
   show sep [blkA b10 [(.pointer (some ⟨c, 0, none⟩)), (.pointer (some ⟨b10, 1, none⟩)), w1] 163, ownB w1 (machsB a (i + 1)) 5, cluSM c a g] _
   rw [machsB_succ]
   exact sep_keep [0, 0, 0] rfl s)
 obtain rfl : A = (.pointer (some ⟨b10, 1, none⟩)) := hself (by omega)
 obtain rfl : i = 5 := by omega
 refine nx J5 (TC.seq fun _ J9 => CN (TC.exit (TE.pass (TE.pass (TE.hit (TE.next J3 (sr fun _ J10 => PS ?_)))))))
 refine CR nm12 (truth_does c a g hup hwf) (SM [2]) fun vR HR hR => ?_
 obtain ⟨bk, rfl, rfl⟩ := hR
 rw [htz]
 refine PS ?_
 refine nx J10 (TC.seq fun _ J11 => sr fun _ J12 => PS ?_)
 refine nx J12 (TC.block ?_)
 refine TC.loop (α := (Nat) × (Value)) (fun ⟨k, v⟩ => k ≤ 4 ∧ v.oneCell' = true) (fun ⟨k, v⟩ => [(0, (.pointer (some ⟨c, 0, none⟩))), (2, (strV ([]))), (3, (.pointer (some ⟨b10, 0, none⟩))), (5, (.pointer (some ⟨bk, 0, none⟩))), (20, (.int .i64 (((k : Nat) : Int))))]) (fun ⟨k, v⟩ => [blkA b10 [(.pointer (some ⟨c, 0, none⟩)), (.pointer (some ⟨b10, 1, none⟩)), v] 163, ownB v (telsB a k) 5, cluSM c a g, blkA bk (ints BookT.zero.flat) 77]) (fun ⟨k, v⟩ => 4 - k) (0, v)
  ⟨Nat.zero_le _, hv⟩ SB
  (fun _ s => by
  show sep [blkA b10 [(.pointer (some ⟨c, 0, none⟩)), (.pointer (some ⟨b10, 1, none⟩)), v] 163, ownB v (telsB a 0) 5, cluSM c a g, blkA bk (ints BookT.zero.flat) 77] _
  rw [telsB_zero]
  exact sep_selR [2, 2, 0, 0] rfl s) (fun ⟨k, v⟩ hinv => ?_)
 obtain ⟨hk, hv⟩ := hinv
 refine sr fun _ J13 => PS ?_
 refine TL.dec (fun h21 => ?_) (fun h21 => ?_)
 refine nx J13 (TC.seq fun _ J14 => CY (CX J14 (TC.seq fun _ J15 => TC.block (sr fun _ J16 => PS ?_))))
 refine PS ?_
 refine nx J16 (sr fun _ J17 => PS ?_)
 refine PS ?_
 refine CR nm82 (shares_does c a g hup hvw hwf htz k (by omega)) (SM [2]) fun vR HR hR => ?_
 obtain ⟨hv3, rfl⟩ := hR
 obtain rfl : vR = (.agg (ints (#v[0, 0, 0, 0, 0] : Vector Int 5).toList).toArray) := hv3
 refine XA z68 fun b7 => ?_
 change TL _ _ _ _ _ _ _ _ _ [blkA b7 (ints (#v[0, 0, 0, 0, 0]).toList) 68, cluSM c a g, blkA b10 [(.pointer (some ⟨c, 0, none⟩)), (.pointer (some ⟨b10, 1, none⟩)), v] 163, ownB v (telsB a k) 5, blkA bk (ints BookT.zero.flat) 77]
 refine TL.store (vs := ints (#v[0, 0, 0, 0, 0] : Vector Int 5).toList) (i := 0) (Want.plain rfl) rfl rfl rfl rfl rfl (by rw [(vi5_len (#v[0, 0, 0, 0, 0] : Vector Int 5))]; exact sz68) (ints_one _) rfl rfl (by have h0 := (vi5_len (#v[0, 0, 0, 0, 0])); have h1 := (vi5_len (#v[0, 0, 0, 0, 0] : Vector Int 5)); omega) (wwhole ((vi5_len (#v[0, 0, 0, 0, 0])).trans (vi5_len (#v[0, 0, 0, 0, 0] : Vector Int 5)).symm)) rfl (nx J17 (D0 mixedD ?_))
 refine PD 0 ?_
 refine PD 1 ?_
 refine PD 2 ?_
 refine PD 3 ?_
 refine ta 6 rfl (PV.sliceArr rfl Y68 sz3 rfl) ?_
 refine AL 4 ?_
 refine CR nm13 (bookValue_does bk 0 77 (fun x => ints x.flat) Arnd.whole BookT.zero ((k : Nat) : Int)) (SM [4]) fun vR HR hR => ?_
 obtain ⟨hv4, rfl⟩ := hR
 rw [valueZ (by omega)] at hv4
 subst hv4
 refine TL.nil (E0 (AL 5 ?_))
 refine TL.buildSlice (cells := #[(.int .i64 (((k : Nat) : Int))), (.int .i64 0)]) (Want.plain rfl) rfl rfl rfl Y155 in3 rfl rfl rfl (by as_aux_lemma => kernel_rfl) (fun b31 => TL.nil (E0 (AL 7 ?_)))
 refine TL.mono (H' := [own (.slice (some ⟨b31, 0, none⟩) (2) (2)) (2) ([.int .i64 ((k : Nat) : Int), .int .i64 0]) 3 1, blkA bk (ints BookT.zero.flat) 77, blkA b7 (ints (#v[0, 0, 0, 0, 0] : Vector Int 5).toList) 68, cluSM c a g, blkA b10 [(.pointer (some ⟨c, 0, none⟩)), (.pointer (some ⟨b10, 1, none⟩)), v] 163, ownB v (telsB a k) 5]) (fun _ s => sep_own (g := b31) (cap := 2) (nn := 2) (e := 3) (cur := [.int .i64 ((k : Nat) : Int), .int .i64 0]) (xs := [.int .i64 ((k : Nat) : Int), .int .i64 0]) 0 rfl rfl (by decide) (by decide) rfl rfl s) (TL.append (k := 0) (news := [.int .i64 0, .int .i64 0, .int .i64 0, .int .i64 0, .int .i64 0]) (nn' := 7) (xs' := [.int .i64 ((k : Nat) : Int), .int .i64 0, .int .i64 0, .int .i64 0, .int .i64 0, .int .i64 0, .int .i64 0]) (Want.plain rfl) rfl rfl rfl Y155 in3 rfl rfl rfl rfl rfl rfl (fun _ _ => Src.rd rfl (RO 2) rfl) (by intro u hu; simp only [List.mem_cons, List.not_mem_nil, or_false] at hu; rcases hu with rfl | rfl | rfl | rfl | rfl <;> rfl) (by decide) (by decide) rfl rfl (fun v33 ov33 => TL.nil (E0 (AL 8 ?_))))
 refine CQ nm83 (line_does b10 c (.pointer (some ⟨b10, 1, none⟩)) v v33 (telsB a k) [99, 111, 117, 110, 116, 101, 114] [((k : Nat) : Int), 0, 0, 0, 0, 0, 0] (Or.inr rfl) hv (digs7 (by omega)) (by rw [telsB_len]; simp; omega)) (SM [4, 4]) (isI_own (l := [((k : Nat) : Int), 0, 0, 0, 0, 0, 0]) 0 rfl rfl) fun vR HR hR => ?_
 obtain ⟨w2, hw2, rfl⟩ := hR
 refine TL.nil (E0 (DN (TE.blockEnd (TE.next J15 (TC.region (AD ?_))))))
 refine PS ?_
 refine TL.nil ?_
 exact TE.round ((k + 1, w2) : (Nat) × (Value)) ⟨by omega, hw2⟩ (by show 4 - (k + 1) < 4 - k; omega)
  SB
  (fun _ s => by
   show sep [blkA b10 [(.pointer (some ⟨c, 0, none⟩)), (.pointer (some ⟨b10, 1, none⟩)), w2] 163, ownB w2 (telsB a (k + 1)) 5, cluSM c a g, blkA bk (ints BookT.zero.flat) 77] _
   rw [telsB_succ]
   exact sep_keep [0, 0, 3, 1] rfl s)
 obtain rfl : k = 4 := by omega
 refine nx J13 (TC.seq fun _ J18 => CN (TC.exit (TE.pass (TE.pass (TE.hit (TE.next J11 (sr fun _ J19 => PS ?_)))))))
 refine PS ?_
 refine FA 1 Y163 sz161 ?_
 refine CE nm84 (string_does b10 c v (telsB a 4) (by rw [telsB_len]; omega) (by rw [telsB_len]; decide)) (fun _ s => s) ?_
 refine PS ?_
 exact nx J19 (TC.ret (WK [1] (TE.ret1 rfl rfl ⟨rfl, rfl⟩)))
end Go.Proofs.YtohmkchalilodaaGreatDoor
end

section
namespace Api
open Go Leg Codec Wal
def hv (a b : Int) : UInt8 := r8 (a % 16 + b % 16 * 16)
theorem or16f : ∀ (x y : Fin 16), orI .i64 ((x.val : Nat) : Int) (((y.val * 16 : Nat) : Nat) : Int) = ((x.val + y.val * 16 : Nat) : Int) := by decide +kernel
theorem or16 (a b : Int) : orI .i64 (a % 16) (b % 16 * 16) = a % 16 + b % 16 * 16 := by
 have := or16f ⟨(a % 16).toNat, by omega⟩ ⟨(b % 16).toNat, by omega⟩
 simp only at this
 rw [show (((a % 16).toNat : Nat) : Int) = a % 16 by omega, show ((((b % 16).toNat * 16 : Nat) : Nat) : Int) = b % 16 * 16 by omega] at this
 rw [this]; omega
theorem and15f : ∀ b : Fin 256, andI .u8 ((b.val : Nat) : Int) 15 = ((b.val % 16 : Nat) : Int) := by decide +kernel
theorem shr4f : ∀ b : Fin 256, ((b.val : Nat) : Int).fdiv (2 ^ min (4 : Int).toNat IntKind.u8.bits) = ((b.val / 16 : Nat) : Int) := by decide +kernel
def encOp (o : OpT) : List UInt8 := [hv o.kind o.at', hv o.to' o.key, r8 o.n] ++ (if o.kind = 4 then [hv o.change.kind o.change.who, r8 o.change.heir] else [r8 o.mask, r8 (o.torn + 1)])
def encOps (l : List OpT) : List UInt8 := l.flatMap encOp
def lo4 (b : UInt8) : Int := ((b.toNat % 16 : Nat) : Int)
def hi4 (b : UInt8) : Int := ((b.toNat / 16 : Nat) : Int)
def n8 (b : UInt8) : Int := ((b.toNat : Nat) : Int)
def decOp (b0 b1 b2 b3 b4 : UInt8) : OpT :=
 if lo4 b0 = 4 then ⟨lo4 b0, hi4 b0, lo4 b1, hi4 b1, n8 b2, ⟨lo4 b3, hi4 b3, n8 b4⟩, 0, 0, 0⟩
 else if lo4 b0 = 10 then ⟨lo4 b0, hi4 b0, lo4 b1, hi4 b1, n8 b2, .zero, n8 b3, n8 b4 - 1, n8 b2⟩
 else ⟨lo4 b0, hi4 b0, lo4 b1, hi4 b1, n8 b2, .zero, 0, 0, 0⟩
def opsP : List UInt8 → List OpT
 | b0 :: b1 :: b2 :: b3 :: b4 :: r => decOp b0 b1 b2 b3 b4 :: opsP r
 | _ => []
theorem wrap_256 (x : Int) : IntKind.i64.wrap x % 256 = x % 256 := by
 simp only [IntKind.wrap, IntKind.signed, IntKind.bits]
 simp
 split <;> omega
theorem r8_wrapI (x : Int) : r8 (IntKind.i64.wrap x) = r8 x := by unfold r8; rw [wrap_256]
theorem opsP_step {r : List UInt8} (h : 5 ≤ r.length) : opsP r = decOp (r.getD 0 0) (r.getD 1 0) (r.getD 2 0) (r.getD 3 0) (r.getD 4 0) :: opsP (r.drop 5) := by
 match r, h with
 | b0 :: b1 :: b2 :: b3 :: b4 :: r, _ => rfl
theorem opsP_stop {r : List UInt8} (h : r.length < 5) : opsP r = [] := by
 match r, h with
 | [], _ | [_], _ | [_, _], _ | [_, _, _], _ | [_, _, _, _], _ => rfl
theorem encOp_len (o : OpT) : (encOp o).length = 5 := by unfold encOp; split <;> rfl
theorem encOps_len (l : List OpT) : (encOps l).length = 5 * l.length := by
 induction l with
 | nil => rfl
 | cons o l ih => rw [encOps, List.flatMap_cons, List.length_append, encOp_len, List.length_cons]; unfold encOps at ih; rw [ih]; omega
theorem n8_bd (b : UInt8) : 0 ≤ n8 b ∧ n8 b < 256 := by unfold n8; have := b.toNat_lt; omega
theorem OpT.flat_length (o : OpT) : o.flat.length = 11 := by simp [OpT.flat, ChangeT.flat]
end Api
end

section
namespace Go.Proofs.YtohmkchalilodaaGreatDoor
open Go Leg Codec Api Dsk Wal
theorem halves_does (a b : Int) :
 Leg.Does Tryz.prog 42 #[(.int .i64 (a)), (.int .i64 (b))] (fun _ => True) [] (Ret (fun r' H => r' = .int .u8 (((hv a b).toNat : Nat) : Int) ∧ H = [])) := by
 refine Leg.Does.body (n := 12) Tryz.func42 rfl rfl rfl (fun w0 F hF => sr fun _ J1 => PS ?_)
 refine nx J1 (sr fun _ J2 => PS ?_)
 refine tp (PV.and (r := (a % 16)) rfl rfl rfl (mask (k := 4) (by decide) _)) ?_
 refine PS ?_
 refine tp (PV.and (r := (b % 16)) rfl rfl rfl (mask (k := 4) (by decide) _)) ?_
 refine tp (PV.shl (r := (b % 16 * 16)) rfl rfl rfl (by omega) (by show IntKind.i64.wrap (b % 16 * 16) = _; exact wrap_i64 (by omega) (by omega))) ?_
 refine tp (PV.or (r := (a % 16 + b % 16 * 16)) rfl rfl rfl (or16 a b)) ?_
 refine tp (PV.convI (r := (((hv a b).toNat : Nat) : Int)) rfl Y3 Y5 rfl (r8_wrap _)) ?_
 refine PS ?_
 exact nx J2 (TC.ret (WK [] (TE.ret1 rfl rfl ⟨rfl, rfl⟩)))
theorem opsEncode_does (x : Value) (l : List OpT) (hl : l.length ≤ 1000000) :
 Leg.Does Tryz.prog 19 #[x] (IsL 11 (EF OpT.flat) x l) [] (Ret (fun r' H => ∃ u, r' = u ∧ H = [ownB u (encOps l) 5])) := by
 refine Leg.Does.body (n := 57) Tryz.func19 rfl rfl rfl (fun w0 F hF => sr fun _ J1 => PS ?_)
 refine nx J1 (sr fun _ J2 => PS ?_)
 refine nx J2 (TC.seq fun _ J3 => sr fun _ J4 => PS ?_)
 refine tp (PV.lenV rfl Y98 rfl hF.len) ?_
 refine PS ?_
 refine nx J4 (TC.block ?_)
 refine TC.loop (α := (Nat) × (Value)) (fun ⟨k, u⟩ => k ≤ l.length ∧ u.oneCell' = true) (fun ⟨k, u⟩ => [(2, (.slice none 0 0)), (3, u), (6, x), (7, (.int .i64 (((l.length : Nat) : Int)))), (8, (.int .i64 (((k : Nat) : Int))))]) (fun ⟨k, u⟩ => [ownB u (encOps (l.take k)) 5]) (fun ⟨k, u⟩ => l.length - k) (0, (.slice none 0 0))
  ⟨Nat.zero_le _, rfl⟩ SB
  (fun _ s => sep_ownNil 5 1 s) (fun ⟨k, u⟩ hinv => ?_)
 obtain ⟨hk, hu⟩ := hinv
 have hlen := encOps_len (l.take k)
 rw [List.length_take] at hlen
 refine sr fun _ J5 => PS ?_
 refine TL.dec (fun h9 => ?_) (fun h9 => ?_)
 obtain ⟨b_a, off_a, cap_a, cs_a, T_a, z_a, us_a, hv_a, hc_a, hb_a, hl_a, hs_a, hE_a⟩ := IsL.at hF (j := k) (by omega)
 replace hE_a : us_a = ints l[k].flat := hE_a
 refine nx J5 (TC.seq fun _ J6 => CY (CX J6 (TC.seq fun _ J7 => TC.block (sr fun _ J8 => tp (PV.indexSlV (r := off_a + k * 11) hv_a rfl Y98 sz30 rfl rfl (by omega) (by omega) (by omega)) ?_))))
 refine tp (PV.loadNX (vs := ints (l[k]).flat) rfl Y30 rfl sz30 rfl (RdX.frm hb_a (fun _ h => Frm.of h)) (OpT.len _) (hs_a.trans hE_a)) ?_
 refine XA z30 fun b5 => ?_
 change TL _ _ _ _ _ _ _ _ _ [blkA b5 (ints OpT.zero.flat) 30, ownB u (encOps (l.take k)) 5]
 refine TL.store (vs := ints (l[k]).flat) (i := 0) (Want.plain rfl) rfl rfl rfl rfl rfl (by rw [(OpT.len (l[k]))]; exact sz30) (ints_one _) rfl rfl (LC (OpT.len _) (OpT.len _)) (wwhole ((OpT.len OpT.zero).trans (OpT.len (l[k])).symm)) rfl (nx J8 (TC.seq fun _ J9 => D1 0 mixed ?_))
 refine PD 0 ?_
 refine FD 1 0 Y30 sz3 ?_
 refine ta 2 rfl (PV.load1 (v := (.int .i64 ((l[k]).kind))) rfl Y3 rfl rfl (fun _ h => h.2.1) (OpT.at_kind _ rfl)) ?_
 refine FD 3 1 Y30 sz3 ?_
 refine ta 4 rfl (PV.load1 (v := (.int .i64 ((l[k]).at'))) rfl Y3 rfl rfl (fun _ h => h.2.1) (OpT.at_at' _ rfl)) ?_
 refine FD 6 2 Y30 sz3 ?_
 refine ta 7 rfl (PV.load1 (v := (.int .i64 ((l[k]).to'))) rfl Y3 rfl rfl (fun _ h => h.2.1) (OpT.at_to' _ rfl)) ?_
 refine FD 8 3 Y30 sz3 ?_
 refine ta 9 rfl (PV.load1 (v := (.int .i64 ((l[k]).key))) rfl Y3 rfl rfl (fun _ h => h.2.1) (OpT.at_key _ rfl)) ?_
 refine FD 11 4 Y30 sz3 ?_
 refine ta 12 rfl (PV.load1 (v := (.int .i64 ((l[k]).n))) rfl Y3 rfl rfl (fun _ h => h.2.1) (OpT.at_n _ rfl)) ?_
 refine ta 13 rfl (PV.convI (r := (((r8 ((l[k]).n)).toNat : Nat) : Int)) rfl Y3 Y5 rfl (r8_wrap _)) ?_
 refine AL 5 ?_
 refine CE nm42 (halves_does ((l[k]).kind) ((l[k]).at')) (fun _ s => s) ?_
 refine TL.nil (E1 0 (AL 10 ?_))
 refine CE nm42 (halves_does ((l[k]).to') ((l[k]).key)) (fun _ s => s) ?_
 refine TL.nil (E1 0 (AL 14 ?_))
 refine TL.buildSlice (cells := #[(.int .u8 ((((hv ((l[k]).kind) ((l[k]).at')).toNat : Nat) : Int))), (.int .u8 ((((hv ((l[k]).to') ((l[k]).key)).toNat : Nat) : Int))), (.int .u8 ((((r8 ((l[k]).n)).toNat : Nat) : Int)))]) (Want.plain rfl) rfl rfl rfl Y47 in5 rfl rfl rfl (by as_aux_lemma => kernel_rfl) (fun b26 => TL.nil (E1 1 (AL 15 ?_)))
 refine TL.append (k := 2) (news := u8s ([(hv ((l[k]).kind) ((l[k]).at')), (hv ((l[k]).to') ((l[k]).key)), (r8 ((l[k]).n))])) (nn' := (encOps (l.take k) ++ [(hv ((l[k]).kind) ((l[k]).at')), (hv ((l[k]).to') ((l[k]).key)), (r8 ((l[k]).n))] : List UInt8).length) (xs' := u8s (encOps (l.take k) ++ [(hv ((l[k]).kind) ((l[k]).at')), (hv ((l[k]).to') ((l[k]).key)), (r8 ((l[k]).n))])) (Want.plain rfl) rfl rfl rfl Y47 in5 rfl rfl rfl rfl rfl rfl (fun _ _ => Src.rd rfl (RO 0) rfl) (u8s_one [(hv ((l[k]).kind) ((l[k]).at')), (hv ((l[k]).to') ((l[k]).key)), (r8 ((l[k]).n))]) (by simp only [maxLen, List.length_cons, List.length_nil, List.length_append]; omega) (by first | omega | (simp only [List.length_cons, List.length_nil, List.length_append]; omega)) (by simp) (u8s_append _ _).symm (fun v27 ov27 => TL.nil (E1 1 (PD 16 ?_)))
 refine DN (TE.next J9 (sr fun _ J10 => FA 0 Y30 sz3 ?_))
 refine tp (PV.load1 (v := (.int .i64 ((l[k]).kind))) rfl Y3 rfl rfl (RO 1) (OpT.at_kind _ rfl)) ?_
 refine PS ?_
 refine TL.dec (fun h30 => ?_) (fun h30 => ?_)
 refine nx J10 (CY (D1 1 mixed ?_))
 refine PD 0 ?_
 refine FD 1 5 Y30 sz28 ?_
 refine FD 2 5 Y28 sz3 ?_
 refine ta 3 rfl (PV.load1 (v := (.int .i64 (((l[k]).change).kind))) rfl Y3 rfl rfl (fun _ h => h.2.1) (OpT.pt_change (l[k]) 0 rfl (by decide) (ChangeT.at_kind _ rfl))) ?_
 refine FD 4 5 Y30 sz28 ?_
 refine FD 5 6 Y28 sz3 ?_
 refine ta 6 rfl (PV.load1 (v := (.int .i64 (((l[k]).change).who))) rfl Y3 rfl rfl (fun _ h => h.2.1) (OpT.pt_change (l[k]) 1 rfl (by decide) (ChangeT.at_who _ rfl))) ?_
 refine FD 8 5 Y30 sz28 ?_
 refine FD 9 7 Y28 sz3 ?_
 refine ta 10 rfl (PV.load1 (v := (.int .i64 (((l[k]).change).heir))) rfl Y3 rfl rfl (fun _ h => h.2.1) (OpT.pt_change (l[k]) 2 rfl (by decide) (ChangeT.at_heir _ rfl))) ?_
 refine ta 11 rfl (PV.convI (r := (((r8 (((l[k]).change).heir)).toNat : Nat) : Int)) rfl Y3 Y5 rfl (r8_wrap _)) ?_
 refine AL 7 ?_
 refine CE nm42 (halves_does (((l[k]).change).kind) (((l[k]).change).who)) (fun _ s => s) ?_
 refine TL.nil (E1 1 (AL 12 ?_))
 refine TL.buildSlice (cells := #[(.int .u8 ((((hv (((l[k]).change).kind) (((l[k]).change).who)).toNat : Nat) : Int))), (.int .u8 ((((r8 (((l[k]).change).heir)).toNat : Nat) : Int)))]) (Want.plain rfl) rfl rfl rfl Y47 in5 rfl rfl rfl (by as_aux_lemma => kernel_rfl) (fun b43 => TL.nil (E1 2 (AL 13 ?_)))
 refine TL.append (k := 3) (news := u8s ([(hv (((l[k]).change).kind) (((l[k]).change).who)), (r8 (((l[k]).change).heir))])) (nn' := (encOps (l.take k) ++ [(hv ((l[k]).kind) ((l[k]).at')), (hv ((l[k]).to') ((l[k]).key)), (r8 ((l[k]).n))] ++ [(hv (((l[k]).change).kind) (((l[k]).change).who)), (r8 (((l[k]).change).heir))] : List UInt8).length) (xs' := u8s (encOps (l.take k) ++ [(hv ((l[k]).kind) ((l[k]).at')), (hv ((l[k]).to') ((l[k]).key)), (r8 ((l[k]).n))] ++ [(hv (((l[k]).change).kind) (((l[k]).change).who)), (r8 (((l[k]).change).heir))])) (Want.plain rfl) rfl rfl rfl Y47 in5 rfl rfl rfl rfl rfl rfl (fun _ _ => Src.rd rfl (RO 0) rfl) (u8s_one [(hv (((l[k]).change).kind) (((l[k]).change).who)), (r8 (((l[k]).change).heir))]) (by simp only [maxLen, List.length_cons, List.length_nil, List.length_append]; omega) (by first | omega | (simp only [List.length_cons, List.length_nil, List.length_append]; omega)) (by simp) (u8s_append _ _).symm (fun v44 ov44 => TL.nil (E1 2 (PD 14 ?_)))
 refine DN (TE.blockEnd (TE.next J7 (TC.region (AD ?_))))
 refine PS ?_
 refine TL.nil ?_
 exact TE.round ((k + 1, v44) : (Nat) × (Value)) ⟨by omega, ov44⟩ (by show l.length - (k + 1) < l.length - k; omega)
  SB
  (fun _ s => by
   show sep [ownB v44 (encOps (l.take (k + 1))) 5] _
   rw [show encOps (l.take (k + 1)) = encOps (l.take k) ++ [(hv ((l[k]).kind) ((l[k]).at')), (hv ((l[k]).to') ((l[k]).key)), (r8 ((l[k]).n))] ++ [(hv (((l[k]).change).kind) (((l[k]).change).who)), (r8 (((l[k]).change).heir))] by rw [List.take_succ_eq_append_getElem (by omega), encOps, List.flatMap_append]; simp [encOps, encOp, h30, r8_wrapI]]
   exact sep_keep [3] rfl s)
 refine nx J10 (CN (TC.region (PS ?_)))
 refine FA 8 Y30 sz3 ?_
 refine tp (PV.load1 (v := (.int .i64 ((l[k]).mask))) rfl Y3 rfl rfl (RO 1) (OpT.at_mask _ rfl)) ?_
 refine tp (PV.convI (r := (((r8 ((l[k]).mask)).toNat : Nat) : Int)) rfl Y3 Y5 rfl (r8_wrap _)) ?_
 refine FA 9 Y30 sz3 ?_
 refine tp (PV.load1 (v := (.int .i64 ((l[k]).torn))) rfl Y3 rfl rfl (RO 1) (OpT.at_torn _ rfl)) ?_
 refine tp (PV.add (r := (IntKind.i64.wrap ((l[k]).torn + 1))) rfl rfl rfl rfl) ?_
 refine tp (PV.convI (r := (((r8 (IntKind.i64.wrap ((l[k]).torn + 1))).toNat : Nat) : Int)) rfl Y3 Y5 rfl (r8_wrap _)) ?_
 refine TL.buildSlice (cells := #[(.int .u8 ((((r8 ((l[k]).mask)).toNat : Nat) : Int))), (.int .u8 ((((r8 (IntKind.i64.wrap ((l[k]).torn + 1))).toNat : Nat) : Int)))]) (Want.plain rfl) rfl rfl rfl Y47 in5 rfl rfl rfl (by as_aux_lemma => kernel_rfl) (fun b53 => TL.append (k := 3) (news := u8s ([(r8 ((l[k]).mask)), (r8 (IntKind.i64.wrap ((l[k]).torn + 1)))])) (nn' := (encOps (l.take k) ++ [(hv ((l[k]).kind) ((l[k]).at')), (hv ((l[k]).to') ((l[k]).key)), (r8 ((l[k]).n))] ++ [(r8 ((l[k]).mask)), (r8 (IntKind.i64.wrap ((l[k]).torn + 1)))] : List UInt8).length) (xs' := u8s (encOps (l.take k) ++ [(hv ((l[k]).kind) ((l[k]).at')), (hv ((l[k]).to') ((l[k]).key)), (r8 ((l[k]).n))] ++ [(r8 ((l[k]).mask)), (r8 (IntKind.i64.wrap ((l[k]).torn + 1)))])) (Want.plain rfl) rfl rfl rfl Y47 in5 rfl rfl rfl rfl rfl rfl (fun _ _ => Src.rd rfl (RO 0) rfl) (u8s_one [(r8 ((l[k]).mask)), (r8 (IntKind.i64.wrap ((l[k]).torn + 1)))]) (by simp only [maxLen, List.length_cons, List.length_nil, List.length_append]; omega) (by first | omega | (simp only [List.length_cons, List.length_nil, List.length_append]; omega)) (by simp) (u8s_append _ _).symm (fun v54 ov54 => PS ?_))
 refine TL.nil (TE.blockEnd (TE.next J7 (TC.region (AD ?_))))
 refine PS ?_
 refine TL.nil ?_
 exact TE.round ((k + 1, v54) : (Nat) × (Value)) ⟨by omega, ov54⟩ (by show l.length - (k + 1) < l.length - k; omega)
  SB
  (fun _ s => by
   show sep [ownB v54 (encOps (l.take (k + 1))) 5] _
   rw [show encOps (l.take (k + 1)) = encOps (l.take k) ++ [(hv ((l[k]).kind) ((l[k]).at')), (hv ((l[k]).to') ((l[k]).key)), (r8 ((l[k]).n))] ++ [(r8 ((l[k]).mask)), (r8 (IntKind.i64.wrap ((l[k]).torn + 1)))] by rw [List.take_succ_eq_append_getElem (by omega), encOps, List.flatMap_append]; simp [encOps, encOp, h30, r8_wrapI]]
   exact sep_keep [3] rfl s)
 refine nx J5 (TC.seq fun _ J11 => CN (TC.exit (TE.pass (TE.pass (TE.hit (TE.next J3 (sr fun _ J12 => PS ?_)))))))
 refine PS ?_
 refine nx J12 (TC.ret (WK [0] (TE.ret1 rfl rfl ?_)))
 have e : l.take k = l := List.take_of_length_le (by omega)
 exact ⟨u, rfl, by show [ownB u (encOps (l.take k)) 5] = _; rw [e]⟩
theorem and15 (b : UInt8) : andI .u8 (((b.toNat : Nat) : Nat) : Int) 15 = (((b.toNat % 16 : Nat) : Nat) : Int) := and15f ⟨b.toNat, b.toNat_lt⟩
theorem shr4 (b : UInt8) : (((b.toNat : Nat) : Nat) : Int).fdiv (2 ^ min (4 : Int).toNat IntKind.u8.bits) = (((b.toNat / 16 : Nat) : Nat) : Int) := shr4f ⟨b.toNat, b.toNat_lt⟩
theorem lo4_wrap (b : UInt8) : IntKind.i64.wrap (((b.toNat % 16 : Nat) : Nat) : Int) = lo4 b := by unfold lo4; exact wrap_i64 (by omega) (by omega)
theorem hi4_wrap (b : UInt8) : IntKind.i64.wrap (((b.toNat / 16 : Nat) : Nat) : Int) = hi4 b := by unfold hi4; have := b.toNat_lt; exact wrap_i64 (by omega) (by omega)
theorem n8_wrap (b : UInt8) : IntKind.i64.wrap (((b.toNat : Nat) : Nat) : Int) = n8 b := by unfold n8; have := b.toNat_lt; exact wrap_i64 (by omega) (by omega)
theorem cutB_one {v : Value} {k : Nat} (h : v.oneCell' = true) : (cutB v k).oneCell' = true := by
 unfold cutB; split
 · rfl
 · exact h
theorem opsDecode_does (x : Value) (bs : List UInt8) (hl : bs.length ≤ 1000000) :
 Leg.Does Tryz.prog 40 #[x] (IsB x bs) [] (Ret (fun r' H => ∃ u, r' = u ∧ H = [own u ((opsP bs).length) (ints (List.flatMap OpT.flat (opsP bs))) 30 11])) := by
 refine Leg.Does.body (n := 76) Tryz.func40 rfl rfl rfl (fun w0 F hF => sr fun _ J1 => PS ?_)
 refine nx J1 (sr fun _ J2 => PS ?_)
 refine nx J2 (TC.seq fun _ J3 => TC.block ?_)
 refine TC.loop (α := (List UInt8) × (Value) × (List OpT) × (Value)) (fun ⟨r, xv, done, u⟩ => IsB xv r F ∧ r.length ≤ 1000000 ∧ done.length + r.length / 5 ≤ 1000000 ∧ opsP bs = done ++ opsP r ∧ xv.oneCell' = true ∧ u.oneCell' = true) (fun ⟨r, xv, done, u⟩ => [(0, xv), (2, (.slice none 0 0)), (3, u)]) (fun ⟨r, xv, done, u⟩ => [own u (done.length) (ints (List.flatMap OpT.flat done)) 30 11]) (fun ⟨r, xv, done, u⟩ => r.length) (bs, x, [], (.slice none 0 0))
  ⟨hF, hl, by simp; omega, rfl, hF.one, rfl⟩ SB
  (fun _ s => sep_ownNil 30 11 s) (fun ⟨r, xv, done, u⟩ hinv => ?_)
 obtain ⟨hB, hr, hd, ho, hx, hu⟩ := hinv
 have hU : IsW xv r F := IsB.w hB
 have hUl := hB.len
 refine TC.seq fun _ J4 => sr fun _ J5 => PS ?_
 refine tp (PV.lenV rfl Y47 rfl hUl) ?_
 refine PS ?_
 refine TL.dec (fun h7 => ?_) (fun h7 => ?_)
 obtain ⟨b_b, off_b, cap_b, cs_b, T_b, z_b, hv_b, hb_b, hcs_b, hcp_b⟩ := IsW.at hU (j := 0) (by omega)
 have hlt_b := IsW.lt hU
 refine nx J5 (CY (CX J4 (TC.seq fun _ J6 => TC.block (TC.seq fun _ J7 => D0 mixed ?_))))
 refine PD 0 ?_
 refine ta 1 rfl (PV.indexSlV (r := off_b) hv_b rfl Y47 sz5 rfl rfl (by omega) (by omega) (by omega)) ?_
 refine ta 2 rfl (PV.load1X (v := (.int .u8 (((((r).getD 0 0).toNat : Nat) : Int)))) rfl Y5 rfl rfl (RdX.frm hb_b (fun _ h => h.1)) (hcs_b 0 (by omega))) ?_
 refine ta 3 rfl (PV.and (r := ((((r.getD 0 0).toNat % 16 : Nat) : Nat) : Int)) rfl rfl rfl (and15 _)) ?_
 refine ta 4 rfl (PV.convI (r := (lo4 (r.getD 0 0))) rfl Y5 Y3 rfl (lo4_wrap _)) ?_
 refine PD 5 ?_
 refine ta 6 rfl (PV.indexSlV (r := off_b) hv_b rfl Y47 sz5 rfl rfl (by omega) (by omega) (by omega)) ?_
 refine ta 7 rfl (PV.load1X (v := (.int .u8 (((((r).getD 0 0).toNat : Nat) : Int)))) rfl Y5 rfl rfl (RdX.frm hb_b (fun _ h => h.1)) (hcs_b 0 (by omega))) ?_
 refine ta 8 rfl (PV.shr (r := ((((r.getD 0 0).toNat / 16 : Nat) : Nat) : Int)) rfl rfl rfl (by omega) (shr4 _)) ?_
 refine ta 9 rfl (PV.convI (r := (hi4 (r.getD 0 0))) rfl Y5 Y3 rfl (hi4_wrap _)) ?_
 refine PD 10 ?_
 refine ta 11 rfl (PV.indexSlV (r := off_b + 1) hv_b rfl Y47 sz5 rfl rfl (by omega) (by omega) (by omega)) ?_
 refine ta 12 rfl (PV.load1X (v := (.int .u8 (((((r).getD 1 0).toNat : Nat) : Int)))) rfl Y5 rfl rfl (RdX.frm hb_b (fun _ h => h.1)) (hcs_b 1 (by omega))) ?_
 refine ta 13 rfl (PV.and (r := ((((r.getD 1 0).toNat % 16 : Nat) : Nat) : Int)) rfl rfl rfl (and15 _)) ?_
 refine ta 14 rfl (PV.convI (r := (lo4 (r.getD 1 0))) rfl Y5 Y3 rfl (lo4_wrap _)) ?_
 refine PD 15 ?_
 refine ta 16 rfl (PV.indexSlV (r := off_b + 1) hv_b rfl Y47 sz5 rfl rfl (by omega) (by omega) (by omega)) ?_
 refine ta 17 rfl (PV.load1X (v := (.int .u8 (((((r).getD 1 0).toNat : Nat) : Int)))) rfl Y5 rfl rfl (RdX.frm hb_b (fun _ h => h.1)) (hcs_b 1 (by omega))) ?_
 refine ta 18 rfl (PV.shr (r := ((((r.getD 1 0).toNat / 16 : Nat) : Nat) : Int)) rfl rfl rfl (by omega) (shr4 _)) ?_
 refine ta 19 rfl (PV.convI (r := (hi4 (r.getD 1 0))) rfl Y5 Y3 rfl (hi4_wrap _)) ?_
 refine PD 20 ?_
 refine ta 21 rfl (PV.indexSlV (r := off_b + 2) hv_b rfl Y47 sz5 rfl rfl (by omega) (by omega) (by omega)) ?_
 refine ta 22 rfl (PV.load1X (v := (.int .u8 (((((r).getD 2 0).toNat : Nat) : Int)))) rfl Y5 rfl rfl (RdX.frm hb_b (fun _ h => h.1)) (hcs_b 2 (by omega))) ?_
 refine ta 23 rfl (PV.convI (r := (n8 (r.getD 2 0))) rfl Y5 Y3 rfl (n8_wrap _)) ?_
 refine ta 24 rfl (PV.buildSegs (cs := ints (OpT.mk (lo4 (r.getD 0 0)) (hi4 (r.getD 0 0)) (lo4 (r.getD 1 0)) (hi4 (r.getD 1 0)) (n8 (r.getD 2 0)) ChangeT.zero 0 0 0).flat) (segs := OZ) (res := [[Value.int .i64 (lo4 (r.getD 0 0))], [Value.int .i64 (hi4 (r.getD 0 0))], [Value.int .i64 (lo4 (r.getD 1 0))], [Value.int .i64 (hi4 (r.getD 1 0))], [Value.int .i64 (n8 (r.getD 2 0))], ints ChangeT.zero.flat, [Value.int .i64 0], [Value.int .i64 0], [Value.int .i64 0]]) (parts := [(0, [Value.int .i64 (lo4 (r.getD 0 0))]), (1, [Value.int .i64 (hi4 (r.getD 0 0))]), (2, [Value.int .i64 (lo4 (r.getD 1 0))]), (3, [Value.int .i64 (hi4 (r.getD 1 0))]), (4, [Value.int .i64 (n8 (r.getD 2 0))])]) rfl rfl Y30 (by kernel_rfl) (by kernel_rfl) rfl (putSegs_step rfl rfl (putSegs_step rfl rfl (putSegs_step rfl rfl (putSegs_step rfl rfl (putSegs_step rfl rfl putSegs_nil))))) (OpT.eq (OpT.mk (lo4 (r.getD 0 0)) (hi4 (r.getD 0 0)) (lo4 (r.getD 1 0)) (hi4 (r.getD 1 0)) (n8 (r.getD 2 0)) ChangeT.zero 0 0 0)).symm) ?_
 refine AL 25 ?_
 refine XA z30 fun b4 => ?_
 change TL _ _ _ _ _ _ _ _ _ [blkA b4 (ints OpT.zero.flat) 30, own u (done.length) (ints (List.flatMap OpT.flat done)) 30 11]
 refine TL.nil (E0 (AL 26 ?_))
 refine TL.store (vs := ints (OpT.mk (lo4 (r.getD 0 0)) (hi4 (r.getD 0 0)) (lo4 (r.getD 1 0)) (hi4 (r.getD 1 0)) (n8 (r.getD 2 0)) ChangeT.zero 0 0 0).flat) (i := 0) (Want.plain rfl) rfl rfl rfl rfl rfl (by rw [(OpT.len (OpT.mk (lo4 (r.getD 0 0)) (hi4 (r.getD 0 0)) (lo4 (r.getD 1 0)) (hi4 (r.getD 1 0)) (n8 (r.getD 2 0)) ChangeT.zero 0 0 0))]; exact sz30) (ints_one _) rfl rfl (LC (OpT.len _) (OpT.len _)) (wwhole ((OpT.len OpT.zero).trans (OpT.len (OpT.mk (lo4 (r.getD 0 0)) (hi4 (r.getD 0 0)) (lo4 (r.getD 1 0)) (hi4 (r.getD 1 0)) (n8 (r.getD 2 0)) ChangeT.zero 0 0 0)).symm)) rfl (TL.nil (E0 (DN (TE.next J7 (TC.seq fun _ J8 => sr fun _ J9 => FA 0 Y30 sz3 ?_)))))
 refine tp (PV.load1 (v := (.int .i64 ((lo4 (r.getD 0 0))))) rfl Y3 rfl rfl (RO 0) (OpT.at_kind _ rfl)) ?_
 refine nx J9 (TC.block (sr fun _ J10 => PS ?_))
 refine TL.dec (fun h38 => ?_) (fun h38 => ?_)
 refine PS ?_
 refine nx J10 (CY (D0 mixed ?_))
 refine PD 0 ?_
 refine ta 1 rfl (PV.indexSlV (r := off_b + 3) hv_b rfl Y47 sz5 rfl rfl (by omega) (by omega) (by omega)) ?_
 refine ta 2 rfl (PV.load1X (v := (.int .u8 (((((r).getD 3 0).toNat : Nat) : Int)))) rfl Y5 rfl rfl (RdX.frm hb_b (fun _ h => h.1)) (hcs_b 3 (by omega))) ?_
 refine ta 3 rfl (PV.and (r := ((((r.getD 3 0).toNat % 16 : Nat) : Nat) : Int)) rfl rfl rfl (and15 _)) ?_
 refine ta 4 rfl (PV.convI (r := (lo4 (r.getD 3 0))) rfl Y5 Y3 rfl (lo4_wrap _)) ?_
 refine PD 5 ?_
 refine ta 6 rfl (PV.indexSlV (r := off_b + 3) hv_b rfl Y47 sz5 rfl rfl (by omega) (by omega) (by omega)) ?_
 refine ta 7 rfl (PV.load1X (v := (.int .u8 (((((r).getD 3 0).toNat : Nat) : Int)))) rfl Y5 rfl rfl (RdX.frm hb_b (fun _ h => h.1)) (hcs_b 3 (by omega))) ?_
 refine ta 8 rfl (PV.shr (r := ((((r.getD 3 0).toNat / 16 : Nat) : Nat) : Int)) rfl rfl rfl (by omega) (shr4 _)) ?_
 refine ta 9 rfl (PV.convI (r := (hi4 (r.getD 3 0))) rfl Y5 Y3 rfl (hi4_wrap _)) ?_
 refine PD 10 ?_
 refine ta 11 rfl (PV.indexSlV (r := off_b + 4) hv_b rfl Y47 sz5 rfl rfl (by omega) (by omega) (by omega)) ?_
 refine ta 12 rfl (PV.load1X (v := (.int .u8 (((((r).getD 4 0).toNat : Nat) : Int)))) rfl Y5 rfl rfl (RdX.frm hb_b (fun _ h => h.1)) (hcs_b 4 (by omega))) ?_
 refine ta 13 rfl (PV.convI (r := (n8 (r.getD 4 0))) rfl Y5 Y3 rfl (n8_wrap _)) ?_
 refine ta 14 rfl (PV.buildSegs (cs := ints (ChangeT.mk (lo4 (r.getD 3 0)) (hi4 (r.getD 3 0)) (n8 (r.getD 4 0))).flat) (segs := [[Value.int .i64 0], [Value.int .i64 0], [Value.int .i64 0]]) (res := [[Value.int .i64 (lo4 (r.getD 3 0))], [Value.int .i64 (hi4 (r.getD 3 0))], [Value.int .i64 (n8 (r.getD 4 0))]]) (parts := [(0, [Value.int .i64 (lo4 (r.getD 3 0))]), (1, [Value.int .i64 (hi4 (r.getD 3 0))]), (2, [Value.int .i64 (n8 (r.getD 4 0))])]) rfl rfl Y28 (by kernel_rfl) (by kernel_rfl) rfl (putSegs_step rfl rfl (putSegs_step rfl rfl (putSegs_step rfl rfl putSegs_nil))) (ChangeT.eq (ChangeT.mk (lo4 (r.getD 3 0)) (hi4 (r.getD 3 0)) (n8 (r.getD 4 0)))).symm) ?_
 refine FD 15 5 Y30 sz28 ?_
 refine AL 16 ?_
 refine TL.store (vs := ints (ChangeT.mk (lo4 (r.getD 3 0)) (hi4 (r.getD 3 0)) (n8 (r.getD 4 0))).flat) (i := 0) (Want.plain rfl) rfl rfl rfl rfl rfl (by rw [(ChangeT.len (ChangeT.mk (lo4 (r.getD 3 0)) (hi4 (r.getD 3 0)) (n8 (r.getD 4 0))))]; exact sz28) (ints_one _) rfl rfl (LC (OpT.len _) (ChangeT.len _)) (OpT.wr_change_ (OpT.mk (lo4 (r.getD 0 0)) (hi4 (r.getD 0 0)) (lo4 (r.getD 1 0)) (hi4 (r.getD 1 0)) (n8 (r.getD 2 0)) ChangeT.zero 0 0 0) 0 rfl (by have h1 := (ChangeT.len (ChangeT.mk (lo4 (r.getD 3 0)) (hi4 (r.getD 3 0)) (n8 (r.getD 4 0)))); omega) (wwhole ((ChangeT.len ChangeT.zero).trans (ChangeT.len (ChangeT.mk (lo4 (r.getD 3 0)) (hi4 (r.getD 3 0)) (n8 (r.getD 4 0)))).symm))) rfl (TL.nil (E0 (DN (TE.blockEnd (TE.next J8 (TC.region ?_))))))
 have hop : (OpT.mk (lo4 (r.getD 0 0)) (hi4 (r.getD 0 0)) (lo4 (r.getD 1 0)) (hi4 (r.getD 1 0)) (n8 (r.getD 2 0)) (ChangeT.mk (lo4 (r.getD 3 0)) (hi4 (r.getD 3 0)) (n8 (r.getD 4 0))) 0 0 0) = decOp (r.getD 0 0) (r.getD 1 0) (r.getD 2 0) (r.getD 3 0) (r.getD 4 0) := by first | (rw [decOp, if_pos h38]; try rfl) | (rw [decOp, if_neg h38, if_pos h56]; try rfl) | (rw [decOp, if_neg h38, if_neg h56]; try rfl)
 refine PS ?_
 refine tp (PV.loadN (vs := ints (OpT.mk (lo4 (r.getD 0 0)) (hi4 (r.getD 0 0)) (lo4 (r.getD 1 0)) (hi4 (r.getD 1 0)) (n8 (r.getD 2 0)) (ChangeT.mk (lo4 (r.getD 3 0)) (hi4 (r.getD 3 0)) (n8 (r.getD 4 0))) 0 0 0).flat) rfl Y30 rfl sz30 rfl (RO 0) (OpT.len (OpT.mk (lo4 (r.getD 0 0)) (hi4 (r.getD 0 0)) (lo4 (r.getD 1 0)) (hi4 (r.getD 1 0)) (n8 (r.getD 2 0)) (ChangeT.mk (lo4 (r.getD 3 0)) (hi4 (r.getD 3 0)) (n8 (r.getD 4 0))) 0 0 0)) (whole (OpT.len (OpT.mk (lo4 (r.getD 0 0)) (hi4 (r.getD 0 0)) (lo4 (r.getD 1 0)) (hi4 (r.getD 1 0)) (n8 (r.getD 2 0)) (ChangeT.mk (lo4 (r.getD 3 0)) (hi4 (r.getD 3 0)) (n8 (r.getD 4 0))) 0 0 0)))) ?_
 refine TL.buildSlice (cells := (ints (OpT.mk (lo4 (r.getD 0 0)) (hi4 (r.getD 0 0)) (lo4 (r.getD 1 0)) (hi4 (r.getD 1 0)) (n8 (r.getD 2 0)) (ChangeT.mk (lo4 (r.getD 3 0)) (hi4 (r.getD 3 0)) (n8 (r.getD 4 0))) 0 0 0).flat).toArray) (Want.plain rfl) rfl rfl rfl Y98 in30 rfl rfl rfl (fill_at (OpT.len (OpT.mk (lo4 (r.getD 0 0)) (hi4 (r.getD 0 0)) (lo4 (r.getD 1 0)) (hi4 (r.getD 1 0)) (n8 (r.getD 2 0)) (ChangeT.mk (lo4 (r.getD 3 0)) (hi4 (r.getD 3 0)) (n8 (r.getD 4 0))) 0 0 0)) (by simp)) (fun b73 => ?_)
 change TL _ _ _ _ _ _ _ _ _ [blkA b73 (ints (OpT.mk (lo4 (r.getD 0 0)) (hi4 (r.getD 0 0)) (lo4 (r.getD 1 0)) (hi4 (r.getD 1 0)) (n8 (r.getD 2 0)) (ChangeT.mk (lo4 (r.getD 3 0)) (hi4 (r.getD 3 0)) (n8 (r.getD 4 0))) 0 0 0).flat) 30, blkA b4 (ints (OpT.mk (lo4 (r.getD 0 0)) (hi4 (r.getD 0 0)) (lo4 (r.getD 1 0)) (hi4 (r.getD 1 0)) (n8 (r.getD 2 0)) (ChangeT.mk (lo4 (r.getD 3 0)) (hi4 (r.getD 3 0)) (n8 (r.getD 4 0))) 0 0 0).flat) 30, own u (done.length) (ints (List.flatMap OpT.flat done)) 30 11]
 refine TL.append (k := 2) (news := ints (OpT.mk (lo4 (r.getD 0 0)) (hi4 (r.getD 0 0)) (lo4 (r.getD 1 0)) (hi4 (r.getD 1 0)) (n8 (r.getD 2 0)) (ChangeT.mk (lo4 (r.getD 3 0)) (hi4 (r.getD 3 0)) (n8 (r.getD 4 0))) 0 0 0).flat) (nn' := (done ++ [decOp (r.getD 0 0) (r.getD 1 0) (r.getD 2 0) (r.getD 3 0) (r.getD 4 0)]).length) (xs' := ints (List.flatMap OpT.flat (done ++ [decOp (r.getD 0 0) (r.getD 1 0) (r.getD 2 0) (r.getD 3 0) (r.getD 4 0)]))) (Want.plain rfl) rfl rfl rfl Y98 in30 rfl rfl rfl rfl rfl rfl (fun _ _ => Src.rd (OpT.len _) (RO 0) (by rw [List.drop_zero, List.take_length])) (ints_one _) (by simp only [maxLen]; omega) (by omega) (by simp) (by rw [← hop]; simp [ints]) (fun v74 ov74 => PS ?_)
 refine TL.nil (TE.blockEnd (TE.next J6 (TC.region (PS ?_))))
 refine tp (PV.to (PV.sliceLo (k := 5) rfl Y47 sz5 (by rw [← hv_b]; rfl) rfl (by omega) (by omega) rfl) (congrArg (fun q => cutB q 5) hv_b.symm)) ?_
 refine PS ?_
 refine TL.nil ?_
 exact TE.round (((r.drop 5), (cutB xv 5), (done ++ [decOp (r.getD 0 0) (r.getD 1 0) (r.getD 2 0) (r.getD 3 0) (r.getD 4 0)]), v74) : (List UInt8) × (Value) × (List OpT) × (Value)) ⟨hB.cut 5 (by omega), by rw [List.length_drop]; omega, by rw [List.length_append, List.length_drop]; simp; omega, by rw [ho, opsP_step (by omega)]; simp, cutB_one hx, ov74⟩ (by show (r.drop 5).length < r.length; rw [List.length_drop]; omega)
  SB
  (fun _ s => sep_keep [2] rfl s)
 refine PS ?_
 refine nx J10 (CN (sr fun _ J11 => PS ?_))
 refine TL.dec (fun h56 => ?_) (fun h56 => ?_)
 refine PS ?_
 refine nx J11 (CY (D0 mixed ?_))
 refine PD 0 ?_
 refine ta 1 rfl (PV.indexSlV (r := off_b + 3) hv_b rfl Y47 sz5 rfl rfl (by omega) (by omega) (by omega)) ?_
 refine ta 2 rfl (PV.load1X (v := (.int .u8 (((((r).getD 3 0).toNat : Nat) : Int)))) rfl Y5 rfl rfl (RdX.frm hb_b (fun _ h => h.1)) (hcs_b 3 (by omega))) ?_
 refine ta 3 rfl (PV.convI (r := (n8 (r.getD 3 0))) rfl Y5 Y3 rfl (n8_wrap _)) ?_
 refine PD 4 ?_
 refine ta 5 rfl (PV.indexSlV (r := off_b + 4) hv_b rfl Y47 sz5 rfl rfl (by omega) (by omega) (by omega)) ?_
 refine ta 6 rfl (PV.load1X (v := (.int .u8 (((((r).getD 4 0).toNat : Nat) : Int)))) rfl Y5 rfl rfl (RdX.frm hb_b (fun _ h => h.1)) (hcs_b 4 (by omega))) ?_
 refine ta 7 rfl (PV.convI (r := (n8 (r.getD 4 0))) rfl Y5 Y3 rfl (n8_wrap _)) ?_
 refine ta 8 rfl (PV.sub (r := (n8 (r.getD 4 0) - 1)) rfl rfl rfl (wrap_i64 (by have := n8_bd (r.getD 4 0); omega) (by have := n8_bd (r.getD 4 0); omega))) ?_
 refine FD 9 4 Y30 sz3 ?_
 refine AL 10 ?_
 refine tp (PV.load1 (v := (.int .i64 ((n8 (r.getD 2 0))))) rfl Y3 rfl rfl (RO 0) (OpT.at_n _ rfl)) ?_
 refine TL.nil (E0 (FD 11 8 Y30 sz3 ?_))
 refine AL 12 ?_
 refine TL.store1 (i := 0) (Want.plain rfl) rfl rfl rfl rfl rfl sz3 rfl rfl (LB (OpT.len _)) (OpT.set_mask _ rfl _) rfl (TL.nil (E0 (FD 13 9 Y30 sz3 ?_)))
 refine AL 14 ?_
 refine TL.store1 (i := 0) (Want.plain rfl) rfl rfl rfl rfl rfl sz3 rfl rfl (LB (OpT.len _)) (OpT.set_torn _ rfl _) rfl (TL.nil (E0 (FD 15 10 Y30 sz3 ?_)))
 refine AL 16 ?_
 refine TL.store1 (i := 0) (Want.plain rfl) rfl rfl rfl rfl rfl sz3 rfl rfl (LB (OpT.len _)) (OpT.set_cut _ rfl _) rfl (TL.nil (E0 (DN (TE.blockEnd (TE.next J8 (TC.region ?_))))))
 have hop : (OpT.mk (lo4 (r.getD 0 0)) (hi4 (r.getD 0 0)) (lo4 (r.getD 1 0)) (hi4 (r.getD 1 0)) (n8 (r.getD 2 0)) ChangeT.zero (n8 (r.getD 3 0)) (n8 (r.getD 4 0) - 1) (n8 (r.getD 2 0))) = decOp (r.getD 0 0) (r.getD 1 0) (r.getD 2 0) (r.getD 3 0) (r.getD 4 0) := by first | (rw [decOp, if_pos h38]; try rfl) | (rw [decOp, if_neg h38, if_pos h56]; try rfl) | (rw [decOp, if_neg h38, if_neg h56]; try rfl)
 refine PS ?_
 refine tp (PV.loadN (vs := ints (OpT.mk (lo4 (r.getD 0 0)) (hi4 (r.getD 0 0)) (lo4 (r.getD 1 0)) (hi4 (r.getD 1 0)) (n8 (r.getD 2 0)) ChangeT.zero (n8 (r.getD 3 0)) (n8 (r.getD 4 0) - 1) (n8 (r.getD 2 0))).flat) rfl Y30 rfl sz30 rfl (RO 0) (OpT.len (OpT.mk (lo4 (r.getD 0 0)) (hi4 (r.getD 0 0)) (lo4 (r.getD 1 0)) (hi4 (r.getD 1 0)) (n8 (r.getD 2 0)) ChangeT.zero (n8 (r.getD 3 0)) (n8 (r.getD 4 0) - 1) (n8 (r.getD 2 0)))) (whole (OpT.len (OpT.mk (lo4 (r.getD 0 0)) (hi4 (r.getD 0 0)) (lo4 (r.getD 1 0)) (hi4 (r.getD 1 0)) (n8 (r.getD 2 0)) ChangeT.zero (n8 (r.getD 3 0)) (n8 (r.getD 4 0) - 1) (n8 (r.getD 2 0)))))) ?_
 refine TL.buildSlice (cells := (ints (OpT.mk (lo4 (r.getD 0 0)) (hi4 (r.getD 0 0)) (lo4 (r.getD 1 0)) (hi4 (r.getD 1 0)) (n8 (r.getD 2 0)) ChangeT.zero (n8 (r.getD 3 0)) (n8 (r.getD 4 0) - 1) (n8 (r.getD 2 0))).flat).toArray) (Want.plain rfl) rfl rfl rfl Y98 in30 rfl rfl rfl (fill_at (OpT.len (OpT.mk (lo4 (r.getD 0 0)) (hi4 (r.getD 0 0)) (lo4 (r.getD 1 0)) (hi4 (r.getD 1 0)) (n8 (r.getD 2 0)) ChangeT.zero (n8 (r.getD 3 0)) (n8 (r.getD 4 0) - 1) (n8 (r.getD 2 0)))) (by simp)) (fun b73 => ?_)
 change TL _ _ _ _ _ _ _ _ _ [blkA b73 (ints (OpT.mk (lo4 (r.getD 0 0)) (hi4 (r.getD 0 0)) (lo4 (r.getD 1 0)) (hi4 (r.getD 1 0)) (n8 (r.getD 2 0)) ChangeT.zero (n8 (r.getD 3 0)) (n8 (r.getD 4 0) - 1) (n8 (r.getD 2 0))).flat) 30, blkA b4 (ints (OpT.mk (lo4 (r.getD 0 0)) (hi4 (r.getD 0 0)) (lo4 (r.getD 1 0)) (hi4 (r.getD 1 0)) (n8 (r.getD 2 0)) ChangeT.zero (n8 (r.getD 3 0)) (n8 (r.getD 4 0) - 1) (n8 (r.getD 2 0))).flat) 30, own u (done.length) (ints (List.flatMap OpT.flat done)) 30 11]
 refine TL.append (k := 2) (news := ints (OpT.mk (lo4 (r.getD 0 0)) (hi4 (r.getD 0 0)) (lo4 (r.getD 1 0)) (hi4 (r.getD 1 0)) (n8 (r.getD 2 0)) ChangeT.zero (n8 (r.getD 3 0)) (n8 (r.getD 4 0) - 1) (n8 (r.getD 2 0))).flat) (nn' := (done ++ [decOp (r.getD 0 0) (r.getD 1 0) (r.getD 2 0) (r.getD 3 0) (r.getD 4 0)]).length) (xs' := ints (List.flatMap OpT.flat (done ++ [decOp (r.getD 0 0) (r.getD 1 0) (r.getD 2 0) (r.getD 3 0) (r.getD 4 0)]))) (Want.plain rfl) rfl rfl rfl Y98 in30 rfl rfl rfl rfl rfl rfl (fun _ _ => Src.rd (OpT.len _) (RO 0) (by rw [List.drop_zero, List.take_length])) (ints_one _) (by simp only [maxLen]; omega) (by omega) (by simp) (by rw [← hop]; simp [ints]) (fun v74 ov74 => PS ?_)
 refine TL.nil (TE.blockEnd (TE.next J6 (TC.region (PS ?_))))
 refine tp (PV.to (PV.sliceLo (k := 5) rfl Y47 sz5 (by rw [← hv_b]; rfl) rfl (by omega) (by omega) rfl) (congrArg (fun q => cutB q 5) hv_b.symm)) ?_
 refine PS ?_
 refine TL.nil ?_
 exact TE.round (((r.drop 5), (cutB xv 5), (done ++ [decOp (r.getD 0 0) (r.getD 1 0) (r.getD 2 0) (r.getD 3 0) (r.getD 4 0)]), v74) : (List UInt8) × (Value) × (List OpT) × (Value)) ⟨hB.cut 5 (by omega), by rw [List.length_drop]; omega, by rw [List.length_append, List.length_drop]; simp; omega, by rw [ho, opsP_step (by omega)]; simp, cutB_one hx, ov74⟩ (by show (r.drop 5).length < r.length; rw [List.length_drop]; omega)
  SB
  (fun _ s => sep_keep [2] rfl s)
 refine PS ?_
 refine nx J11 (CN (TC.skip (TE.blockEnd (TE.next J8 (TC.region ?_)))))
 have hop : (OpT.mk (lo4 (r.getD 0 0)) (hi4 (r.getD 0 0)) (lo4 (r.getD 1 0)) (hi4 (r.getD 1 0)) (n8 (r.getD 2 0)) ChangeT.zero 0 0 0) = decOp (r.getD 0 0) (r.getD 1 0) (r.getD 2 0) (r.getD 3 0) (r.getD 4 0) := by first | (rw [decOp, if_pos h38]; try rfl) | (rw [decOp, if_neg h38, if_pos h56]; try rfl) | (rw [decOp, if_neg h38, if_neg h56]; try rfl)
 refine PS ?_
 refine tp (PV.loadN (vs := ints (OpT.mk (lo4 (r.getD 0 0)) (hi4 (r.getD 0 0)) (lo4 (r.getD 1 0)) (hi4 (r.getD 1 0)) (n8 (r.getD 2 0)) ChangeT.zero 0 0 0).flat) rfl Y30 rfl sz30 rfl (RO 0) (OpT.len (OpT.mk (lo4 (r.getD 0 0)) (hi4 (r.getD 0 0)) (lo4 (r.getD 1 0)) (hi4 (r.getD 1 0)) (n8 (r.getD 2 0)) ChangeT.zero 0 0 0)) (whole (OpT.len (OpT.mk (lo4 (r.getD 0 0)) (hi4 (r.getD 0 0)) (lo4 (r.getD 1 0)) (hi4 (r.getD 1 0)) (n8 (r.getD 2 0)) ChangeT.zero 0 0 0)))) ?_
 refine TL.buildSlice (cells := (ints (OpT.mk (lo4 (r.getD 0 0)) (hi4 (r.getD 0 0)) (lo4 (r.getD 1 0)) (hi4 (r.getD 1 0)) (n8 (r.getD 2 0)) ChangeT.zero 0 0 0).flat).toArray) (Want.plain rfl) rfl rfl rfl Y98 in30 rfl rfl rfl (fill_at (OpT.len (OpT.mk (lo4 (r.getD 0 0)) (hi4 (r.getD 0 0)) (lo4 (r.getD 1 0)) (hi4 (r.getD 1 0)) (n8 (r.getD 2 0)) ChangeT.zero 0 0 0)) (by simp)) (fun b73 => ?_)
 change TL _ _ _ _ _ _ _ _ _ [blkA b73 (ints (OpT.mk (lo4 (r.getD 0 0)) (hi4 (r.getD 0 0)) (lo4 (r.getD 1 0)) (hi4 (r.getD 1 0)) (n8 (r.getD 2 0)) ChangeT.zero 0 0 0).flat) 30, blkA b4 (ints (OpT.mk (lo4 (r.getD 0 0)) (hi4 (r.getD 0 0)) (lo4 (r.getD 1 0)) (hi4 (r.getD 1 0)) (n8 (r.getD 2 0)) ChangeT.zero 0 0 0).flat) 30, own u (done.length) (ints (List.flatMap OpT.flat done)) 30 11]
 refine TL.append (k := 2) (news := ints (OpT.mk (lo4 (r.getD 0 0)) (hi4 (r.getD 0 0)) (lo4 (r.getD 1 0)) (hi4 (r.getD 1 0)) (n8 (r.getD 2 0)) ChangeT.zero 0 0 0).flat) (nn' := (done ++ [decOp (r.getD 0 0) (r.getD 1 0) (r.getD 2 0) (r.getD 3 0) (r.getD 4 0)]).length) (xs' := ints (List.flatMap OpT.flat (done ++ [decOp (r.getD 0 0) (r.getD 1 0) (r.getD 2 0) (r.getD 3 0) (r.getD 4 0)]))) (Want.plain rfl) rfl rfl rfl Y98 in30 rfl rfl rfl rfl rfl rfl (fun _ _ => Src.rd (OpT.len _) (RO 0) (by rw [List.drop_zero, List.take_length])) (ints_one _) (by simp only [maxLen]; omega) (by omega) (by simp) (by rw [← hop]; simp [ints]) (fun v74 ov74 => PS ?_)
 refine TL.nil (TE.blockEnd (TE.next J6 (TC.region (PS ?_))))
 refine tp (PV.to (PV.sliceLo (k := 5) rfl Y47 sz5 (by rw [← hv_b]; rfl) rfl (by omega) (by omega) rfl) (congrArg (fun q => cutB q 5) hv_b.symm)) ?_
 refine PS ?_
 refine TL.nil ?_
 exact TE.round (((r.drop 5), (cutB xv 5), (done ++ [decOp (r.getD 0 0) (r.getD 1 0) (r.getD 2 0) (r.getD 3 0) (r.getD 4 0)]), v74) : (List UInt8) × (Value) × (List OpT) × (Value)) ⟨hB.cut 5 (by omega), by rw [List.length_drop]; omega, by rw [List.length_append, List.length_drop]; simp; omega, by rw [ho, opsP_step (by omega)]; simp, cutB_one hx, ov74⟩ (by show (r.drop 5).length < r.length; rw [List.length_drop]; omega)
  SB
  (fun _ s => sep_keep [2] rfl s)
 refine nx J5 (CN (TC.exit (TE.pass (TE.pass (TE.hit (TE.next J3 (sr fun _ J12 => PS ?_)))))))
 refine PS ?_
 refine nx J12 (TC.ret (WK [0] (TE.ret1 rfl rfl ?_)))
 obtain rfl : opsP bs = done := by rw [ho, opsP_stop (by omega), List.append_nil]
 exact ⟨u, rfl, rfl⟩
end Go.Proofs.YtohmkchalilodaaGreatDoor
end

section
namespace Api
open Go Leg Codec Dsk Wal
def askM (a : CM) (i : Nat) (o : OpT) (e : Int) : Option CM := match clientM a i o with
 | none => none
 | some p => if p.2 = e then some p.1 else none
def thenM (a : Option CM) (f : CM → Option CM) : Option CM := match a with
 | none => none
 | some b => f b
theorem thenM_is {a : Option CM} {f : CM → Option CM} {c : CM} (h : thenM a f = some c) : ∃ b, a = some b ∧ f b = some c := by
 cases a with
 | none => cases h
 | some b => exact ⟨b, rfl, h⟩
theorem askM_is {a b : CM} {i : Nat} {o : OpT} {e : Int} (h : askM a i o e = some b) : clientM a i o = some (b, e) := by
 unfold askM at h
 split at h
 · cases h
 · rename_i p hp
   split at h
   · rename_i he
     rw [hp, ← Option.some.inj h, ← he]
   · cases h
abbrev opM (k : Int) (i : Nat) (to' key n : Int) : OpT := OpT.mk k ((i : Nat) : Int) to' key n ChangeT.zero 0 0 0
def lock0 : Option CM := thenM (askM .new 0 (opM 0 0 0 3 1) 0) (settleM 2)
def lockStep (w : Nat) (a : CM) : Option CM :=
 thenM (askM a 0 (opM 1 0 0 3 1) 0) fun a => thenM (settleM 2 a) fun a => thenM (askM a 0 (opM 1 0 0 3 1) 7) fun a => thenM (askM a w (opM 1 w 0 3 1) 7) fun a => thenM (askM a 0 (opM 0 0 0 3 1) 0) fun a => settleM 2 a
def lockEnd (w : Nat) (a : CM) : Option CM := thenM (askM a 0 (opM 2 0 ((w : Nat) : Int) 3 1) 0) fun a => thenM (settleM 2 a) fun a => thenM (askM a 0 (opM 1 0 0 3 1) 7) fun a => askM a w (opM 1 w 0 3 1) 0
def lockAll (w : Nat) : Nat → CM → Bool
 | 0, a => (lockEnd w a).isSome
 | k + 1, a => (lockEnd w a).isSome && match lockStep w a with
  | none => false
  | some b => lockAll w k b
def lockOk (w : Nat) : Bool := match lock0 with
 | none => false
 | some a => lockAll w 7 a
theorem lock_one : lockOk 1 = true := by decide +kernel
theorem lock_two : lockOk 2 = true := by decide +kernel
theorem lockAll_end {w k : Nat} {a : CM} (h : lockAll w k a = true) : ∃ b, lockEnd w a = some b := by
 cases k with
 | zero => exact Option.isSome_iff_exists.1 h
 | succ k =>
  unfold lockAll at h
  rw [Bool.and_eq_true] at h
  exact Option.isSome_iff_exists.1 h.1
theorem lockAll_step {w k : Nat} {a : CM} (h : lockAll w (k + 1) a = true) : ∃ b, lockStep w a = some b ∧ lockAll w k b = true := by
 unfold lockAll at h
 rw [Bool.and_eq_true] at h
 have h2 := h.2
 split at h2
 · cases h2
 · exact ⟨_, by assumption, h2⟩
theorem lock_start {w : Nat} (h : lockOk w = true) : ∃ a b, clientM .new 0 (opM 0 0 0 3 1) = some (a, 0) ∧ settleM (2 - 0) a = some b ∧ lockAll w 7 b = true := by
 unfold lockOk at h
 split at h
 · cases h
 · rename_i b hb
   obtain ⟨a, h1, h2⟩ := thenM_is hb
   exact ⟨a, b, askM_is h1, h2, h⟩
theorem lockStep_is {w : Nat} {a f : CM} (h : lockStep w a = some f) : ∃ b c d e g, clientM a 0 (opM 1 0 0 3 1) = some (b, 0) ∧ settleM (2 - 0) b = some c ∧ clientM c 0 (opM 1 0 0 3 1) = some (d, 7) ∧ clientM d w (opM 1 w 0 3 1) = some (e, 7) ∧ clientM e 0 (opM 0 0 0 3 1) = some (g, 0) ∧ settleM (2 - 0) g = some f := by
 obtain ⟨b, h1, h⟩ := thenM_is h
 obtain ⟨c, h2, h⟩ := thenM_is h
 obtain ⟨d, h3, h⟩ := thenM_is h
 obtain ⟨e, h4, h⟩ := thenM_is h
 obtain ⟨g, h5, h⟩ := thenM_is h
 exact ⟨b, c, d, e, g, askM_is h1, h2, askM_is h3, askM_is h4, askM_is h5, h⟩
theorem lockEnd_is {w : Nat} {a f : CM} (h : lockEnd w a = some f) : ∃ b c d, clientM a 0 (opM 2 0 ((w : Nat) : Int) 3 1) = some (b, 0) ∧ settleM (2 - 0) b = some c ∧ clientM c 0 (opM 1 0 0 3 1) = some (d, 7) ∧ clientM d w (opM 1 w 0 3 1) = some (f, 0) := by
 obtain ⟨b, h1, h⟩ := thenM_is h
 obtain ⟨c, h2, h⟩ := thenM_is h
 obtain ⟨d, h3, h⟩ := thenM_is h
 exact ⟨b, c, d, askM_is h1, h2, askM_is h3, askM_is h⟩
end Api
end

section
namespace Go.Proofs.YtohmkchalilodaaGreatDoor
open Go Leg Codec Api Dsk Wal
def op5 : OpT := OpT.mk 0 0 0 0 5 ChangeT.zero 0 0 0
def PRE : List UInt8 := [109, 97, 99, 104, 105, 110, 101, 32, 48, 32, 117, 112, 32, 49, 32, 49, 32, 48, 32, 49, 32, 50, 10, 109]
def calmB (a : CM) (j : Nat) : Bool := (a.at' j).up && viewB (a.at' j).x.view && decide (0 ≤ (a.at' j).x.own.version) && decide ((a.at' j).x.own.version < 10) && (a.at' j).pl.isEmpty && (a.at' j).rs.isEmpty && (List.range 5).all fun i => tameRB (mirRow (a.at' j).x.mirror ((i : Nat) : Int)) && decide ((mirRow (a.at' j).x.mirror ((i : Nat) : Int)).version = 0)
def sndB : Bool := match clientM .new 0 (OpT.mk 0 ((0 : Nat) : Int) 0 0 5 ChangeT.zero 0 0 0) with
 | none => false
 | some p => decide (p.2 = 0) && ((List.range 5).all fun j => calmB p.1 j) && decide ((telsB p.1 4).take 24 = PRE)
theorem sndB_ok : sndB = true := by decide +kernel
theorem all_lt {p : Nat → Bool} {n : Nat} (h : (List.range n).all p = true) (i : Nat) (hi : i < n) : p i = true := List.all_eq_true.1 h i (List.mem_range.2 hi)
structure Calm (a : CM) : Prop where
 up : ∀ j, j < 5 → (a.at' j).up = true
 view : ∀ j, j < 5 → (a.at' j).x.view = firstV
 ver : ∀ i, i < 5 → 0 ≤ (a.at' i).x.own.version ∧ (a.at' i).x.own.version < 10
 pl : ∀ i, i < 5 → (a.at' i).pl = []
 rs : ∀ i, i < 5 → (a.at' i).rs = []
 wf : ∀ j i, j < 5 → i < 5 → WF (mirRow (a.at' j).x.mirror ((i : Nat) : Int)).flat
 zero : ∀ j i, j < 5 → i < 5 → (mirRow (a.at' j).x.mirror ((i : Nat) : Int)).version = 0
theorem calm_is {a : CM} (h : ((List.range 5).all fun j => calmB a j) = true) : Calm a := by
 have g : ∀ j, j < 5 → calmB a j = true := fun j hj => all_lt h j hj
 have g2 : ∀ j, j < 5 → _ := fun j hj => by
  have := g j hj
  unfold calmB at this
  rw [Bool.and_eq_true, Bool.and_eq_true, Bool.and_eq_true, Bool.and_eq_true, Bool.and_eq_true, Bool.and_eq_true] at this
  exact this
 have g3 : ∀ j i, j < 5 → i < 5 → _ := fun j i hj hi => by
  have := all_lt (g2 j hj).2 i hi
  rw [Bool.and_eq_true] at this
  exact this
 exact ⟨fun j hj => (g2 j hj).1.1.1.1.1.1, fun j hj => viewB_is (g2 j hj).1.1.1.1.1.2, fun i hi => ⟨of_decide_eq_true (g2 i hi).1.1.1.1.2, of_decide_eq_true (g2 i hi).1.1.1.2⟩, fun i hi => List.isEmpty_iff.1 (g2 i hi).1.1.2, fun i hi => List.isEmpty_iff.1 (g2 i hi).1.2,
  fun j i hj hi => (tameRB_is (g3 j i hj hi).1).wf, fun j i hj hi => of_decide_eq_true (g3 j i hj hi).2⟩
theorem merge_none {y : RowT} {i : Nat} (hi : i < 5) (h : y.version = 0) : (bookMerge BookT.zero ((i : Nat) : Int) y).1 = BookT.zero := by
 have e : (bookRow BookT.zero ((i : Nat) : Int)).version = 0 := by
  match i, hi with
  | 0, _ | 1, _ | 2, _ | 3, _ | 4, _ => rfl
 unfold bookMerge
 rw [e, h, show decide ((0 : Int) > 0) = false from rfl, Bool.and_false]
 rfl
theorem Calm.to' {a : CM} (h : Calm a) {j : Nat} (hj : j < 5) : ∀ k, k ≤ 5 → mergeTo a j BookT.zero k = BookT.zero
 | 0, _ => rfl
 | k + 1, hk => by
  rw [mergeTo_succ, h.to' hj k (by omega)]
  exact merge_none (by omega) (h.zero j k hj (by omega))
theorem Calm.truth {a : CM} (h : Calm a) : ∀ k, k ≤ 5 → truthK a k = BookT.zero
 | 0, _ => rfl
 | k + 1, hk => by
  rw [truthK_succ, h.truth k (by omega)]
  exact h.to' (by omega) 5 (Nat.le_refl _)
theorem snd_is : ∃ a, clientM .new 0 (OpT.mk 0 ((0 : Nat) : Int) 0 0 5 ChangeT.zero 0 0 0) = some (a, 0) ∧ Calm a ∧ (telsB a 4).take 24 = PRE := by
 have h := sndB_ok
 unfold sndB at h
 split at h
 · cases h
 · rename_i p hp
   rw [Bool.and_eq_true, Bool.and_eq_true] at h
   have e : p.2 = 0 := of_decide_eq_true h.1.1
   exact ⟨p.1, by rw [hp, ← e], calm_is h.1.2, of_decide_eq_true h.2⟩
theorem ops_one : opsP (encOps [op5]) = [op5] := by show _ = _; kernel_rfl
theorem sep_ownM {H : List HP} {g cap nn e size : Nat} {cur xs : List Value} (i : Nat) (hi : Nat.blt i H.length = true) (hH : H.getD i (fun _ => True) = blkA g cur e) (h1 : nn ≤ cap) (h2 : cap ≤ maxLen) (h3 : cur.length = cap * size) (h4 : cur.take (nn * size) = xs) (h5 : xs.length = nn * size) {h : Hl} (s : sep H h) :
 sep (H.set i (own (.slice (some ⟨g, 0, none⟩) nn cap) nn xs e size)) h := by
 obtain ⟨x, y, d, rfl, a, b⟩ := sep_get i (lb hi) s
 rw [hH] at a
 refine sep_put i (lb hi) ⟨x, y, d, rfl, ?_, b⟩
 exact ⟨h5, .inr ⟨g, cap, cur.toArray, rfl, a, h1, h2, by simp [h3], by simpa using h4⟩⟩
theorem run1_does (c : Nat) (u : Value) (a1 : CM) (hc : clientM .new 0 (OpT.mk 0 ((0 : Nat) : Int) 0 0 5 ChangeT.zero 0 0 0) = some (a1, 0)) :
 Leg.Does Tryz.prog 39 #[(.pointer (some ⟨c, 0, none⟩)), u] (fun _ => True) [own u (([op5] : List OpT).length) (ints (List.flatMap OpT.flat ([op5] : List OpT))) 30 11, cluM c (.new)] (Ret (fun r' H => ∃ n, r' = .int .i64 n ∧ H = [own u (([op5] : List OpT).length) (ints (List.flatMap OpT.flat ([op5] : List OpT))) 30 11, cluM c a1])) := by
 refine Leg.Does.body (n := 22) Tryz.func39 rfl rfl rfl (fun w0 F hF => sr fun _ J1 => PS ?_)
 refine nx J1 (sr fun _ J2 => PS ?_)
 refine nx J2 (TC.seq fun _ J3 => sr fun _ J4 => PS ?_)
 refine TL.ownLen 0 rfl rfl (fun hlu _ => TL.ownAt 0 rfl rfl (by decide) (fun gu capu hvu hcu => ?_))
 have hone : ([op5] : List OpT).length = 1 := rfl
 refine tp (PV.lenV rfl Y98 rfl hlu) ?_
 refine PS ?_
 refine nx J4 (TC.block (TC.unroll 2 (sr fun _ J5 => PS ?_)))
 refine nx J5 (TC.seq fun _ J6 => CY (CX J6 (TC.seq fun _ J7 => TC.block (sr fun _ J8 => tp (PV.indexSlV (r := 0) hvu rfl Y98 sz30 rfl rfl (by omega) (by omega) rfl) ?_))))
 refine tp (PV.loadNX (vs := ints (OpT.mk 0 0 0 0 5 ChangeT.zero 0 0 0).flat) rfl Y30 rfl sz30 rfl (RdX.own 0 rfl hvu rfl) rfl rfl) ?_
 refine XA z30 fun b7 => ?_
 change TL _ _ _ _ _ _ _ _ _ [blkA b7 (ints OpT.zero.flat) 30, own u (([op5] : List OpT).length) (ints (List.flatMap OpT.flat ([op5] : List OpT))) 30 11, cluM c (.new)]
 refine TL.store (vs := ints (OpT.mk 0 0 0 0 5 ChangeT.zero 0 0 0).flat) (i := 0) (Want.plain rfl) rfl rfl rfl rfl rfl (by rw [(OpT.len (OpT.mk 0 0 0 0 5 ChangeT.zero 0 0 0))]; exact sz30) (ints_one _) rfl rfl (LC (OpT.len _) (OpT.len _)) (wwhole ((OpT.len OpT.zero).trans (OpT.len (OpT.mk 0 0 0 0 5 ChangeT.zero 0 0 0)).symm)) rfl (nx J8 (sr fun _ J9 => PS ?_))
 refine tp (PV.loadN (vs := ints (OpT.mk 0 0 0 0 5 ChangeT.zero 0 0 0).flat) rfl Y30 rfl sz30 rfl (RO 0) (OpT.len (OpT.mk 0 0 0 0 5 ChangeT.zero 0 0 0)) (whole (OpT.len (OpT.mk 0 0 0 0 5 ChangeT.zero 0 0 0)))) ?_
 refine CE nm10 (clientM0_does (i := 0) (to' := 0) (key := 0) (k := 5) (e := 0) (by decide) hc) (SM [2]) ?_
 refine PS ?_
 refine nx J9 (CY (TC.region (PS ?_)))
 refine tp (PV.add (r := 1) rfl rfl rfl (by decide)) ?_
 refine PS ?_
 refine TL.nil (TE.blockEnd (TE.next J7 (TC.region (tp (PV.add (r := 1) rfl rfl rfl (by decide)) ?_))))
 refine PS ?_
 refine TL.nil (TE.again (sr fun _ J10 => PS ?_))
 refine nx J10 (TC.seq fun _ J11 => CN (TC.exit (TE.pass (TE.pass (TE.hit (TE.next J3 (sr fun _ J12 => PS ?_)))))))
 refine PS ?_
 exact nx J12 (TC.ret (WK [2, 0] (TE.ret1 rfl rfl ⟨_, rfl, rfl⟩)))
theorem tclusterM_does (c : Nat) (a : CM) (h : Calm a) : Leg.Does Tryz.prog 41 #[.pointer (some ⟨c, 0, none⟩)] (fun _ => True) [cluM c a] (Ret (fun r' H => r' = strV (telsB a 4) ∧ H = [cluM c a])) :=
 Leg.Does.ex (A' := fun g => [cluSM c a g]) (fun h s => cm_known s) fun g => Leg.Does.fold (tcluster_does c a g h.up h.view h.wf (h.truth 5 (Nat.le_refl _)) h.ver h.pl h.rs) fun e H hp => by
  cases e with
  | returned v => obtain ⟨rfl, rfl⟩ := hp; exact ⟨_, fun _ s => cm_forget s, rfl, rfl⟩
  | panicked c => exact hp.elim
  | outgrown => exact hp.elim
theorem tellRun_does (x : Value) (a1 : CM) (hc : clientM .new 0 (OpT.mk 0 ((0 : Nat) : Int) 0 0 5 ChangeT.zero 0 0 0) = some (a1, 0)) (hC : Calm a1) :
 Leg.Does Tryz.prog 18 #[x] (IsB x (encOps [op5])) [] (Ret (fun r' H => r' = strV (telsB a1 4) ∧ H = [])) := by
 refine Leg.Does.body (n := 11) Tryz.func18 rfl rfl rfl (fun w0 F hF => sr fun _ J1 => PS ?_)
 refine nx J1 (sr fun _ J2 => CR nm9 (cluNewM_does) (fun _ s => s) fun vR HR hR => ?_)
 obtain ⟨c, rfl, rfl⟩ := hR
 refine PS ?_
 refine nx J2 (sr fun _ J3 => PS ?_)
 refine PS ?_
 refine CQ nm40 (opsDecode_does x (encOps [op5]) (by decide)) (fun _ s => s) (fun _ d _ => IsB.more hF d) fun vR HR hR => ?_
 obtain ⟨_, rfl, hH⟩ := hR
 revert vR
 intro u hH
 rw [ops_one] at hH
 subst hH
 refine CR nm39 (run1_does c u a1 hc) (fun _ s => s) fun vR HR hR => ?_
 obtain ⟨n, rfl, rfl⟩ := hR
 refine nx J3 (sr fun _ J4 => PS ?_)
 refine CE nm41 (tclusterM_does c a1 hC) (SM [1]) ?_
 refine PS ?_
 exact nx J4 (TC.ret (WK [] (TE.ret1 rfl rfl ⟨rfl, rfl⟩)))
theorem sound_does  :
 Leg.Does Tryz.prog 8 #[] (fun _ => True) [] (Ret (fun r' H => r' = .bool true ∧ H = [])) := by
 refine Leg.Does.body (n := 14) Tryz.func8 rfl rfl rfl (fun w0 F hF => ?_)
 obtain ⟨a1, hc, hC, hpre⟩ := snd_is
 refine sr fun _ J1 => PS ?_
 refine nx J1 (sr fun _ J2 => tp (PV.buildSegs (cs := ints (OpT.mk 0 0 0 0 5 ChangeT.zero 0 0 0).flat) (segs := OZ) (res := [[Value.int .i64 0], [Value.int .i64 0], [Value.int .i64 0], [Value.int .i64 0], [Value.int .i64 5], ints ChangeT.zero.flat, [Value.int .i64 0], [Value.int .i64 0], [Value.int .i64 0]]) (parts := [(0, [Value.int .i64 0]), (4, [Value.int .i64 5])]) rfl rfl Y30 (by kernel_rfl) (by kernel_rfl) rfl (putSegs_step rfl rfl (putSegs_step rfl rfl putSegs_nil)) (OpT.eq (OpT.mk 0 0 0 0 5 ChangeT.zero 0 0 0)).symm) ?_)
 refine TL.buildSlice (cells := (ints (OpT.mk 0 0 0 0 5 ChangeT.zero 0 0 0).flat).toArray) (Want.plain rfl) rfl rfl rfl Y98 in30 rfl rfl rfl (fill_at (OpT.len (OpT.mk 0 0 0 0 5 ChangeT.zero 0 0 0)) (by simp)) (fun b3 => ?_)
 change TL _ _ _ _ _ _ _ _ _ [blkA b3 (ints (OpT.mk 0 0 0 0 5 ChangeT.zero 0 0 0).flat) 30]
 refine TL.mono (H' := [own (.slice (some ⟨b3, 0, none⟩) (1) (1)) (([op5] : List OpT).length) (ints (List.flatMap OpT.flat ([op5] : List OpT))) 30 11]) (fun _ s => sep_ownM (g := b3) (cap := 1) (nn := 1) (e := 30) (size := 11) (cur := ints (List.flatMap OpT.flat ([op5] : List OpT))) (xs := ints (List.flatMap OpT.flat ([op5] : List OpT))) 0 rfl rfl (by decide) (by decide) rfl rfl rfl s) (CQ nm19 (opsEncode_does (.slice (some ⟨b3, 0, none⟩) (1) (1)) [op5] (by decide)) (fun _ s => s) (isF_own OpT.flat_length 0 rfl rfl) fun vR HR hR => ?_)
 obtain ⟨_, rfl, rfl⟩ := hR
 revert vR
 intro ue
 refine CF nm18 (tellRun_does ue a1 hc hC) (fun _ s => s) (isB_own 0 rfl rfl) ?_
 refine PS ?_
 refine nx J2 (sr fun _ J3 => PS ?_)
 refine tp (PV.to (PV.strLen rfl Y9 rfl) (by rw [telsB_len])) ?_
 iterate 3 refine PS ?_
 refine tq (PV.strTo (hi := 24) rfl Y9 rfl rfl rfl (by rw [telsB_len]; decide)) ?_
 refine tq (PV.strEql (a := (telsB a1 4).take 24) (b := [109, 97, 99, 104, 105, 110, 101, 32, 48, 32, 117, 112, 32, 49, 32, 49, 32, 48, 32, 49, 32, 50, 10, 109]) rfl rfl rfl) ?_
 refine PS ?_
 refine PS ?_
 exact nx J3 (TC.ret (WK [] (TE.ret1 rfl rfl ⟨congrArg Value.bool (decide_eq_true hpre), rfl⟩)))
end Go.Proofs.YtohmkchalilodaaGreatDoor
end

section
namespace Go.Proofs.YtohmkchalilodaaGreatDoor
open Go Leg Codec Api Dsk Wal
theorem lockW_does (n' other : Int) (m w : Nat) (hm : m ≤ 7) (hw5 : w < 5) (hok : lockOk w = true) (hme : n' % 8 = ((m : Nat) : Int)) (hj : 1 + other % 2 = ((w : Nat) : Int)) :
 Leg.Does Tryz.prog 3 #[(.int .i64 (n')), (.int .i64 (other))] (fun _ => True) [] (Ret (fun r' H => r' = .bool true ∧ H = [])) := by
 refine Leg.Does.body (n := 68) Tryz.func3 rfl rfl rfl (fun w0 F hF => ?_)
 obtain ⟨a, b0, ha, hb, hl⟩ := lock_start hok
 refine sr fun _ J1 => PS ?_
 refine nx J1 (TC.seq fun _ J2 => sr fun _ J3 => CE nm8 (sound_does) (fun _ s => s) ?_)
 refine tp (PV.not (r := false) rfl rfl rfl) ?_
 refine nx J3 (CN (CX J2 (sr fun _ J4 => PS ?_)))
 refine tp (PV.and (r := ((m : Nat) : Int)) rfl rfl rfl ((mask (k := 3) (by decide) _).trans hme)) ?_
 refine PS ?_
 refine tp (PV.and (r := (other % 2)) rfl rfl rfl (mask (k := 1) (by decide) _)) ?_
 refine tp (PV.add (r := ((w : Nat) : Int)) rfl rfl rfl ((wrap_i64 (by omega) (by omega)).trans hj)) ?_
 refine PS ?_
 refine PS ?_
 refine nx J4 (sr fun _ J5 => CR nm9 (cluNewM_does) (fun _ s => s) fun vR HR hR => ?_)
 obtain ⟨c, rfl, rfl⟩ := hR
 refine PS ?_
 refine nx J5 (sr fun _ J6 => PS ?_)
 refine tp (PV.buildSegs (cs := ints (OpT.mk 0 0 0 3 1 ChangeT.zero 0 0 0).flat) (segs := OZ) (res := [[Value.int .i64 0], [Value.int .i64 0], [Value.int .i64 0], [Value.int .i64 3], [Value.int .i64 1], ints ChangeT.zero.flat, [Value.int .i64 0], [Value.int .i64 0], [Value.int .i64 0]]) (parts := [(0, [Value.int .i64 0]), (3, [Value.int .i64 3]), (4, [Value.int .i64 1])]) rfl rfl Y30 (by kernel_rfl) (by kernel_rfl) rfl (putSegs_step rfl rfl (putSegs_step rfl rfl (putSegs_step rfl rfl putSegs_nil))) (OpT.eq (OpT.mk 0 0 0 3 1 ChangeT.zero 0 0 0)).symm) ?_
 refine CE nm10 (clientM0_does (i := 0) (to' := 0) (key := 3) (k := 1) (e := 0) (by decide) ha) (fun _ s => s) ?_
 refine nx J6 (sr fun _ J7 => PS ?_)
 refine CZ nm11 (settleM_does 2 (by decide) hb) (fun _ s => s) fun vR => ?_
 refine nx J7 (TC.seq fun _ J8 => sr fun _ J9 => PS ?_)
 refine PS ?_
 refine nx J9 (TC.block ?_)
 refine TC.loop (α := (Nat) × (CM)) (fun ⟨i, b⟩ => i ≤ m ∧ lockAll w (7 - i) b = true) (fun ⟨i, b⟩ => [(1, (.int .i64 (((w : Nat) : Int)))), (5, (.pointer (some ⟨c, 0, none⟩))), (21, (.int .i64 (((m : Nat) : Int)))), (22, (.int .i64 (((i : Nat) : Int))))]) (fun ⟨i, b⟩ => [cluM c (b)]) (fun ⟨i, b⟩ => m - i) (0, b0)
  ⟨Nat.zero_le _, hl⟩ SB
  (fun _ s => s) (fun ⟨i, b⟩ hinv => ?_)
 obtain ⟨hi, hs⟩ := hinv
 refine sr fun _ J10 => PS ?_
 refine TL.dec (fun h23 => ?_) (fun h23 => ?_)
 obtain ⟨b6, hs1, hs2⟩ := lockAll_step (k := 7 - i - 1) (by rw [show 7 - i - 1 + 1 = 7 - i from by omega]; exact hs)
 obtain ⟨b1, b2, b3, b4, b5, p1, p2, p3, p4, p5, p6⟩ := lockStep_is hs1
 refine nx J10 (TC.seq fun _ J11 => CY (CX J11 (TC.seq fun _ J12 => TC.block (TC.seq fun _ J13 => sr fun _ J14 => PS ?_))))
 refine tp (PV.buildSegs (cs := ints (OpT.mk 1 0 0 3 1 ChangeT.zero 0 0 0).flat) (segs := OZ) (res := [[Value.int .i64 1], [Value.int .i64 0], [Value.int .i64 0], [Value.int .i64 3], [Value.int .i64 1], ints ChangeT.zero.flat, [Value.int .i64 0], [Value.int .i64 0], [Value.int .i64 0]]) (parts := [(0, [Value.int .i64 1]), (3, [Value.int .i64 3]), (4, [Value.int .i64 1])]) rfl rfl Y30 (by kernel_rfl) (by kernel_rfl) rfl (putSegs_step rfl rfl (putSegs_step rfl rfl (putSegs_step rfl rfl putSegs_nil))) (OpT.eq (OpT.mk 1 0 0 3 1 ChangeT.zero 0 0 0)).symm) ?_
 refine CE nm10 (clientM1_does (i := 0) (to' := 0) (key := 3) (k := 1) (e := 0) (by decide) p1) (fun _ s => s) ?_
 refine PS ?_
 refine nx J14 (CN (CX J13 (sr fun _ J15 => PS ?_)))
 refine CZ nm11 (settleM_does 2 (by decide) p2) (fun _ s => s) fun vR => ?_
 refine nx J15 (TC.seq fun _ J16 => sr fun _ J17 => PS ?_)
 refine tp (PV.buildSegs (cs := ints (OpT.mk 1 0 0 3 1 ChangeT.zero 0 0 0).flat) (segs := OZ) (res := [[Value.int .i64 1], [Value.int .i64 0], [Value.int .i64 0], [Value.int .i64 3], [Value.int .i64 1], ints ChangeT.zero.flat, [Value.int .i64 0], [Value.int .i64 0], [Value.int .i64 0]]) (parts := [(0, [Value.int .i64 1]), (3, [Value.int .i64 3]), (4, [Value.int .i64 1])]) rfl rfl Y30 (by kernel_rfl) (by kernel_rfl) rfl (putSegs_step rfl rfl (putSegs_step rfl rfl (putSegs_step rfl rfl putSegs_nil))) (OpT.eq (OpT.mk 1 0 0 3 1 ChangeT.zero 0 0 0)).symm) ?_
 refine CE nm10 (clientM1_does (i := 0) (to' := 0) (key := 3) (k := 1) (e := 7) (by decide) p3) (fun _ s => s) ?_
 iterate 4 refine PS ?_
 refine tq (PV.buildSegs (cs := ints (OpT.mk 1 ((w : Nat) : Int) 0 3 1 ChangeT.zero 0 0 0).flat) (segs := OZ) (res := [[Value.int .i64 1], [Value.int .i64 ((w : Nat) : Int)], [Value.int .i64 0], [Value.int .i64 3], [Value.int .i64 1], ints ChangeT.zero.flat, [Value.int .i64 0], [Value.int .i64 0], [Value.int .i64 0]]) (parts := [(0, [Value.int .i64 1]), (1, [Value.int .i64 ((w : Nat) : Int)]), (3, [Value.int .i64 3]), (4, [Value.int .i64 1])]) rfl rfl Y30 (by kernel_rfl) (by kernel_rfl) rfl (putSegs_step rfl rfl (putSegs_step rfl rfl (putSegs_step rfl rfl (putSegs_step rfl rfl putSegs_nil)))) (OpT.eq (OpT.mk 1 ((w : Nat) : Int) 0 3 1 ChangeT.zero 0 0 0)).symm) ?_
 refine CE nm10 (clientM1_does (i := w) (to' := 0) (key := 3) (k := 1) (e := 7) hw5 p4) (fun _ s => s) ?_
 refine PS ?_
 refine PS ?_
 refine nx J17 (CN (CX J16 (TC.seq fun _ J18 => sr fun _ J19 => PS ?_)))
 refine tp (PV.buildSegs (cs := ints (OpT.mk 0 0 0 3 1 ChangeT.zero 0 0 0).flat) (segs := OZ) (res := [[Value.int .i64 0], [Value.int .i64 0], [Value.int .i64 0], [Value.int .i64 3], [Value.int .i64 1], ints ChangeT.zero.flat, [Value.int .i64 0], [Value.int .i64 0], [Value.int .i64 0]]) (parts := [(0, [Value.int .i64 0]), (3, [Value.int .i64 3]), (4, [Value.int .i64 1])]) rfl rfl Y30 (by kernel_rfl) (by kernel_rfl) rfl (putSegs_step rfl rfl (putSegs_step rfl rfl (putSegs_step rfl rfl putSegs_nil))) (OpT.eq (OpT.mk 0 0 0 3 1 ChangeT.zero 0 0 0)).symm) ?_
 refine CE nm10 (clientM0_does (i := 0) (to' := 0) (key := 3) (k := 1) (e := 0) (by decide) p5) (fun _ s => s) ?_
 refine PS ?_
 refine nx J19 (CN (CX J18 (TC.region (PS ?_))))
 refine CZ nm11 (settleM_does 2 (by decide) p6) (fun _ s => s) fun vR => ?_
 refine TL.nil (TE.blockEnd (TE.next J12 (TC.region (AD ?_))))
 refine PS ?_
 refine TL.nil ?_
 exact TE.round ((i + 1, b6) : (Nat) × (CM)) ⟨by omega, by rw [show 7 - (i + 1) = 7 - i - 1 from by omega]; exact hs2⟩ (by show m - (i + 1) < m - i; omega)
  SB
  (fun _ s => s)
 obtain ⟨d4, he⟩ := lockAll_end hs
 obtain ⟨d1, d2, d3, q1, q2, q3, q4⟩ := lockEnd_is he
 refine nx J10 (TC.seq fun _ J20 => CN (TC.exit (TE.pass (TE.pass (TE.hit (TE.next J8 (TC.seq fun _ J21 => sr fun _ J22 => PS ?_)))))))
 refine PS ?_
 refine tp (PV.buildSegs (cs := ints (OpT.mk 2 0 ((w : Nat) : Int) 3 1 ChangeT.zero 0 0 0).flat) (segs := OZ) (res := [[Value.int .i64 2], [Value.int .i64 0], [Value.int .i64 ((w : Nat) : Int)], [Value.int .i64 3], [Value.int .i64 1], ints ChangeT.zero.flat, [Value.int .i64 0], [Value.int .i64 0], [Value.int .i64 0]]) (parts := [(0, [Value.int .i64 2]), (3, [Value.int .i64 3]), (4, [Value.int .i64 1]), (2, [Value.int .i64 ((w : Nat) : Int)])]) rfl rfl Y30 (by kernel_rfl) (by kernel_rfl) rfl (putSegs_step rfl rfl (putSegs_step rfl rfl (putSegs_step rfl rfl (putSegs_step rfl rfl putSegs_nil)))) (OpT.eq (OpT.mk 2 0 ((w : Nat) : Int) 3 1 ChangeT.zero 0 0 0)).symm) ?_
 refine CE nm10 (clientM2_does (i := 0) (to' := ((w : Nat) : Int)) (key := 3) (k := 1) (e := 0) (by decide) q1) (fun _ s => s) ?_
 refine PS ?_
 refine nx J22 (CN (CX J21 (sr fun _ J23 => PS ?_)))
 refine CZ nm11 (settleM_does 2 (by decide) q2) (fun _ s => s) fun vR => ?_
 refine nx J23 (sr fun _ J24 => PS ?_)
 refine tp (PV.buildSegs (cs := ints (OpT.mk 1 0 0 3 1 ChangeT.zero 0 0 0).flat) (segs := OZ) (res := [[Value.int .i64 1], [Value.int .i64 0], [Value.int .i64 0], [Value.int .i64 3], [Value.int .i64 1], ints ChangeT.zero.flat, [Value.int .i64 0], [Value.int .i64 0], [Value.int .i64 0]]) (parts := [(0, [Value.int .i64 1]), (3, [Value.int .i64 3]), (4, [Value.int .i64 1])]) rfl rfl Y30 (by kernel_rfl) (by kernel_rfl) rfl (putSegs_step rfl rfl (putSegs_step rfl rfl (putSegs_step rfl rfl putSegs_nil))) (OpT.eq (OpT.mk 1 0 0 3 1 ChangeT.zero 0 0 0)).symm) ?_
 refine CE nm10 (clientM1_does (i := 0) (to' := 0) (key := 3) (k := 1) (e := 7) (by decide) q3) (fun _ s => s) ?_
 refine PS ?_
 refine nx J24 (sr fun _ J25 => PS ?_)
 refine PS ?_
 refine tp (PV.buildSegs (cs := ints (OpT.mk 1 ((w : Nat) : Int) 0 3 1 ChangeT.zero 0 0 0).flat) (segs := OZ) (res := [[Value.int .i64 1], [Value.int .i64 ((w : Nat) : Int)], [Value.int .i64 0], [Value.int .i64 3], [Value.int .i64 1], ints ChangeT.zero.flat, [Value.int .i64 0], [Value.int .i64 0], [Value.int .i64 0]]) (parts := [(0, [Value.int .i64 1]), (1, [Value.int .i64 ((w : Nat) : Int)]), (3, [Value.int .i64 3]), (4, [Value.int .i64 1])]) rfl rfl Y30 (by kernel_rfl) (by kernel_rfl) rfl (putSegs_step rfl rfl (putSegs_step rfl rfl (putSegs_step rfl rfl (putSegs_step rfl rfl putSegs_nil)))) (OpT.eq (OpT.mk 1 ((w : Nat) : Int) 0 3 1 ChangeT.zero 0 0 0)).symm) ?_
 refine CE nm10 (clientM1_does (i := w) (to' := 0) (key := 3) (k := 1) (e := 0) hw5 q4) (fun _ s => s) ?_
 refine PS ?_
 refine nx J25 (sr fun _ J26 => ?_)
 iterate 7 refine PS ?_
 exact nx J26 (TC.ret (WK [] (TE.ret1 rfl rfl ⟨rfl, rfl⟩)))
theorem wholeLock_does (n' other : Int) : Leg.Does Tryz.prog 3 #[.int .i64 n', .int .i64 other] (fun _ => True) [] (Ret (fun r' H => r' = .bool true ∧ H = [])) := by
 obtain ⟨m, hm, hme⟩ : ∃ m : Nat, m ≤ 7 ∧ n' % 8 = ((m : Nat) : Int) := ⟨(n' % 8).toNat, by omega, by omega⟩
 rcases (show other % 2 = 0 ∨ other % 2 = 1 by omega) with hj | hj
 · exact lockW_does n' other m 1 hm (by decide) lock_one hme (by omega)
 · exact lockW_does n' other m 2 hm (by decide) lock_two hme (by omega)
end Go.Proofs.YtohmkchalilodaaGreatDoor
end
