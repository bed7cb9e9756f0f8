/-
  Joined texts:what a statement's proof reaches.
-/
import Derived.Conc.LoneCalls
import Derived.Conc.LoneSelectN
import Derived.Test.YtkhjnolhhidecaaGreatDoorPWC4
set_option maxHeartbeats 8000000
set_option maxRecDepth 100000
set_option linter.unusedSimpArgs false
set_option linter.unusedVariables false
section
namespace Go.Proofs.YtkhjnolhhidecaaGreatDoor
open Go Leg Codec Api
theorem Br(rb:Nat)(v:Value)(bs:List UInt8):
 DT 103 #[(.pointer (some ⟨rb,0,none⟩))] (IsB v bs) [aj rb [v] 216] (oP 216 jb (λmb:MsgT×Bool=> .tuple #[.agg (ints mb.1.flat).toArray, .bool mb.2]) cL v bs rb):=by
 refine BD 85 Tryz.func103 rfl rfl rfl λw0 F hF=>sr λ_ J1=>XZ nf (ints MsgT.zero.flat) λb2=>?_
 refine PS ?_;refine nx J1 (sr λ_ J2=>PS ?_);refine CP jK (de rb v bs (10)) (SM [1]) (λ_ d _=>(hF).more d) (λcP HP hP=>?_) (λvR HR hR=>?_);obtain⟨vP,rfl,rfl,hpP⟩:=hP;refine ay (WK [0] (aT ?_));exact⟨_,rfl,rfl,by simp[cL,cf hpP, *]⟩;obtain⟨a1,r1,v1,rfl,rfl,hp1,ht1⟩:=hR;have hf1:=ht1 _ hF;refine tp (ku MsgT.zero (MsgT.mk a1 0 RowT.zero 0 0 BallotT.zero BallotT.zero ChangeT.zero ViewT.zero) [(0,[Value.int .i64 a1])] bi bD (g:=MsgT.sg)) ?_;refine XZ nf (ints MsgT.zero.flat) λb4=>?_
 refine SW 0 ct aH ?_;refine nx J2 (aa λ_ J3=>sr λ_ J4=>FA 0 bi aO ?_);refine LT 0 Y3 (.int .i64 (a1)) ?_ (hc:=by exact fk _ rfl);refine nx J4 (am (aa λ_ J5=>fA (α:=Unit) (λ_u=>True) (λ_u=>[(0,(.pointer (some ⟨rb,0,none⟩))),(2,(.pointer (some ⟨b2,0,none⟩))),(3,(.bool false)),(4,(.pointer (some ⟨b4,0,none⟩))),(9,(.int .i64 (a1))),(10,(.bool ((eA a1))))]) (λ_u=>[aj b4 (ints (MsgT.mk a1 0 RowT.zero 0 0 BallotT.zero BallotT.zero ChangeT.zero ViewT.zero).flat) 134,aj rb [v1] 216,aj b2 (ints MsgT.zero.flat) 134]) (λ_u hinv=>?_) (λtl5=>?_)));have _:=hinv;refine ad J5 (TC.cond rfl (λh10=>?_) (λh10=>?_));refine sr λ_ J6=>PS ?_
 refine CP jK (de rb v1 r1 (5)) (SM [1]) (λ_ d _=>(hf1).more d) (λcP HP hP=>?_) (λvR HR hR=>?_);obtain⟨vP,rfl,rfl,hpP⟩:=hP;refine ay (aQ (ay (WK [0] (aT ?_))));exact⟨_,rfl,rfl,by simp[cL,ax hp1,cf hpP,h10, *]⟩;obtain⟨a2,r2,v2,rfl,rfl,hp2,ht2⟩:=hR;have hf2:=ht2 _ hf1;refine FA 1 bi aO ?_;refine SS 1 aO (aH _) (MsgT.set_whose _ rfl _) ?_;refine nx J6 (sr λ_ J7=>PS ?_);refine CP Ke (uS rb v2 r2) ID (λ_ d _=>(hf2).more d) (λcP HP hP=>?_) (λvR HR hR=>?_);obtain⟨vP,rfl,rfl,hpP⟩:=hP;refine ay (aQ (ay (WK [0] (aT ?_))));exact⟨_,rfl,rfl,by simp[cL,ax hp1,ax hp2,cf hpP,h10, *]⟩;obtain⟨a3,r3,v3,rfl,rfl,hp3,ht3⟩:=hR;have hf3:=ht3 _ hf2;refine FA 2 bi bf ?_;refine SP 1 bf ai aH MsgT.wp_row ?_;refine nx J7 (aa λ_ J8=>D1 1 bl ?_);refine LY 0 bi ct aH ?_;refine FD 1 2 bi bf ?_;refine ta 2 rfl (aN (vs:=ints a3.flat) rfl el rfl bf rfl (λ_ h=>h.2.1) (ai a3) (m7 (MsgT.mk a1 a2 a3 0 0 BallotT.zero BallotT.zero ChangeT.zero ViewT.zero) 0 rfl (by decide) (whole (ai a3)))) ?_;refine AL 3 ?_;refine CE JU (kC a3 (Bl hp3)) ID ?_;refine EN (AL 4 ?_);refine SW 2 ct aH ?_;refine EN (PD 5 ?_);refine DN (ad J8 (ah (aI (ae (RT 2 [0] bi ct (aH _) ?_)))));exact⟨((MsgT.mk a1 a2 a3 0 0 BallotT.zero BallotT.zero ChangeT.zero ViewT.zero),(gh a3)),_,_,rfl,rfl,by simp[cL,pr,ax hp1,ax hp2,ax hp3,h10,MsgT.zero,RecT.zero, *],(ht1.trans (ht2.trans ht3))⟩;refine sr λ_ J9=>PS ?_
 refine ap ?_ ?_<;>intro h25;refine PS ?_;refine nx J9 (CY (ac (PS ?_)));refine CP qL (jJ rb v1 r1) (SM [1]) (λ_ d _=>(hf1).more d) (λcP HP hP=>?_) (λvR HR hR=>?_);obtain⟨vP,rfl,rfl,hpP⟩:=hP;refine aQ (ay (WK [0] (aT ?_)));exact⟨_,rfl,rfl,by simp[cL,eA,fj,ax hp1,cf hpP,h10,h25, *]⟩;obtain⟨a2,r2,v2,rfl,rfl,hp2,ht2⟩:=hR;have hf2:=ht2 _ hf1;refine FA 176 bi aO ?_;refine SS 1 aO (aH _) (MsgT.set_version _ rfl _) ?_;refine au (af (ad J3 (sr λ_ J10=>LW 1 bi ct aH ?_)));refine SW 2 ct aH ?_;refine PS ?_;refine nx J10 (ah (RT 2 [0] bi ct (aH _) ?_));exact⟨((MsgT.mk a1 0 RowT.zero a2 0 BallotT.zero BallotT.zero ChangeT.zero ViewT.zero),true),_,_,rfl,rfl,by simp[cL,eA,fj,pr,ax hp1,ax hp2,h10,h25,MsgT.zero,RecT.zero, *],(ht1.trans ht2)⟩;refine PS ?_;refine nx J9 (CN (aa λ_ J11=>fA (α:=Unit) (λ_u=>True) (λ_u=>[(0,(.pointer (some ⟨rb,0,none⟩))),(2,(.pointer (some ⟨b2,0,none⟩))),(3,(.bool false)),(4,(.pointer (some ⟨b4,0,none⟩))),(9,(.int .i64 (a1))),(29,(.bool ((fj a1))))]) (λ_u=>[aj b4 (ints (MsgT.mk a1 0 RowT.zero 0 0 BallotT.zero BallotT.zero ChangeT.zero ViewT.zero).flat) 134,aj rb [v1] 216,aj b2 (ints MsgT.zero.flat) 134]) (λ_u hinv=>?_) (λtl11=>?_)));have _:=hinv;refine ad J11 (TC.cond rfl (λh29=>?_) (λh29=>?_));refine sr λ_ J12=>PS ?_
 refine CP qL (jJ rb v1 r1) (SM [1]) (λ_ d _=>(hf1).more d) (λcP HP hP=>?_) (λvR HR hR=>?_);obtain⟨vP,rfl,rfl,hpP⟩:=hP;refine ay (aQ (ay (WK [0] (aT ?_))));exact⟨_,rfl,rfl,by simp[cL,ax hp1,cf hpP,h10,h25,h29, *]⟩;obtain⟨a2,r2,v2,rfl,rfl,hp2,ht2⟩:=hR;have hf2:=ht2 _ hf1;refine FA 177 bi aO ?_;refine SS 1 aO (aH _) (Qc _ rfl _) ?_;refine nx J12 (ac (PS ?_));refine CP Aj (j9 rb v2 r2) ID (λ_ d _=>(hf2).more d) (λcP HP hP=>?_) (λvR HR hR=>?_);obtain⟨vP,rfl,rfl,hpP⟩:=hP;refine aQ (ay (WK [0] (aT ?_)));exact⟨_,rfl,rfl,by simp[cL,ax hp1,ax hp2,cf hpP,h10,h25,h29, *]⟩;obtain⟨a3,r3,v3,rfl,rfl,hp3,ht3⟩:=hR;have hf3:=ht3 _ hf2;refine FA 178 bi cJ ?_;refine SP 1 cJ aq aH Qb ?_;refine au (af (ad J3 (sr λ_ J13=>LW 1 bi ct aH ?_)));refine SW 2 ct aH ?_;refine PS ?_;refine nx J13 (ah (RT 2 [0] bi ct (aH _) ?_));exact⟨((MsgT.mk a1 0 RowT.zero 0 a2 a3 BallotT.zero ChangeT.zero ViewT.zero),true),_,_,rfl,rfl,by simp[cL,pr,ax hp1,ax hp2,ax hp3,h10,h25,h29,MsgT.zero,RecT.zero, *],(ht1.trans (ht2.trans ht3))⟩;refine sr λ_ J14=>PS ?_
 refine ap ?_ ?_<;>intro h39;refine PS ?_;refine nx J14 (CY (sr λ_ J15=>PS ?_));refine CP qL (jJ rb v1 r1) (SM [1]) (λ_ d _=>(hf1).more d) (λcP HP hP=>?_) (λvR HR hR=>?_);obtain⟨vP,rfl,rfl,hpP⟩:=hP;refine ay (aQ (ay (WK [0] (aT ?_))));exact⟨_,rfl,rfl,by simp[cL,eA,fj,ax hp1,cf hpP,h10,h25,h29,h39, *]⟩;obtain⟨a2,r2,v2,rfl,rfl,hp2,ht2⟩:=hR;have hf2:=ht2 _ hf1;refine FA 177 bi aO ?_;refine SS 1 aO (aH _) (Qc _ rfl _) ?_;refine nx J15 (sr λ_ J16=>PS ?_);refine CP Aj (j9 rb v2 r2) ID (λ_ d _=>(hf2).more d) (λcP HP hP=>?_) (λvR HR hR=>?_);obtain⟨vP,rfl,rfl,hpP⟩:=hP;refine ay (aQ (ay (WK [0] (aT ?_))));exact⟨_,rfl,rfl,by simp[cL,eA,fj,ax hp1,ax hp2,cf hpP,h10,h25,h29,h39, *]⟩;obtain⟨a3,r3,v3,rfl,rfl,hp3,ht3⟩:=hR;have hf3:=ht3 _ hf2;refine FA 178 bi cJ ?_;refine SP 1 cJ aq aH Qb ?_;refine nx J16 (sr λ_ J17=>PS ?_);refine CP Aj (j9 rb v3 r3) ID (λ_ d _=>(hf3).more d) (λcP HP hP=>?_) (λvR HR hR=>?_);obtain⟨vP,rfl,rfl,hpP⟩:=hP;refine ay (aQ (ay (WK [0] (aT ?_))));exact⟨_,rfl,rfl,by simp[cL,eA,fj,ax hp1,ax hp2,ax hp3,cf hpP,h10,h25,h29,h39, *]⟩;obtain⟨a4,r4,v4,rfl,rfl,hp4,ht4⟩:=hR;have hf4:=ht4 _ hf3;refine FA 180 bi cJ ?_;refine SP 1 cJ aq aH MsgT.wp_had ?_;refine nx J17 (ac (PS ?_));refine CP Kc (pz rb v4 r4) ID (λ_ d _=>(hf4).more d) (λcP HP hP=>?_) (λvR HR hR=>?_);obtain⟨vP,rfl,rfl,hpP⟩:=hP
 refine aQ (ay (WK [0] (aT ?_)));exact⟨_,rfl,rfl,by simp[cL,eA,fj,ax hp1,ax hp2,ax hp3,ax hp4,cf hpP,h10,h25,h29,h39, *]⟩;obtain⟨a5,r5,v5,rfl,rfl,hp5,ht5⟩:=hR;have hf5:=ht5 _ hf4;refine FA 182 bi fF ?_;refine SP 1 fF aJ aH Qa ?_;refine au (af (ad J3 (sr λ_ J18=>LW 1 bi ct aH ?_)));refine SW 2 ct aH ?_;refine PS ?_;refine nx J18 (ah (RT 2 [0] bi ct (aH _) ?_));exact⟨((MsgT.mk a1 0 RowT.zero 0 a2 a3 a4 a5 ViewT.zero),true),_,_,rfl,rfl,by simp[cL,eA,fj,pr,ax hp1,ax hp2,ax hp3,ax hp4,ax hp5,h10,h25,h29,h39,MsgT.zero,RecT.zero, *],(ht1.trans (ht2.trans (ht3.trans (ht4.trans ht5))))⟩;refine PS ?_;refine nx J14 (CN (sr λ_ J19=>PS ?_));refine ap ?_ ?_<;>intro h53;refine PS ?_;refine nx J19 (CY (sr λ_ J20=>PS ?_));refine CP qL (jJ rb v1 r1) (SM [1]) (λ_ d _=>(hf1).more d) (λcP HP hP=>?_) (λvR HR hR=>?_);obtain⟨vP,rfl,rfl,hpP⟩:=hP;refine ay (aQ (ay (WK [0] (aT ?_))));exact⟨_,rfl,rfl,by simp[cL,eA,fj,ax hp1,cf hpP,h10,h25,h29,h39,h53, *]⟩;obtain⟨a2,r2,v2,rfl,rfl,hp2,ht2⟩:=hR;have hf2:=ht2 _ hf1;refine FA 177 bi aO ?_;refine SS 1 aO (aH _) (Qc _ rfl _) ?_;refine nx J20 (sr λ_ J21=>PS ?_);refine CP Aj (j9 rb v2 r2) ID (λ_ d _=>(hf2).more d) (λcP HP hP=>?_) (λvR HR hR=>?_);obtain⟨vP,rfl,rfl,hpP⟩:=hP;refine ay (aQ (ay (WK [0] (aT ?_))));exact⟨_,rfl,rfl,by simp[cL,eA,fj,ax hp1,ax hp2,cf hpP,h10,h25,h29,h39,h53, *]⟩
 obtain⟨a3,r3,v3,rfl,rfl,hp3,ht3⟩:=hR;have hf3:=ht3 _ hf2;refine FA 178 bi cJ ?_;refine SP 1 cJ aq aH Qb ?_;refine nx J21 (ac (PS ?_));refine CP Kc (pz rb v3 r3) ID (λ_ d _=>(hf3).more d) (λcP HP hP=>?_) (λvR HR hR=>?_);obtain⟨vP,rfl,rfl,hpP⟩:=hP;refine aQ (ay (WK [0] (aT ?_)));exact⟨_,rfl,rfl,by simp[cL,eA,fj,ax hp1,ax hp2,ax hp3,cf hpP,h10,h25,h29,h39,h53, *]⟩;obtain⟨a4,r4,v4,rfl,rfl,hp4,ht4⟩:=hR;have hf4:=ht4 _ hf3;refine FA 182 bi fF ?_;refine SP 1 fF aJ aH Qa ?_;refine au (af (ad J3 (sr λ_ J22=>LW 1 bi ct aH ?_)));refine SW 2 ct aH ?_;refine PS ?_;refine nx J22 (ah (RT 2 [0] bi ct (aH _) ?_));exact⟨((MsgT.mk a1 0 RowT.zero 0 a2 a3 BallotT.zero a4 ViewT.zero),true),_,_,rfl,rfl,by simp[cL,eA,fj,pr,ax hp1,ax hp2,ax hp3,ax hp4,h10,h25,h29,h39,h53,MsgT.zero,RecT.zero, *],(ht1.trans (ht2.trans (ht3.trans ht4)))⟩;refine PS ?_;refine nx J19 (CN (sr λ_ J23=>PS ?_));refine ap ?_ ?_<;>intro h64;refine PS ?_;refine nx J23 (CY (sr λ_ J24=>PS ?_));refine CP Kb (sw rb v1 r1) (SM [1]) (λ_ d _=>(hf1).more d) (λcP HP hP=>?_) (λvR HR hR=>?_);obtain⟨vP,rfl,rfl,hpP⟩:=hP;refine ay (aQ (ay (WK [0] (aT ?_))));exact⟨_,rfl,rfl,by simp[cL,eA,fj,ax hp1,cf hpP,h10,h25,h29,h39,h53,h64, *]⟩;obtain⟨a2,r2,v2,rfl,rfl,hp2,ht2⟩:=hR;have hf2:=ht2 _ hf1;refine FA 185 bi bj ?_;refine SP 1 bj an aH MsgT.wp_view ?_;refine nx J24 (aa λ_ J25=>D1 1 bl ?_)
 refine LY 0 bi ct aH ?_;refine FD 1 185 bi bj ?_;refine ta 2 rfl (aN (vs:=ints a2.flat) rfl eG rfl bj rfl (λ_ h=>h.2.1) (an a2) (wJ (MsgT.mk a1 0 RowT.zero 0 0 BallotT.zero BallotT.zero ChangeT.zero a2) 0 rfl (by decide) (whole (an a2)))) ?_;refine AL 3 ?_;refine CE Ka (nI a2 (td hp2)) ID ?_;refine EN (AL 4 ?_);refine SW 2 ct aH ?_;refine EN (PD 5 ?_);refine DN (ad J25 (ah (aI (ae (RT 2 [0] bi ct (aH _) ?_)))));exact⟨((MsgT.mk a1 0 RowT.zero 0 0 BallotT.zero BallotT.zero ChangeT.zero a2),(jF a2)),_,_,rfl,rfl,by simp[cL,eA,fj,pr,ax hp1,ax hp2,h10,h25,h29,h39,h53,h64,MsgT.zero,RecT.zero, *],(ht1.trans ht2)⟩;refine PS ?_;refine nx J23 (CN (sr λ_ J26=>PS ?_));refine ap ?_ ?_<;>intro h73;refine PS ?_;refine nx J26 (CY (sr λ_ J27=>PS ?_));refine CP jK (de rb v1 r1 (5)) (SM [1]) (λ_ d _=>(hf1).more d) (λcP HP hP=>?_) (λvR HR hR=>?_);obtain⟨vP,rfl,rfl,hpP⟩:=hP;refine ay (aQ (ay (WK [0] (aT ?_))));exact⟨_,rfl,rfl,by simp[cL,eA,fj,ax hp1,cf hpP,h10,h25,h29,h39,h53,h64,h73, *]⟩;obtain⟨a2,r2,v2,rfl,rfl,hp2,ht2⟩:=hR;have hf2:=ht2 _ hf1;refine FA 1 bi aO ?_;refine SS 1 aO (aH _) (MsgT.set_whose _ rfl _) ?_;refine nx J27 (sr λ_ J28=>PS ?_);refine CP Kb (sw rb v2 r2) ID (λ_ d _=>(hf2).more d) (λcP HP hP=>?_) (λvR HR hR=>?_);obtain⟨vP,rfl,rfl,hpP⟩:=hP;refine ay (aQ (ay (WK [0] (aT ?_))))
 exact⟨_,rfl,rfl,by simp[cL,eA,fj,ax hp1,ax hp2,cf hpP,h10,h25,h29,h39,h53,h64,h73, *]⟩;obtain⟨a3,r3,v3,rfl,rfl,hp3,ht3⟩:=hR;have hf3:=ht3 _ hf2;refine FA 185 bi bj ?_;refine SP 1 bj an aH MsgT.wp_view ?_;refine nx J28 (aa λ_ J29=>D1 1 bl ?_);refine LY 0 bi ct aH ?_;refine FD 1 185 bi bj ?_;refine ta 2 rfl (aN (vs:=ints a3.flat) rfl eG rfl bj rfl (λ_ h=>h.2.1) (an a3) (wJ (MsgT.mk a1 a2 RowT.zero 0 0 BallotT.zero BallotT.zero ChangeT.zero a3) 0 rfl (by decide) (whole (an a3)))) ?_;refine AL 3 ?_;refine CE Ka (nI a3 (td hp3)) ID ?_;refine EN (AL 4 ?_);refine SW 2 ct aH ?_;refine EN (PD 5 ?_);refine DN (ad J29 (ah (aI (ae (RT 2 [0] bi ct (aH _) ?_)))));exact⟨((MsgT.mk a1 a2 RowT.zero 0 0 BallotT.zero BallotT.zero ChangeT.zero a3),(jF a3)),_,_,rfl,rfl,by simp[cL,eA,fj,pr,ax hp1,ax hp2,ax hp3,h10,h25,h29,h39,h53,h64,h73,MsgT.zero,RecT.zero, *],(ht1.trans (ht2.trans ht3))⟩;refine PS ?_;refine nx J26 (CN (aR (af (ad J3 (sr λ_ J30=>LW 0 bi ct aH ?_)))));refine SW 2 ct aH ?_;refine PS ?_;refine nx J30 (ah (RT 2 [1] bi ct (aH _) ?_));exact⟨((MsgT.mk a1 0 RowT.zero 0 0 BallotT.zero BallotT.zero ChangeT.zero ViewT.zero),true),_,_,rfl,rfl,by simp[cL,pr,ax hp1,h10,h25,h29,h39,h53,h64,h73,MsgT.zero,RecT.zero, *],ht1⟩;refine sr λ_ J31=>P2 ?_
 refine ap ?_ ?_<;>intro h29;refine nx J31 (CY (aR ?_))
 exact aE
  (aX (aX (aX (aX (aX (bM rfl (by simp[fj, *]) SB))))))
  (λ_ s=>s)
  (tl11 (():Unit) trivial)
 refine nx J31 (CN (ac (PS ?_)));refine ap ?_ ?_<;>intro h31;refine PS ?_;refine au ?_
 exact aE
  (aX (aX (aX (aX (aX (bM rfl (by simp[fj, *]) SB))))))
  (λ_ s=>s)
  (tl11 (():Unit) trivial)
 refine PS ?_;refine au ?_
 exact aE
  (aX (aX (aX (aX (aX (bM rfl (by simp[fj, *]) SB))))))
  (λ_ s=>s)
  (tl11 (():Unit) trivial)
 refine sr λ_ J32=>P2 ?_
 refine ap ?_ ?_<;>intro h10;refine nx J32 (CY (aR ?_))
 exact aE
  (aX (aX (aX (aX (aX (bM rfl (by simp[eA, *]) SB))))))
  (λ_ s=>s)
  (tl5 (():Unit) trivial)
 refine nx J32 (CN (sr λ_ J33=>P2 ?_));refine ap ?_ ?_<;>intro h10;refine nx J33 (CY (aR ?_))
 exact aE
  (aX (aX (aX (aX (aX (bM rfl (by simp[eA, *]) SB))))))
  (λ_ s=>s)
  (tl5 (():Unit) trivial)
 refine nx J33 (CN (ac (PS ?_)));refine ap ?_ ?_<;>intro h13;refine PS ?_;refine au ?_
 exact aE
  (aX (aX (aX (aX (aX (bM rfl (by simp[eA, *]) SB))))))
  (λ_ s=>s)
  (tl5 (():Unit) trivial)
 refine PS ?_;refine au ?_
 exact aE
  (aX (aX (aX (aX (aX (bM rfl (by simp[eA, *]) SB))))))
  (λ_ s=>s)
  (tl5 (():Unit) trivial)
theorem Bq(rb:Nat)(v:Value)(bs:List UInt8):
 DT 90 #[(.pointer (some ⟨rb,0,none⟩))] (IsB v bs) [aj rb [v] 216] (oP 216 jb (λmb:RecT×Bool=> .tuple #[.agg (ints mb.1.flat).toArray, .bool mb.2]) dK v bs rb):=by
 refine BD 65 Tryz.func90 rfl rfl rfl λw0 F hF=>sr λ_ J1=>XZ I8 (ints RecT.zero.flat) λb2=>?_
 refine PS ?_;refine nx J1 (sr λ_ J2=>PS ?_);refine CP jK (de rb v bs (6)) (SM [1]) (λ_ d _=>(hF).more d) (λcP HP hP=>?_) (λvR HR hR=>?_);obtain⟨vP,rfl,rfl,hpP⟩:=hP;refine ay (WK [0] (aT ?_));exact⟨_,rfl,rfl,by simp[dK,eA,fj,cf hpP, *]⟩;obtain⟨a1,r1,v1,rfl,rfl,hp1,ht1⟩:=hR;have hf1:=ht1 _ hF;refine tp (ku RecT.zero (RecT.mk a1 0 RowT.zero 0 BallotT.zero ChangeT.zero ViewT.zero) [(0,[Value.int .i64 a1])] eH fB (g:=RecT.sg)) ?_;refine XZ I8 (ints RecT.zero.flat) λb4=>?_
 refine SW 0 gq bz ?_;refine nx J2 (aa λ_ J3=>sr λ_ J4=>FA 0 eH aO ?_);refine LT 0 Y3 (.int .i64 (a1)) ?_ (hc:=by exact lv _ rfl);refine nx J4 (am (sr λ_ J5=>PS ?_));refine ap ?_ ?_<;>intro h11;refine PS ?_;refine nx J5 (CY (sr λ_ J6=>PS ?_));refine CP Ke (uS rb v1 r1) (SM [1]) (λ_ d _=>(hf1).more d) (λcP HP hP=>?_) (λvR HR hR=>?_);obtain⟨vP,rfl,rfl,hpP⟩:=hP;refine ay (aQ (ay (WK [0] (aT ?_))));exact⟨_,rfl,rfl,by simp[dK,eA,fj,ax hp1,cf hpP,h11, *]⟩;obtain⟨a2,r2,v2,rfl,rfl,hp2,ht2⟩:=hR;have hf2:=ht2 _ hf1;refine FA 2 eH bf ?_;refine SP 1 bf ai bz RecT.wp_row ?_;refine nx J6 (aa λ_ J7=>D1 1 bl ?_);refine LY 0 eH gq bz ?_;refine FD 1 2 eH bf ?_;refine ta 2 rfl (aN (vs:=ints a2.flat) rfl el rfl bf rfl (λ_ h=>h.2.1) (ai a2) (sU (RecT.mk a1 0 a2 0 BallotT.zero ChangeT.zero ViewT.zero) 0 rfl (by decide) (whole (ai a2)))) ?_;refine AL 3 ?_;refine CE JU (kC a2 (Bl hp2)) ID ?_;refine EN (AL 4 ?_);refine SW 2 gq bz ?_;refine EN (PD 5 ?_);refine DN (ad J7 (ah (aI (ae (RT 2 [0] eH gq (bz _) ?_)))));exact⟨((RecT.mk a1 0 a2 0 BallotT.zero ChangeT.zero ViewT.zero),(gh a2)),_,_,rfl,rfl,by simp[dK,eA,fj,pr,ax hp1,ax hp2,h11,MsgT.zero,RecT.zero, *],(ht1.trans ht2)⟩;refine PS ?_;refine nx J5 (CN (sr λ_ J8=>PS ?_));refine ap ?_ ?_<;>intro h20;refine PS ?_;refine nx J8 (CY (sr λ_ J9=>PS ?_))
 refine CP jK (de rb v1 r1 (5)) (SM [1]) (λ_ d _=>(hf1).more d) (λcP HP hP=>?_) (λvR HR hR=>?_);obtain⟨vP,rfl,rfl,hpP⟩:=hP;refine ay (aQ (ay (WK [0] (aT ?_))));exact⟨_,rfl,rfl,by simp[dK,eA,fj,ax hp1,cf hpP,h11,h20, *]⟩;obtain⟨a2,r2,v2,rfl,rfl,hp2,ht2⟩:=hR;have hf2:=ht2 _ hf1;refine FA 1 eH aO ?_;refine SS 1 aO (bz _) (RecT.set_whose _ rfl _) ?_;refine nx J9 (sr λ_ J10=>PS ?_);refine CP Ke (uS rb v2 r2) ID (λ_ d _=>(hf2).more d) (λcP HP hP=>?_) (λvR HR hR=>?_);obtain⟨vP,rfl,rfl,hpP⟩:=hP;refine ay (aQ (ay (WK [0] (aT ?_))));exact⟨_,rfl,rfl,by simp[dK,eA,fj,ax hp1,ax hp2,cf hpP,h11,h20, *]⟩;obtain⟨a3,r3,v3,rfl,rfl,hp3,ht3⟩:=hR;have hf3:=ht3 _ hf2;refine FA 2 eH bf ?_;refine SP 1 bf ai bz RecT.wp_row ?_;refine nx J10 (aa λ_ J11=>D1 1 bl ?_);refine LY 0 eH gq bz ?_;refine FD 1 2 eH bf ?_;refine ta 2 rfl (aN (vs:=ints a3.flat) rfl el rfl bf rfl (λ_ h=>h.2.1) (ai a3) (sU (RecT.mk a1 a2 a3 0 BallotT.zero ChangeT.zero ViewT.zero) 0 rfl (by decide) (whole (ai a3)))) ?_;refine AL 3 ?_;refine CE JU (kC a3 (Bl hp3)) ID ?_;refine EN (AL 4 ?_);refine SW 2 gq bz ?_;refine EN (PD 5 ?_);refine DN (ad J11 (ah (aI (ae (RT 2 [0] eH gq (bz _) ?_)))));exact⟨((RecT.mk a1 a2 a3 0 BallotT.zero ChangeT.zero ViewT.zero),(gh a3)),_,_,rfl,rfl,by simp[dK,eA,fj,pr,ax hp1,ax hp2,ax hp3,h11,h20,MsgT.zero,RecT.zero, *],(ht1.trans (ht2.trans ht3))⟩;refine PS ?_
 refine nx J8 (CN (sr λ_ J12=>PS ?_));refine ap ?_ ?_<;>intro h32;refine PS ?_;refine nx J12 (CY (ac (PS ?_)));refine CP jK (de rb v1 r1 (5)) (SM [1]) (λ_ d _=>(hf1).more d) (λcP HP hP=>?_) (λvR HR hR=>?_);obtain⟨vP,rfl,rfl,hpP⟩:=hP;refine aQ (ay (WK [0] (aT ?_)));exact⟨_,rfl,rfl,by simp[dK,eA,fj,ax hp1,cf hpP,h11,h20,h32, *]⟩;obtain⟨a2,r2,v2,rfl,rfl,hp2,ht2⟩:=hR;have hf2:=ht2 _ hf1;refine FA 1 eH aO ?_;refine SS 1 aO (bz _) (RecT.set_whose _ rfl _) ?_;refine au (af (ad J3 (sr λ_ J13=>LW 1 eH gq bz ?_)));refine SW 2 gq bz ?_;refine PS ?_;refine nx J13 (ah (RT 2 [0] eH gq (bz _) ?_));exact⟨((RecT.mk a1 a2 RowT.zero 0 BallotT.zero ChangeT.zero ViewT.zero),true),_,_,rfl,rfl,by simp[dK,eA,fj,pr,ax hp1,ax hp2,h11,h20,h32,MsgT.zero,RecT.zero, *],(ht1.trans ht2)⟩;refine PS ?_;refine nx J12 (CN (sr λ_ J14=>PS ?_));refine ap ?_ ?_<;>intro h37;refine PS ?_;refine nx J14 (CY (sr λ_ J15=>PS ?_));refine CP qL (jJ rb v1 r1) (SM [1]) (λ_ d _=>(hf1).more d) (λcP HP hP=>?_) (λvR HR hR=>?_);obtain⟨vP,rfl,rfl,hpP⟩:=hP;refine ay (aQ (ay (WK [0] (aT ?_))));exact⟨_,rfl,rfl,by simp[dK,eA,fj,ax hp1,cf hpP,h11,h20,h32,h37, *]⟩;obtain⟨a2,r2,v2,rfl,rfl,hp2,ht2⟩:=hR;have hf2:=ht2 _ hf1;refine FA 176 eH aO ?_;refine SS 1 aO (bz _) (RecT.set_epoch _ rfl _) ?_;refine nx J15 (ac (PS ?_))
 refine CP Aj (j9 rb v2 r2) ID (λ_ d _=>(hf2).more d) (λcP HP hP=>?_) (λvR HR hR=>?_);obtain⟨vP,rfl,rfl,hpP⟩:=hP;refine aQ (ay (WK [0] (aT ?_)));exact⟨_,rfl,rfl,by simp[dK,eA,fj,ax hp1,ax hp2,cf hpP,h11,h20,h32,h37, *]⟩;obtain⟨a3,r3,v3,rfl,rfl,hp3,ht3⟩:=hR;have hf3:=ht3 _ hf2;refine FA 177 eH cJ ?_;refine SP 1 cJ aq bz RecT.wp_ballot ?_;refine au (af (ad J3 (sr λ_ J16=>LW 1 eH gq bz ?_)));refine SW 2 gq bz ?_;refine PS ?_;refine nx J16 (ah (RT 2 [0] eH gq (bz _) ?_));exact⟨((RecT.mk a1 0 RowT.zero a2 a3 ChangeT.zero ViewT.zero),true),_,_,rfl,rfl,by simp[dK,eA,fj,pr,ax hp1,ax hp2,ax hp3,h11,h20,h32,h37,MsgT.zero,RecT.zero, *],(ht1.trans (ht2.trans ht3))⟩;refine PS ?_;refine nx J14 (CN (sr λ_ J17=>PS ?_));refine ap ?_ ?_<;>intro h45;refine PS ?_;refine nx J17 (CY (sr λ_ J18=>PS ?_));refine CP qL (jJ rb v1 r1) (SM [1]) (λ_ d _=>(hf1).more d) (λcP HP hP=>?_) (λvR HR hR=>?_);obtain⟨vP,rfl,rfl,hpP⟩:=hP;refine ay (aQ (ay (WK [0] (aT ?_))));exact⟨_,rfl,rfl,by simp[dK,eA,fj,ax hp1,cf hpP,h11,h20,h32,h37,h45, *]⟩;obtain⟨a2,r2,v2,rfl,rfl,hp2,ht2⟩:=hR;have hf2:=ht2 _ hf1;refine FA 176 eH aO ?_;refine SS 1 aO (bz _) (RecT.set_epoch _ rfl _) ?_;refine nx J18 (sr λ_ J19=>PS ?_);refine CP Aj (j9 rb v2 r2) ID (λ_ d _=>(hf2).more d) (λcP HP hP=>?_) (λvR HR hR=>?_);obtain⟨vP,rfl,rfl,hpP⟩:=hP;refine ay (aQ (ay (WK [0] (aT ?_))))
 exact⟨_,rfl,rfl,by simp[dK,eA,fj,ax hp1,ax hp2,cf hpP,h11,h20,h32,h37,h45, *]⟩;obtain⟨a3,r3,v3,rfl,rfl,hp3,ht3⟩:=hR;have hf3:=ht3 _ hf2;refine FA 177 eH cJ ?_;refine SP 1 cJ aq bz RecT.wp_ballot ?_;refine nx J19 (ac (PS ?_));refine CP Kc (pz rb v3 r3) ID (λ_ d _=>(hf3).more d) (λcP HP hP=>?_) (λvR HR hR=>?_);obtain⟨vP,rfl,rfl,hpP⟩:=hP;refine aQ (ay (WK [0] (aT ?_)));exact⟨_,rfl,rfl,by simp[dK,eA,fj,ax hp1,ax hp2,ax hp3,cf hpP,h11,h20,h32,h37,h45, *]⟩;obtain⟨a4,r4,v4,rfl,rfl,hp4,ht4⟩:=hR;have hf4:=ht4 _ hf3;refine FA 179 eH fF ?_;refine SP 1 fF aJ bz RecT.wp_change ?_;refine au (af (ad J3 (sr λ_ J20=>LW 1 eH gq bz ?_)));refine SW 2 gq bz ?_;refine PS ?_;refine nx J20 (ah (RT 2 [0] eH gq (bz _) ?_));exact⟨((RecT.mk a1 0 RowT.zero a2 a3 a4 ViewT.zero),true),_,_,rfl,rfl,by simp[dK,eA,fj,pr,ax hp1,ax hp2,ax hp3,ax hp4,h11,h20,h32,h37,h45,MsgT.zero,RecT.zero, *],(ht1.trans (ht2.trans (ht3.trans ht4)))⟩;refine PS ?_;refine nx J17 (CN (sr λ_ J21=>PS ?_));refine ap ?_ ?_<;>intro h56;refine PS ?_;refine nx J21 (CY (sr λ_ J22=>PS ?_));refine CP Kb (sw rb v1 r1) (SM [1]) (λ_ d _=>(hf1).more d) (λcP HP hP=>?_) (λvR HR hR=>?_);obtain⟨vP,rfl,rfl,hpP⟩:=hP;refine ay (aQ (ay (WK [0] (aT ?_))));exact⟨_,rfl,rfl,by simp[dK,eA,fj,ax hp1,cf hpP,h11,h20,h32,h37,h45,h56, *]⟩;obtain⟨a2,r2,v2,rfl,rfl,hp2,ht2⟩:=hR;have hf2:=ht2 _ hf1
 refine FA 182 eH bj ?_;refine SP 1 bj an bz RecT.wp_view ?_;refine nx J22 (aa λ_ J23=>D1 1 bl ?_);refine LY 0 eH gq bz ?_;refine FD 1 182 eH bj ?_;refine ta 2 rfl (aN (vs:=ints a2.flat) rfl eG rfl bj rfl (λ_ h=>h.2.1) (an a2) (Rt (RecT.mk a1 0 RowT.zero 0 BallotT.zero ChangeT.zero a2) 0 rfl (by decide) (whole (an a2)))) ?_;refine AL 3 ?_;refine CE Ka (nI a2 (td hp2)) ID ?_;refine EN (AL 4 ?_);refine SW 2 gq bz ?_;refine EN (PD 5 ?_);refine DN (ad J23 (ah (aI (ae (RT 2 [0] eH gq (bz _) ?_)))));exact⟨((RecT.mk a1 0 RowT.zero 0 BallotT.zero ChangeT.zero a2),(jF a2)),_,_,rfl,rfl,by simp[dK,eA,fj,pr,ax hp1,ax hp2,h11,h20,h32,h37,h45,h56,MsgT.zero,RecT.zero, *],(ht1.trans ht2)⟩;refine PS ?_;refine nx J21 (CN (aR (af (ad J3 (sr λ_ J24=>LW 0 eH gq bz ?_)))));refine SW 2 gq bz ?_;refine PS ?_;refine nx J24 (ah (RT 2 [1] eH gq (bz _) ?_));exact⟨((RecT.mk a1 0 RowT.zero 0 BallotT.zero ChangeT.zero ViewT.zero),true),_,_,rfl,rfl,by simp[dK,eA,fj,pr,ax hp1,h11,h20,h32,h37,h45,h56,MsgT.zero,RecT.zero, *],ht1⟩
theorem FO(rb mb gb:Nat)(v:Value)(bs:List UInt8)(m0:MsgT)(g0:Bool):
 DT 102 #[(.pointer (some ⟨rb,0,none⟩)),(.pointer (some ⟨mb,0,none⟩)),(.pointer (some ⟨gb,0,none⟩))] (IsB v bs) [aj rb [v] 216,aj mb (ints m0.flat) 134,aj gb [(.bool (g0))] 4] (wG (λ_ H=>∃x' r a,H=aj rb [x'] 216::[aj mb (ints a.1.flat) 134,aj gb [.bool a.2] 4]∧Tail v bs x' r∧cL bs=some (a,r)) (λc H=>c=jb∧∃(x':Value) (_:Unit),H=aj rb [x'] 216::[aj mb (ints m0.flat) 134,aj gb [.bool g0] 4]∧cL bs=none)):=by
 refine BD 9 Tryz.func102 rfl rfl rfl λw0 F hF=>ac (PS ?_)
 refine CP PL (Br rb v bs) ID (λ_ d _=>(hF).more d) (λcP HP hP=>?_) (λvR HR hR=>?_);obtain⟨vP,rfl,rfl,hpP⟩:=hP;exact WK [0,0,0] (aT ⟨rfl,_,(),rfl,hpP⟩);obtain⟨a1,r1,v1,rfl,rfl,hp1,ht1⟩:=hR;refine P3 ?_;refine SW 1 ct aH ?_;refine S0 2 lT ?_;exact au (WK [0,0,0] (bC rfl ⟨_,_,_,rfl,ht1,hp1⟩))
theorem Eo(x:Value)(bs:List UInt8):
 DT 59 #[x] (IsB x bs) [] (RI (.tuple #[.agg (ints (jx bs).1.flat).toArray, .int .i64 (jx bs).2]) []):=by
 refine Leg.Does.body (vs:=[x]) (n:=18) Tryz.func59 rfl rfl rfl (λw0 F hF=>?_);refine sr λ_ J1=>?_
 refine q7 (ab rfl) rfl rfl rfl nf (λb2=>?_);change TL _ _ _ _ _ _ _ _ _ [aj b2 (ints MsgT.zero.flat) 134];refine qh ?_;refine nx J1 ?_;clear J1;refine sr λ_ J2=>?_
 refine q7 (ab rfl) rfl rfl rfl nf (λb4=>?_);change TL _ _ _ _ _ _ _ _ _ [aj b4 (ints MsgT.zero.flat) 134,aj b2 (ints MsgT.zero.flat) 134];refine nx J2 ?_;clear J2;refine sr λ_ J3=>?_
 refine q7 (ab rfl) rfl rfl rfl z4 (λb5=>?_);refine bK (i:=0) (ab rfl) rfl rfl rfl rfl rfl lT rfl rfl (lb rfl) rfl rfl ?_;refine nx J3 ?_;clear J3;refine sr λ_ J4=>?_
 refine mv ?_;refine tp (RG rfl rfl) ?_;refine lR (ab rfl) rfl rfl rfl O0 rfl (zY (bs:=bs) (C:=[aj b4 (ints MsgT.zero.flat) 134,aj b5 [(.bool false)] 4]) (caps:=[(.pointer (some ⟨b4,0,none⟩)),(.pointer (some ⟨b5,0,none⟩))]) (A:=λa:MsgT×Bool=>[aj b4 (ints a.1.flat) 134,aj b5 [.bool a.2] 4]) (G:=λ_:Unit=>[aj b4 (ints MsgT.zero.flat) 134,aj b5 [(.bool false)] 4]) (φ:=λa r=>cL bs=some (a,r)) (ψ:=λ_=>cL bs=none) (λ_ h=>h) (λ_ _ h d=>h.more d) PM (λrb=>FO rb b4 b5 x bs MsgT.zero false)) (λ_ s=>aD [1,0] rfl s) (λ_ d _=>(hF).more d) (λvR HR hR=>?_);rcases hR with⟨r,⟨m,g⟩,rfl,rfl,hs⟩| ⟨_,rfl,rfl,hs⟩
 refine ap (λh9=>?_) (λh9=>?_);refine qh ?_;refine nx J4 ?_;clear J4;refine aa λ_ J5=>?_
 refine sr λ_ J6=>?_
 refine mv ?_;refine tp (pg (r:=false) rfl rfl rfl) ?_;refine mv ?_;refine tq (fL (v:=(.bool (g))) rfl Y4 rfl rfl (fC 1 rfl rfl) rfl) ?_;refine bg (λh13=>?_) (λh13=>?_);refine tq (pg (r:=false) rfl rfl rfl) ?_;refine tp (zq rfl rfl rfl) ?_;refine nx J6 ?_;clear J6;refine Hb rfl ?_;refine aR ?_;refine ad J5 ?_;clear J5;refine sr λ_ J7=>?_
 refine tp (aN (vs:=ints m.flat) rfl bi rfl ct rfl (fC 0 rfl rfl) (aH m) (whole (aH m))) ?_;refine bW (vs:=ints m.flat) (i:=2) (ab rfl) rfl rfl rfl rfl rfl (by rw[(aH m)];exact ct) (bv _) rfl rfl (by have h0:=(aH MsgT.zero);have h1:=(aH m);omega) (cy ((aH MsgT.zero).trans (aH m).symm)) rfl ?_;refine qh ?_;refine nx J7 ?_;clear J7;refine ah ?_;refine mL (H':=[]) rfl rfl rfl bi rfl ct (fC 2 rfl rfl) (aH m) (λ_ s=>ak [] rfl s) ?_;exact⟨by simp[jx, *],rfl⟩;refine tq (pg (r:=true) rfl rfl rfl) ?_;refine tp (zq rfl rfl rfl) ?_;refine nx J6 ?_;clear J6;refine oj rfl ?_;refine sr λ_ J8=>?_
 refine tp (kM (cells:=(ints MsgT.zero.flat).toArray) rfl rfl (by as_aux_lemma=>kernel_rfl)) ?_;refine bW (vs:=ints MsgT.zero.flat) (i:=2) (ab rfl) rfl rfl rfl rfl rfl (by rw[(aH MsgT.zero)];exact ct) (bv _) rfl rfl (by have h0:=(aH MsgT.zero);have h1:=(aH MsgT.zero);omega) (cy ((aH MsgT.zero).trans (aH MsgT.zero).symm)) rfl ?_;refine qh ?_;refine nx J8 ?_;clear J8;refine ah ?_;refine ae ?_;clear J5;refine mL (H':=[]) rfl rfl rfl bi rfl ct (fC 2 rfl rfl) (aH MsgT.zero) (λ_ s=>ak [] rfl s) ?_;exact⟨by simp[jx, *],rfl⟩;refine qh ?_;refine nx J4 ?_;clear J4;refine aa λ_ J9=>?_
 refine sr λ_ J10=>?_
 refine mv ?_;refine tp (pg (r:=true) rfl rfl rfl) ?_;refine mv ?_;refine q6 (b:=true) rfl rfl rfl rfl (lb rfl) ?_;refine q6 (b:=true) rfl rfl rfl rfl (lb rfl) ?_;refine tp (zq rfl rfl rfl) ?_;refine nx J10 ?_;clear J10;refine oj rfl ?_;refine sr λ_ J11=>?_
 refine tp (kM (cells:=(ints MsgT.zero.flat).toArray) rfl rfl (by as_aux_lemma=>kernel_rfl)) ?_;refine bW (vs:=ints MsgT.zero.flat) (i:=2) (ab rfl) rfl rfl rfl rfl rfl (by rw[(aH MsgT.zero)];exact ct) (bv _) rfl rfl (by have h0:=(aH MsgT.zero);have h1:=(aH MsgT.zero);omega) (cy ((aH MsgT.zero).trans (aH MsgT.zero).symm)) rfl ?_;refine qh ?_;refine nx J11 ?_;clear J11;refine ah ?_;refine ae ?_;clear J9;refine mL (H':=[]) rfl rfl rfl bi rfl ct (fC 2 rfl rfl) (aH MsgT.zero) (λ_ s=>ak [] rfl s) ?_;exact⟨by simp[jx, *],rfl⟩;refine qh ?_;refine nx J4 ?_;clear J4;refine aa λ_ J12=>?_
 refine sr λ_ J13=>?_
 refine mv ?_;refine tp (pg (r:=true) rfl rfl rfl) ?_;refine mv ?_;refine q6 (b:=true) rfl rfl rfl rfl (lb rfl) ?_;refine q6 (b:=true) rfl rfl rfl rfl (lb rfl) ?_;refine tp (zq rfl rfl rfl) ?_;refine nx J13 ?_;clear J13;refine oj rfl ?_;refine sr λ_ J14=>?_
 refine tp (kM (cells:=(ints MsgT.zero.flat).toArray) rfl rfl (by as_aux_lemma=>kernel_rfl)) ?_;refine bW (vs:=ints MsgT.zero.flat) (i:=2) (ab rfl) rfl rfl rfl rfl rfl (by rw[(aH MsgT.zero)];exact ct) (bv _) rfl rfl (by have h0:=(aH MsgT.zero);have h1:=(aH MsgT.zero);omega) (cy ((aH MsgT.zero).trans (aH MsgT.zero).symm)) rfl ?_;refine qh ?_;refine nx J14 ?_;clear J14;refine ah ?_;refine ae ?_;clear J12;refine mL (H':=[]) rfl rfl rfl bi rfl ct (fC 2 rfl rfl) (aH MsgT.zero) (λ_ s=>ak [] rfl s) ?_;exact⟨by simp[jx, *],rfl⟩
theorem HU(rb mb gb:Nat)(v:Value)(bs:List UInt8)(m0:RecT)(g0:Bool):
 DT 89 #[(.pointer (some ⟨rb,0,none⟩)),(.pointer (some ⟨mb,0,none⟩)),(.pointer (some ⟨gb,0,none⟩))] (IsB v bs) [aj rb [v] 216,aj mb (ints m0.flat) 118,aj gb [(.bool (g0))] 4] (wG (λ_ H=>∃x' r a,H=aj rb [x'] 216::[aj mb (ints a.1.flat) 118,aj gb [.bool a.2] 4]∧Tail v bs x' r∧dK bs=some (a,r)) (λc H=>c=jb∧∃(x':Value) (_:Unit),H=aj rb [x'] 216::[aj mb (ints m0.flat) 118,aj gb [.bool g0] 4]∧dK bs=none)):=by
 refine BD 9 Tryz.func89 rfl rfl rfl λw0 F hF=>ac (PS ?_)
 refine CP QK (Bq rb v bs) ID (λ_ d _=>(hF).more d) (λcP HP hP=>?_) (λvR HR hR=>?_);obtain⟨vP,rfl,rfl,hpP⟩:=hP;exact WK [0,0,0] (aT ⟨rfl,_,(),rfl,hpP⟩);obtain⟨a1,r1,v1,rfl,rfl,hp1,ht1⟩:=hR;refine P3 ?_;refine SW 1 gq bz ?_;refine S0 2 lT ?_;exact au (WK [0,0,0] (bC rfl ⟨_,_,_,rfl,ht1,hp1⟩))
theorem wt(x:Value)(bs:List UInt8):
 DT 46 #[x] (IsB x bs) [] (RI (.tuple #[.agg (ints (pa bs).1.flat).toArray, .int .i64 (pa bs).2]) []):=by
 refine Leg.Does.body (vs:=[x]) (n:=18) Tryz.func46 rfl rfl rfl (λw0 F hF=>?_);refine sr λ_ J1=>?_
 refine q7 (ab rfl) rfl rfl rfl I8 (λb2=>?_);change TL _ _ _ _ _ _ _ _ _ [aj b2 (ints RecT.zero.flat) 118];refine qh ?_;refine nx J1 ?_;clear J1;refine sr λ_ J2=>?_
 refine q7 (ab rfl) rfl rfl rfl I8 (λb4=>?_);change TL _ _ _ _ _ _ _ _ _ [aj b4 (ints RecT.zero.flat) 118,aj b2 (ints RecT.zero.flat) 118];refine nx J2 ?_;clear J2;refine sr λ_ J3=>?_
 refine q7 (ab rfl) rfl rfl rfl z4 (λb5=>?_);refine bK (i:=0) (ab rfl) rfl rfl rfl rfl rfl lT rfl rfl (lb rfl) rfl rfl ?_;refine nx J3 ?_;clear J3;refine sr λ_ J4=>?_
 refine mv ?_;refine tp (RG rfl rfl) ?_;refine lR (ab rfl) rfl rfl rfl O0 rfl (zY (bs:=bs) (C:=[aj b4 (ints RecT.zero.flat) 118,aj b5 [(.bool false)] 4]) (caps:=[(.pointer (some ⟨b4,0,none⟩)),(.pointer (some ⟨b5,0,none⟩))]) (A:=λa:RecT×Bool=>[aj b4 (ints a.1.flat) 118,aj b5 [.bool a.2] 4]) (G:=λ_:Unit=>[aj b4 (ints RecT.zero.flat) 118,aj b5 [(.bool false)] 4]) (φ:=λa r=>dK bs=some (a,r)) (ψ:=λ_=>dK bs=none) (λ_ h=>h) (λ_ _ h d=>h.more d) QL (λrb=>HU rb b4 b5 x bs RecT.zero false)) (λ_ s=>aD [1,0] rfl s) (λ_ d _=>(hF).more d) (λvR HR hR=>?_);rcases hR with⟨r,⟨m,g⟩,rfl,rfl,hs⟩| ⟨_,rfl,rfl,hs⟩
 refine ap (λh9=>?_) (λh9=>?_);refine qh ?_;refine nx J4 ?_;clear J4;refine aa λ_ J5=>?_
 refine sr λ_ J6=>?_
 refine mv ?_;refine tp (pg (r:=false) rfl rfl rfl) ?_;refine mv ?_;refine tq (fL (v:=(.bool (g))) rfl Y4 rfl rfl (fC 1 rfl rfl) rfl) ?_;refine bg (λh13=>?_) (λh13=>?_);refine tq (pg (r:=false) rfl rfl rfl) ?_;refine tp (zq rfl rfl rfl) ?_;refine nx J6 ?_;clear J6;refine Hb rfl ?_;refine aR ?_;refine ad J5 ?_;clear J5;refine sr λ_ J7=>?_
 refine tp (aN (vs:=ints m.flat) rfl eH rfl gq rfl (fC 0 rfl rfl) (bz m) (whole (bz m))) ?_;refine bW (vs:=ints m.flat) (i:=2) (ab rfl) rfl rfl rfl rfl rfl (by rw[(bz m)];exact gq) (bv _) rfl rfl (by have h0:=(bz RecT.zero);have h1:=(bz m);omega) (cy ((bz RecT.zero).trans (bz m).symm)) rfl ?_;refine qh ?_;refine nx J7 ?_;clear J7;refine ah ?_;refine mL (H':=[]) rfl rfl rfl eH rfl gq (fC 2 rfl rfl) (bz m) (λ_ s=>ak [] rfl s) ?_;exact⟨by simp[pa, *],rfl⟩;refine tq (pg (r:=true) rfl rfl rfl) ?_;refine tp (zq rfl rfl rfl) ?_;refine nx J6 ?_;clear J6;refine oj rfl ?_;refine sr λ_ J8=>?_
 refine tp (kM (cells:=(ints RecT.zero.flat).toArray) rfl rfl (by as_aux_lemma=>kernel_rfl)) ?_;refine bW (vs:=ints RecT.zero.flat) (i:=2) (ab rfl) rfl rfl rfl rfl rfl (by rw[(bz RecT.zero)];exact gq) (bv _) rfl rfl (by have h0:=(bz RecT.zero);have h1:=(bz RecT.zero);omega) (cy ((bz RecT.zero).trans (bz RecT.zero).symm)) rfl ?_;refine qh ?_;refine nx J8 ?_;clear J8;refine ah ?_;refine ae ?_;clear J5;refine mL (H':=[]) rfl rfl rfl eH rfl gq (fC 2 rfl rfl) (bz RecT.zero) (λ_ s=>ak [] rfl s) ?_;exact⟨by simp[pa, *],rfl⟩;refine qh ?_;refine nx J4 ?_;clear J4;refine aa λ_ J9=>?_
 refine sr λ_ J10=>?_
 refine mv ?_;refine tp (pg (r:=true) rfl rfl rfl) ?_;refine mv ?_;refine q6 (b:=true) rfl rfl rfl rfl (lb rfl) ?_;refine q6 (b:=true) rfl rfl rfl rfl (lb rfl) ?_;refine tp (zq rfl rfl rfl) ?_;refine nx J10 ?_;clear J10;refine oj rfl ?_;refine sr λ_ J11=>?_
 refine tp (kM (cells:=(ints RecT.zero.flat).toArray) rfl rfl (by as_aux_lemma=>kernel_rfl)) ?_;refine bW (vs:=ints RecT.zero.flat) (i:=2) (ab rfl) rfl rfl rfl rfl rfl (by rw[(bz RecT.zero)];exact gq) (bv _) rfl rfl (by have h0:=(bz RecT.zero);have h1:=(bz RecT.zero);omega) (cy ((bz RecT.zero).trans (bz RecT.zero).symm)) rfl ?_;refine qh ?_;refine nx J11 ?_;clear J11;refine ah ?_;refine ae ?_;clear J9;refine mL (H':=[]) rfl rfl rfl eH rfl gq (fC 2 rfl rfl) (bz RecT.zero) (λ_ s=>ak [] rfl s) ?_;exact⟨by simp[pa, *],rfl⟩;refine qh ?_;refine nx J4 ?_;clear J4;refine aa λ_ J12=>?_
 refine sr λ_ J13=>?_
 refine mv ?_;refine tp (pg (r:=true) rfl rfl rfl) ?_;refine mv ?_;refine q6 (b:=true) rfl rfl rfl rfl (lb rfl) ?_;refine q6 (b:=true) rfl rfl rfl rfl (lb rfl) ?_;refine tp (zq rfl rfl rfl) ?_;refine nx J13 ?_;clear J13;refine oj rfl ?_;refine sr λ_ J14=>?_
 refine tp (kM (cells:=(ints RecT.zero.flat).toArray) rfl rfl (by as_aux_lemma=>kernel_rfl)) ?_;refine bW (vs:=ints RecT.zero.flat) (i:=2) (ab rfl) rfl rfl rfl rfl rfl (by rw[(bz RecT.zero)];exact gq) (bv _) rfl rfl (by have h0:=(bz RecT.zero);have h1:=(bz RecT.zero);omega) (cy ((bz RecT.zero).trans (bz RecT.zero).symm)) rfl ?_;refine qh ?_;refine nx J14 ?_;clear J14;refine ah ?_;refine ae ?_;clear J12;refine mL (H':=[]) rfl rfl rfl eH rfl gq (fC 2 rfl rfl) (bz RecT.zero) (λ_ s=>ak [] rfl s) ?_;exact⟨by simp[pa, *],rfl⟩
end Go.Proofs.YtkhjnolhhidecaaGreatDoor
end

section
namespace Leg
open Go Codec Api
def WX(P:Program)(ops:Array Oper)(Q:QQ)(is:List Nat)(a:Act)(w:World):Prop:=
 ∀(b:Frame) (k:List Item) (cs:List Frame),∃e a' w',Q e a' w'∧Arrives P (lone (b.at a (.inRegion ops is::k)) cs w) b k cs e a' w'
theorem WX.nil{P:Program}{ops:Array Oper}{Q:QQ}{a:Act}{w:World}(h:Q .normal a w):WX P ops Q [] a w:=
 λ_ _ _=>⟨.normal,a,w,h, .one step_region_end⟩
theorem WX.region{P:Program}{id:Nat}{ops:Array Oper}{Q:QQ}{a:Act}{w:World}(h:WX P ops Q (List.range ops.size) a w):(Code.region id ops false).wp P Q a w:=
 λb k cs=>let ⟨e,a',w',q,r⟩:=h b k cs;⟨e,a',w',q, .of_steps (.one step_region) r⟩
section
variable {P:Program} {ops:Array Oper} {Q:QQ} {is:List Nat} {a:Act} {w:World} {i:Nat} {o:Oper}
theorem G9(b:Frame)(k:List Item)(ho:ops[i]?=some o)(a:Act)(v:Value):(b.at a (.inRegion ops (i::is)::k)).finish v=b.at (a.put o.dst v) (.inRegion ops is::k):=by rw[Frame.finish_at,ho];rfl
theorem WX.value{v:Value}{w1:World}(ho:ops[i]?=some o)(hw:Region.wanted o (yielded ops a.tmps)=true)(hr:(execOp a.eval o).run P w= .ok (.value v) w1)(h:WX P ops Q is (a.put o.dst v) w1):WX P ops Q (i::is) a w:=λb k cs=>by
 obtain⟨e,a',w',q,r⟩:=h b k cs;refine⟨e,a',w',q, .of_steps (.one (step_lone_go ?_)) r⟩;rw[stepG_op ho hw,←G9 b k ho];simp[stepG.apply,hr]
theorem WX.comm{v:Value}{w1 w2:World}{cases:Array CommCase}{blocking:Bool}{shape:CommShape}(ho:ops[i]?=some o)(hw:Region.wanted o (yielded ops a.tmps)=true)(hr:(execOp a.eval o).run P w= .ok (.comm cases blocking shape) w1)
 (hs: ∀fr cs es,stepG P true (Conc.G fr cs) w= .comm (Conc.G fr cs) cases blocking shape w1 es→step P (Conc.solo (Conc.G fr cs) w)= .next (Conc.solo (Conc.G (fr.finish v) cs) w2)) (h:WX P ops Q is (a.put o.dst v) w2):WX P ops Q (i::is) a w:=λb k cs=>by
 obtain⟨e,a',w',q,r⟩:=h b k cs;have h1:=stepG_op (P:=P) (b:=b) (k:=k) (cs:=cs) (w:=w) (rest:=is) ho hw
 have h2: ∃es,stepG P true (Conc.G (b.at a (.inRegion ops (i::is)::k)) cs) w= .comm (Conc.G (b.at a (.inRegion ops (i::is)::k)) cs) cases blocking shape w1 es:=by
  unfold Conc.G;rw[h1];simp only[stepG.apply,Sem.runT_eq,hr];exact⟨_,rfl⟩
 obtain⟨es,h2⟩:=h2;have h3:=hs _ _ _ h2;rw[G9 b k ho]at h3;exact⟨e,a',w',q, .of_steps (.one h3) r⟩
abbrev Ow:= @WX.comm
end
end Leg
namespace Leg
open Go Codec Api
section
variable (P:Program) (w0:World) (F:Hl) (n:Nat)
def TX(ops:Array Oper)(Q:QQ)(is:List Nat)(D:List Deferred)(L:List (Nat×Value))(H:List HP):Prop:=∀a w,Fr n D L a→Same w0 w→Sat H F w→WX P ops Q is a w
end
section
variable {P:Program} {w0:World} {F:Hl} {n:Nat} {ops:Array Oper} {Q:QQ} {is:List Nat} {D:List Deferred} {L:List (Nat×Value)} {H:List HP} {i d:Nat} {o:Oper}
theorem TC.regionX{id:Nat}{l:List Oper}(h:TX P w0 F n l.toArray Q (List.range l.length) D L H):TC P w0 F n (.region id l.toArray false) Q D L H:=
 λa w f s m=>WX.region (by simpa using h a w f s m)
abbrev zl:= @TC.regionX
theorem TX.nil(h:TE w0 F n Q .normal D L H):TX P w0 F n ops Q [] D L H:=λa w f s m=>WX.nil (h a w f s m)
abbrev MP:= @TX.nil
theorem TX.v{v:Value}(ho:ops[i]?=some o)(hw:Want n D ops o L)(hd:o.dst=some d)(hn:Nat.blt d n=true)(h1:PV P n D L (Sat H F) o v)(h:TX P w0 F n ops Q is D ((d,v)::L) H):TX P w0 F n ops Q (i::is) D L H:=λa w f s m=>by
 refine WX.value ho (hw a f) (h1 a w f m) ?_;rw[hd];exact h _ _ (f.put (lb hn) _) s m
abbrev uz:= @TX.v
end
end Leg
namespace Leg
open Go Codec Api Go.Conc
section
variable {P:Program} {w0:World} {F:Hl} {n:Nat} {ops:Array Oper} {Q:QQ} {is:List Nat} {D:List Deferred} {L:List (Nat×Value)} {H:List HP} {i d:Nat} {o:Oper}
theorem Sat.chan{w:World}{c cap s r:Nat}{vs:List Value}(m:Sat H F w)(k:Nat)(hk:Nat.blt k H.length=true)(e:H.getD k (λ_=>True)=eF c cap vs s r):w.heap[c]?=some (.chan cap vs.toArray false s r false):=by
 obtain⟨h,d,e',x⟩:=m;obtain⟨h1,h2,d',rfl,a,_⟩:=eJ k (lb hk) x;rw[e]at a
 have:hp w c=some (.chan cap vs.toArray false s r false):=by
  rw[e',jN];exact g9 (by rw[show h1=sg c _ from a];simp[sg])
 exact this
theorem Sat.setChan{w:World}{c cap s r s' r':Nat}{vs vs':List Value}(m:Sat H F w)(k:Nat)(hk:Nat.blt k H.length=true)(e:H.getD k (λ_=>True)=eF c cap vs s r):Sat (H.set k (eF c cap vs' s' r')) F (w.setChan c cap vs'.toArray false s' r' false):=by
 have hc:=m.chan k hk e
 have hlt:c<w.heap.size:=by
  by_cases q:c<w.heap.size
  · exact q
  · rw[Array.getElem?_eq_none (by omega)]at hc;cases hc
 exact m.write k (lb hk) e (heap_setChan w c cap vs'.toArray false s' r' false hlt) (λj hj=>by simp[World.setChan,Array.getElem?_setIfInBounds,Ne.symm hj])
theorem Same.setChan{w w':World}(s:Same w w')(c cap:Nat)(b:Array Value)(cl:Bool)(x y:Nat)(t:Bool):Same w (w'.setChan c cap b cl x y t):=s.trans ⟨rfl,rfl,rfl,by simp[World.setChan]⟩
theorem tF{x:Operand}{so:Option Operand}{e:TypeId}{z:Value}{blocking:Bool}(ho:o.op= .select #[⟨x,so,e⟩] blocking)(hz:(P.info? e).map (·.zero)=some (some z))(ev:Operand→Value)(w:World):
 (execOp ev o).run P w= .ok (.comm #[{chan:=ev x,send:=so.map ev,zero:=z}] blocking .select) w:=by
 simp[execOp,ho,Sem.run_bind,oY hz]
theorem TX.sendRoom{x y:Operand}{e c cap s r:Nat}{z v:Value}{vs:List Value}(k:Nat)(ho:ops[i]?=some o)(hw:Want n D ops o L)(hop:o.op= .select #[⟨x,some y,e⟩] false)(hd:o.dst=some d)(hn:Nat.blt d n=true)(hz:(P.info? e).map (·.zero)=some (some z))
 (hx:cR L x=some (.chan (some c))) (hy:cR L y=some v) (hk:Nat.blt k H.length=true) (hH:H.getD k (λ_=>True)=eF c cap vs s r) (hroom:vs.length<cap)
 (h:TX P w0 F n ops Q is D ((d, .tuple #[.int .i64 0, .bool false])::L) (H.set k (eF c cap (vs++[v]) (s+1) r))):TX P w0 F n ops Q (i::is) D L H:=λa w f sm m=>by
 have hc:=m.chan k hk hH;have hr:=tF (P:=P) hop hz a.eval w;rw[f.eval hx]at hr;simp only[Option.map_some,f.eval hy]at hr;refine Ow (v:= .tuple #[.int .i64 0, .bool false]) (w2:=w.setChan c cap (vs++[v]).toArray false (s+1) r false) ho (hw a f) hr (λfr cs es hs=>?_) ?_
 · have:=step_lone_sel_send_room (k:=0) hs rfl (λj c' hj hjc=>by cases j with|zero=>exact absurd rfl hj|succ j=>simp at hjc) hc (by simpa using hroom)
   rw[this];simp[commResult,goInt]
 · rw[hd]
   exact h _ _ (f.put (lb hn) _) (sm.setChan ..) (m.setChan k hk hH)
theorem TX.sendFull{x y:Operand}{e c cap s r:Nat}{z v:Value}{vs:List Value}(k:Nat)(ho:ops[i]?=some o)(hw:Want n D ops o L)(hop:o.op= .select #[⟨x,some y,e⟩] false)(hd:o.dst=some d)(hn:Nat.blt d n=true)(hz:(P.info? e).map (·.zero)=some (some z))
 (hx:cR L x=some (.chan (some c))) (hy:cR L y=some v) (hk:Nat.blt k H.length=true) (hH:H.getD k (λ_=>True)=eF c cap vs s r) (hfull:cap≤vs.length)
 (h:TX P w0 F n ops Q is D ((d, .tuple #[.int .i64 (-1), .bool false])::L) H):TX P w0 F n ops Q (i::is) D L H:=λa w f sm m=>by
 have hc:=m.chan k hk hH;have hr:=tF (P:=P) hop hz a.eval w;rw[f.eval hx]at hr;simp only[Option.map_some,f.eval hy]at hr;refine Ow (v:= .tuple #[.int .i64 (-1), .bool false]) (w2:=w) ho (hw a f) hr (λfr cs es hs=>?_) ?_
 · have:=step_lone_sel_default hs (λcc hcc=>by
    obtain rfl:cc=scase c v z:=by simpa [scase]using hcc
    exact noWay_send hc (by simpa using hfull))
   rw[this];simp[commResult,goInt]
 · rw[hd]
   exact h _ _ (f.put (lb hn) _) sm m
theorem TX.recvBuf{x:Operand}{e c cap s r:Nat}{z v:Value}{vs:List Value}(k:Nat)(ho:ops[i]?=some o)(hw:Want n D ops o L)(hop:o.op= .select #[⟨x,none,e⟩] false)(hd:o.dst=some d)(hn:Nat.blt d n=true)(hz:(P.info? e).map (·.zero)=some (some z))
 (hx:cR L x=some (.chan (some c))) (hk:Nat.blt k H.length=true) (hH:H.getD k (λ_=>True)=eF c cap (v::vs) s r)
 (h:TX P w0 F n ops Q is D ((d, .tuple #[.int .i64 0, .bool true,v])::L) (H.set k (eF c cap vs s (r+1)))):TX P w0 F n ops Q (i::is) D L H:=λa w f sm m=>by
 have hc:=m.chan k hk hH;have hr:=tF (P:=P) hop hz a.eval w;rw[f.eval hx]at hr;simp only[Option.map_none]at hr;refine Ow (v:= .tuple #[.int .i64 0, .bool true,v]) (w2:=w.setChan c cap vs.toArray false s (r+1) false) ho (hw a f) hr (λfr cs es hs=>?_) ?_
 · have:=step_lone_sel_recv_buf (k:=0) hs rfl (λj c' hj hjc=>by cases j with|zero=>exact absurd rfl hj|succ j=>simp at hjc) hc (by simp)
   rw[this];simp[commResult,goInt]
 · rw[hd]
   exact h _ _ (f.put (lb hn) _) (sm.setChan ..) (m.setChan k hk hH)
theorem TX.recvNone{x:Operand}{e c cap s r:Nat}{z:Value}(k:Nat)(ho:ops[i]?=some o)(hw:Want n D ops o L)(hop:o.op= .select #[⟨x,none,e⟩] false)(hd:o.dst=some d)(hn:Nat.blt d n=true)(hz:(P.info? e).map (·.zero)=some (some z))
 (hx:cR L x=some (.chan (some c))) (hk:Nat.blt k H.length=true) (hH:H.getD k (λ_=>True)=eF c cap [] s r)
 (h:TX P w0 F n ops Q is D ((d, .tuple #[.int .i64 (-1), .bool false,z])::L) H):TX P w0 F n ops Q (i::is) D L H:=λa w f sm m=>by
 have hc:=m.chan k hk hH;have hr:=tF (P:=P) hop hz a.eval w;rw[f.eval hx]at hr;simp only[Option.map_none]at hr;refine Ow (v:= .tuple #[.int .i64 (-1), .bool false,z]) (w2:=w) ho (hw a f) hr (λfr cs es hs=>?_) ?_
 · have:=step_lone_sel_default hs (λcc hcc=>by
    obtain rfl:cc=rcase c z:=by simpa [rcase]using hcc
    exact noWay_recv hc)
   rw[this];simp[commResult,goInt]
 · rw[hd]
   exact h _ _ (f.put (lb hn) _) sm m
end
end Leg
namespace Leg
open Go Codec Api Go.Conc
section
variable {P:Program} {w0:World} {F:Hl} {n:Nat} {ops:Array Oper} {Q:QQ} {D:List Deferred} {L:List (Nat×Value)} {H:List HP} {d:Nat} {o:Oper}
theorem PV.lenChan{t e:TypeId}{dir:ChanDir}{x:Operand}{c cap s r:Nat}{vs:List Value}(k:Nat)(ho:o.op= .call {callee:= .builtin .len,args:=#[x],argTypes:=#[t]})(ht:P.underlying t=some (.chan dir e))(hx:cR L x=some (.chan (some c)))
 (hk:Nat.blt k H.length=true) (hH:H.getD k (λ_=>True)=eF c cap vs s r):PV P n D L (Sat H F) o (.int .i64 ((vs.length:Nat):Int)):=λa w f m=>by
 have hl:=Conc.run_len_chan (P:=P) (w:=w) (dir:=dir) (e:=e) t o.type ht (m.chan k hk hH);simp[execOp,ho,resolve,f.eval hx,invoke,builtin,hl,goInt]
theorem PV.capChan{t e:TypeId}{dir:ChanDir}{x:Operand}{c cap s r:Nat}{vs:List Value}(k:Nat)(ho:o.op= .call {callee:= .builtin .cap,args:=#[x],argTypes:=#[t]})(ht:P.underlying t=some (.chan dir e))(hx:cR L x=some (.chan (some c)))
 (hk:Nat.blt k H.length=true) (hH:H.getD k (λ_=>True)=eF c cap vs s r):PV P n D L (Sat H F) o (.int .i64 ((cap:Nat):Int)):=λa w f m=>by
 have hl:=Conc.run_cap_chan (P:=P) (w:=w) (dir:=dir) (e:=e) t o.type ht (m.chan k hk hH);simp[execOp,ho,resolve,f.eval hx,invoke,builtin,hl,goInt]
end
abbrev iw(T U b:Nat)(ls:List (List UInt8)):HP:=pack (λq:Nat×List Value×Nat×Nat=>[aj b [.chan (some q.1)] T,eF q.1 8 q.2.1 q.2.2.1 q.2.2.2,eV q.2.1 ls U])
def rX(T U:Nat)(bs:List Nat)(W:List (List (List UInt8)))(k:Nat):HP:=if k%6=0 then(λ_=>True)else iw T U (bs.getD k 0) (W.getD k [])
def qa(T U:Nat)(bs:List Nat)(W:List (List (List UInt8))):List HP:=(List.range 25).map (rX T U bs W)
def fb(T U:Nat)(bs:List Nat)(W:List (List (List UInt8))):HP:=bR (qa T U bs W)
def fY(T U:Nat)(bs:List Nat)(W:List (List (List UInt8)))(k:Nat):HP:=bR ((qa T U bs W).eraseIdx k)
def dS(bs:List Nat):List Value:=(List.range 25).map λk=>if k%6=0 then .pointer none else .pointer (some ⟨bs.getD k 0,0,none⟩)
theorem Dy(bs:List Nat){k:Nat}(h:k<25):(dS bs)[k]?=some (if k%6=0 then .pointer none else .pointer (some ⟨bs.getD k 0,0,none⟩)):=by unfold dS;simp[h]
theorem Ad(bs:List Nat):(dS bs).length=25:=by simp[dS]
abbrev eT(NT T U n:Nat)(W:List (List (List UInt8))):HP:=pack (λbs:List Nat=>[aj n (dS bs) NT,fb T U bs W])
section
variable {T U:Nat} {bs:List Nat} {W:List (List (List UInt8))} {k:Nat} {H:List HP} {h:Hl}
theorem Ez:(qa T U bs W).length=25:=by simp[qa]
theorem yA(hk:k<25)(s:bR (fb T U bs W::H) h):bR (rX T U bs W k::fY T U bs W k::H) h:=by
 have s1:bR (qa T U bs W++H) h:=(cj _ _).2 s;have e:(qa T U bs W).getD k (λ_=>True)=rX T U bs W k:=by simp[qa,List.getD_eq_getElem?_getD,hk]
 have p:=nS (λ_=>True) (qa T U bs W) k (by rw[Ez];exact hk);rw[e]at p;have s2:=eO (p.append_right H) s1;exact cQ s2 (λ_ a=>a) λ_ b=>(cj _ _).1 b
theorem wi{W':List (List (List UInt8))}(hk:k<25)(hW: ∀j,j≠k→W'.getD j []=W.getD j [])(s:bR (rX T U bs W' k::fY T U bs W k::H) h):bR (fb T U bs W'::H) h:=by
 have e0:(qa T U bs W').eraseIdx k=(qa T U bs W).eraseIdx k:=by
  refine List.ext_getElem? λj=>?_
  rw[List.getElem?_eraseIdx,List.getElem?_eraseIdx]
  have: ∀i,i≠k→(qa T U bs W')[i]?=(qa T U bs W)[i]?:=λi hi=>by
   simp only[qa,List.getElem?_map];cases q:(List.range 25)[i]?with
   |none=>rfl
   |some m=>
    have hm:m=i:=by
     by_cases hi25:i<25
     · simp[hi25]at q;exact q.symm
     · simp[hi25]at q
    subst hm;simp only[Option.map_some,rX,hW m hi]
  split
  · exact this j (by omega)
  · exact this (j+1) (by omega)
 have e:(qa T U bs W').getD k (λ_=>True)=rX T U bs W' k:=by simp[qa,List.getD_eq_getElem?_getD,hk]
 have p:=nS (λ_=>True) (qa T U bs W') k (by rw[Ez];exact hk);rw[e,e0]at p;have s2:bR ((rX T U bs W' k::(qa T U bs W).eraseIdx k)++H) h:=cQ s (λ_ a=>a) λ_ b=>(cj _ _).2 b
 exact(cj _ _).1 (eO (p.symm.append_right H) s2)
end
def bE(from' to':Int):Nat:=from'.toNat*5+to'.toNat
def hZ(w:Int):Bool:=decide (0≤w∧w<5)
theorem AX{f t:Int}(hf:hZ f=true)(ht:hZ t=true):bE f t<25:=by
 have h1:0≤f∧f<5:=of_decide_eq_true hf;have h2:0≤t∧t<5:=of_decide_eq_true ht;unfold bE;omega
theorem uI{f t:Int}(hf:hZ f=true)(ht:hZ t=true):bE f t%6=0↔f=t:=by
 have h1:0≤f∧f<5:=of_decide_eq_true hf;have h2:0≤t∧t<5:=of_decide_eq_true ht;unfold bE;omega
end Leg
end

section
namespace Wal
open Go Leg Codec Api Dsk
end Wal
namespace Leg
open Go Codec Api
end Leg
namespace Leg
open Go Codec Api
theorem rB{us:List Value}{ls:List (List UInt8)}{e:Nat}{H:List HP}{F:Hl}{w:World}(i:Nat)(hi:Nat.blt i H.length=true)(hH:H.getD i (λ_=>True)=eV us ls e)(m:Sat H F w):us.length=ls.length∧∀u∈us,u.oneCell'=true:=by
 obtain⟨h,d,e',x⟩:=m;obtain⟨h1,h2,d',rfl,a,_⟩:=eJ i (lb hi) x;rw[hH]at a;refine⟨a.1,λu hu=>?_⟩;obtain⟨j,hj,rfl⟩:=gP hu;obtain⟨u,e1,k1,k2,dk,rfl,a3⟩:=yz us ls e _ a.1 a.2 j (by rw[←a.1];exact hj);rw[List.getElem?_eq_getElem hj]at e1;injection e1 with e1
 rw[e1];exact(CH a3 (λb o q=>q):IsB u _ k1).one
section
variable {P:Program} {n:Nat} {D:List Deferred} {L:List (Nat×Value)} {S:World→Prop} {o:Oper}
end
end Leg
namespace Wal
open Go Leg Codec Api Dsk
end Wal
namespace Leg
open Go Codec Api
section
variable {P:Program} {n:Nat} {D:List Deferred} {L:List (Nat×Value)} {S:World→Prop} {o:Oper}
end
theorem IT{us:List Value}{ls:List (List UInt8)}{e:Nat}{u:Value}{l:List UInt8}{H:List HP}{h:Hl}(s:bR (eV (u::us) (l::ls) e::H) h):bR (ik u l e::eV us ls e::H) h:=by
 obtain⟨h1,h2,d,rfl,⟨hl,a⟩,b⟩:=s;obtain⟨g1,g2,d',rfl,a1,a2⟩:=a;exact nP.1 ⟨_,h2,d,rfl,⟨g1,g2,d',rfl,a1,⟨by simpa using hl,a2⟩⟩,b⟩
def Bx(ls:List (List UInt8))(bs:List UInt8):List (List UInt8):=if ls.length<8 then ls++[bs]else ls
def dA(f t:Int):Bool:=hZ f&&hZ t&& !decide (f=t)
def pF(W:List (List (List UInt8)))(f t:Int)(bs:List UInt8):List (List (List UInt8)):=if dA f t then W.set (bE f t) (Bx (W.getD (bE f t) []) bs)else W
theorem jh{f t:Int}(h:dA f t=true):bE f t<25∧¬bE f t%6=0:=by
 unfold dA at h;rw[ao,ao]at h;refine⟨AX h.1.1 h.1.2,λq=>?_⟩;have:=(uI h.1.1 h.1.2).1 q;rw[this]at h;simp at h
theorem rC{T U:Nat}{bs:List Nat}{W:List (List (List UInt8))}{k:Nat}(h: ¬k%6=0):rX T U bs W k=iw T U (bs.getD k 0) (W.getD k []):=by unfold rX;rw[if_neg h]
theorem oS{T U:Nat}{bs:List Nat}{W:List (List (List UInt8))}{f t:Int}(hv:dA f t=true){H:List HP}{h:Hl}(s:bR (fb T U bs W::H) h):bR (iw T U (bs.getD (bE f t) 0) (W.getD (bE f t) [])::fY T U bs W (bE f t)::H) h:=by
 obtain⟨h1,h2⟩:=jh hv;have:=yA h1 s
 rwa [rC h2]at this
theorem uH{T U:Nat}{bs:List Nat}{W:List (List (List UInt8))}{f t:Int}{ls:List (List UInt8)}(hv:dA f t=true)(hW:W.length=25){H:List HP}{h:Hl}(s:bR (iw T U (bs.getD (bE f t) 0) ls::fY T U bs W (bE f t)::H) h):bR (fb T U bs (W.set (bE f t) ls)::H) h:=by
 obtain⟨h1,h2⟩:=jh hv;refine wi (W:=W) h1 (λj hj=>?_) ?_
 · rw[List.getD_eq_getElem?_getD,List.getD_eq_getElem?_getD,List.getElem?_set_ne (λe=>hj e.symm)]
 · rw[rC h2,show(W.set (bE f t) ls).getD (bE f t) []=ls by rw[List.getD_eq_getElem?_getD,List.getElem?_set_self (by omega)];rfl]
   exact s
end Leg
namespace Leg
open Go Codec Api
def b8(w:Int):UInt8:=Wal.r8 w
theorem wS(w:Int):IntKind.u8.wrap w=(((b8 w).toNat:Nat):Int):=Wal.r8_wrap w
end Leg
end

section
namespace Go.Proofs.YtkhjnolhhidecaaGreatDoor
open Go Leg Codec Api Dsk Wal
theorem ut(b c s r:Nat)(us:List Value)(ls:List (List UInt8)):
 DT 55 #[(.pointer (some ⟨b,0,none⟩))] T0 [aj b [(.chan (some c))] 169,eF c 8 (us) (s) (r),eV (us) (ls) 5] (RI (.int .i64 ((ls.length:Nat):Int)) [aj b [(.chan (some c))] 169,eF c 8 (us) (s) (r),eV (us) (ls) 5]):=by
 refine BD 8 Tryz.func55 rfl rfl rfl λw0 F hF=>sr λ_ J1=>PS ?_
 refine nx J1 (sr λ_ J2=>zk (p:=us.length=ls.length) (λw m=>(rB 2 rfl rfl m).1) (λhul=>P2 ?_));refine FA 0 EE vB ?_;refine LA 0 wD ?_;refine tp (PV.lenChan 1 rfl wD rfl rfl rfl) ?_;refine PS ?_;refine nx J2 (ah (WK [0,0,0] (aw rfl rfl ?_)));exact⟨by rw[hul],rfl⟩
theorem jS(b:Nat)(ls:List (List UInt8)):DT 55 #[.pointer (some ⟨b,0,none⟩)] T0 [iw 169 5 b ls] (RI (.int .i64 ((ls.length:Nat):Int)) [iw 169 5 b ls]):=
 Leg.Does.pack (B:=[]) λq=>Leg.Does.fold (ut b q.1 q.2.2.1 q.2.2.2 q.2.1 ls) λe H hp=>by
  cases e with
  |returned v=>
   obtain⟨rfl,rfl⟩:=hp;exact⟨_,λ_ s=>bw (p:=λq:Nat×List Value×Nat×Nat=>[aj b [.chan (some q.1)] 169,eF q.1 8 q.2.1 q.2.2.1 q.2.2.2,eV q.2.1 ls 5]) (H:=[]) q s,rfl,rfl⟩
  |panicked c=>exact hp.elim
  |outgrown=>exact hp.elim
theorem B9(b c s r:Nat)(us:List Value)(ls:List (List UInt8))(x:Value)(bs:List UInt8)(hb:bs.length≤1000000):
 DT 99 #[(.pointer (some ⟨b,0,none⟩)),x] (IsW x bs) [aj b [(.chan (some c))] 169,eF c 8 (us) (s) (r),eV (us) (ls) 5] (dG (λv H=>(ls.length<8∧v= .bool true∧∃u,H=[aj b [(.chan (some c))] 169,eF c 8 (us++[u]) (s+1) r,eV us ls 5,cH u bs 5])∨(¬ls.length<8∧v= .bool false∧H=[aj b [(.chan (some c))] 169,eF c 8 (us) (s) (r),eV (us) (ls) 5]))):=by
 refine Leg.Does.body (vs:=[(.pointer (some ⟨b,0,none⟩)),x]) (n:=15) Tryz.func99 rfl rfl rfl (λw0 F hF=>?_);refine sr λ_ J1=>?_
 refine qh ?_;refine nx J1 ?_;refine aa λ_ J2=>?_
 refine sr λ_ J3=>?_
 refine zk (p:=us.length=ls.length) (λw m=>(rB 2 rfl rfl m).1) (λhul=>?_);refine mv ?_;refine tp (gU rfl rfl) ?_;refine tp (bc (r:=0) rfl EE rfl vB rfl rfl) ?_;refine tp (fL (v:=(.chan (some c))) rfl wD rfl rfl (fC 0 rfl rfl) rfl) ?_;refine nx J3 ?_;refine ac ?_;refine EJ (ab rfl) rfl rfl rfl fO kx (λv9=>?_);change TL _ _ _ _ _ _ _ _ _ [cH v9 ([]) 5,aj b [(.chan (some c))] 169,eF c 8 (us) (s) (r),eV (us) (ls) 5];refine mv ?_;refine bX (k:=0) (news:=dX (bs)) (nn':=(bs:List UInt8).length) (xs':=dX (bs)) (ab rfl) rfl rfl rfl fO uD rfl rfl rfl rfl rfl rfl (λ_ _=>hF.src (λ_ h=>fD h)) (ff _) (by simp only[maxLen,az];omega) (by simp only[az];omega) (by simp) (ba _) (λv11 ov11=>?_);change TL _ _ _ _ _ _ _ _ _ [cH v11 (bs) 5,aj b [(.chan (some c))] 169,eF c 8 (us) (s) (r),eV (us) (ls) 5];refine nx J2 ?_;refine aa λ_ J4=>?_
 refine zl ?_;change TX _ _ _ _ _ _ [0,1,2] _ _ _
 by_cases hroom:us.length<8
 refine TX.sendRoom 2 rfl (ab rfl) rfl rfl rfl Ou rfl rfl rfl rfl hroom ?_;change TX _ _ _ _ _ _ _ _ _ [cH v11 (bs) 5,aj b [(.chan (some c))] 169,eF c 8 (us++[v11]) (s+1) (r),eV (us) (ls) 5];refine uz rfl (ab rfl) rfl rfl (mN (vs:=[(.int .i64 0),(.bool false)]) rfl rfl rfl) ?_;refine uz rfl (ab rfl) rfl rfl (P9 rfl rfl rfl) ?_;refine MP ?_;refine ad J4 ?_;refine am ?_;refine oj rfl ?_;refine sr λ_ J5=>?_
 refine qh ?_;refine nx J5 ?_;refine ah ?_;refine aI ?_;refine aE (dN _) (λ_ s=>ak [1,1,1,0] rfl s) ?_;refine aw rfl rfl ?_;exact Or.inl ⟨by omega,rfl,_,rfl⟩;refine TX.sendFull 2 rfl (ab rfl) rfl rfl rfl Ou rfl rfl rfl rfl (by omega) ?_;refine uz rfl (ab rfl) rfl rfl (mN (vs:=[(.int .i64 (-1)),(.bool false)]) rfl rfl rfl) ?_;refine uz rfl (ab rfl) rfl rfl (P9 rfl rfl rfl) ?_;refine MP ?_;refine ad J4 ?_;refine am ?_;refine Hb rfl ?_;refine sr λ_ J6=>?_
 refine qh ?_;refine nx J6 ?_;refine ah ?_;refine aI ?_;refine aE (dN _) (λ_ s=>ak [1,1,1] rfl s) ?_;refine aw rfl rfl ?_;exact Or.inr ⟨by omega,rfl,rfl⟩
theorem wk(b:Nat)(ls:List (List UInt8))(x:Value)(bs:List UInt8)(hb:bs.length≤1000000):DT 99 #[.pointer (some ⟨b,0,none⟩),x] (IsW x bs) [iw 169 5 b ls] (RI (.bool (decide (ls.length<8))) [iw 169 5 b (Bx ls bs)]):=
 Leg.Does.pack (B:=[]) λq=>Leg.Does.fold (B9 b q.1 q.2.2.1 q.2.2.2 q.2.1 ls x bs hb) λe H hp=>by
  cases e with
  |returned v=>
   unfold Bx;rcases hp with⟨h8,rfl,u,rfl⟩| ⟨h8,rfl,rfl⟩
   · refine⟨[iw 169 5 b (ls++[bs])],λ_ s=>?_,by rw[decide_eq_true h8],by rw[if_pos h8]⟩
     have s1:=Bg 3 rfl rfl s;have s2:=aD [2,2] rfl s1;have s3:=vq s2;exact bw (p:=λq:Nat×List Value×Nat×Nat=>[aj b [.chan (some q.1)] 169,eF q.1 8 q.2.1 q.2.2.1 q.2.2.2,eV q.2.1 (ls++[bs]) 5]) (H:=[]) (q.1,q.2.1++[u],q.2.2.1+1,q.2.2.2) (aD [1,1,0] rfl s3)
   · exact⟨[iw 169 5 b ls],λ_ s=>bw (p:=λq:Nat×List Value×Nat×Nat=>[aj b [.chan (some q.1)] 169,eF q.1 8 q.2.1 q.2.2.1 q.2.2.2,eV q.2.1 ls 5]) (H:=[]) q s,by rw[decide_eq_false h8],by rw[if_neg h8]⟩
  |panicked c=>exact hp.elim
  |outgrown=>exact hp.elim
theorem zh(b c s r:Nat)(us:List Value)(ls:List (List UInt8)):
 DT 100 #[(.pointer (some ⟨b,0,none⟩))] T0 [aj b [(.chan (some c))] 169,eF c 8 (us) (s) (r),eV (us) (ls) 5] (dG (λv H=>(ls=[]∧v= .tuple #[.slice none 0 0, .bool false]∧H=[aj b [(.chan (some c))] 169,eF c 8 [] s r,eV [] ls 5])∨(∃u us' f ls',ls=f::ls'∧v= .tuple #[u, .bool true]∧H=[aj b [(.chan (some c))] 169,eF c 8 us' s (r+1),eV (u::us') (f::ls') 5]))):=by
 refine BD 14 Tryz.func100 rfl rfl rfl λw0 F hF=>sr λ_ J1=>P2 ?_
 refine nx J1 (sr λ_ J2=>zk (p:=us.length=ls.length) (λw m=>(rB 2 rfl rfl m).1) (λhul=>P2 ?_));refine FA 0 EE vB ?_;refine LA 0 wD ?_;refine nx J2 (aa λ_ J3=>zl ?_);rcases us with _| ⟨u,us⟩
 refine TX.recvNone 1 rfl (ab rfl) rfl rfl rfl Ou rfl rfl rfl (uz rfl (ab rfl) rfl rfl (mN (vs:=[(.int .i64 (-1)),(.bool false),(.slice none 0 0)]) rfl rfl rfl) (uz rfl (ab rfl) rfl rfl (P9 rfl rfl rfl) (MP (ad J3 (am (CN (sr λ_ J4=>P2 ?_)))))));exact nx J4 (ah (aI (WK [0,0,0] (iC rfl rfl rfl (Or.inl ⟨List.eq_nil_of_length_eq_zero hul.symm,rfl,rfl⟩)))));rcases ls with _| ⟨f,ls⟩
 · cases hul
 refine TX.recvBuf 1 rfl (ab rfl) rfl rfl rfl Ou rfl rfl rfl (uz rfl (ab rfl) rfl rfl (mN (vs:=[(.int .i64 0),(.bool true),u]) rfl rfl rfl) (uz rfl (ab rfl) rfl rfl (P9 rfl rfl rfl) (MP (ad J3 (am (CY (sr λ_ J5=>P2 ?_)))))));refine nx J5 (sr λ_ J6=>P3 ?_);exact nx J6 (ah (aI (WK [0,0,0] (iC rfl rfl rfl (Or.inr ⟨u,us,f,ls,rfl,rfl,rfl⟩)))))
theorem uq(b:Nat)(ls:List (List UInt8)):DT 100 #[.pointer (some ⟨b,0,none⟩)] T0 [iw 169 5 b ls] (dG (λv H=>(ls=[]∧v= .tuple #[.slice none 0 0, .bool false]∧H=[iw 169 5 b []])∨(∃u f ls',ls=f::ls'∧v= .tuple #[u, .bool true]∧H=[iw 169 5 b ls',ik u f 5]))):=
 Leg.Does.pack (B:=[]) λq=>Leg.Does.fold (zh b q.1 q.2.2.1 q.2.2.2 q.2.1 ls) λe H hp=>by
  cases e with
  |returned v=>
   rcases hp with⟨rfl,rfl,rfl⟩| ⟨u,us',f,ls',rfl,rfl,rfl⟩
   · exact⟨[iw 169 5 b []],λ_ s=>bw (p:=λq:Nat×List Value×Nat×Nat=>[aj b [.chan (some q.1)] 169,eF q.1 8 q.2.1 q.2.2.1 q.2.2.2,eV q.2.1 [] 5]) (H:=[]) (q.1,[],q.2.2.1,q.2.2.2) s,Or.inl ⟨rfl,rfl,rfl⟩⟩
   · refine⟨[iw 169 5 b ls',ik u f 5],λ_ s=>?_,Or.inr ⟨u,f,ls',rfl,rfl,rfl⟩⟩
     have s1:=aD [2] rfl s;have s2:=IT s1;exact bw (p:=λq:Nat×List Value×Nat×Nat=>[aj b [.chan (some q.1)] 169,eF q.1 8 q.2.1 q.2.2.1 q.2.2.2,eV q.2.1 ls' 5]) (H:=[ik u f 5]) (q.1,us',q.2.2.1,q.2.2.2+1) (aD [2,2,1,0] rfl s2)
  |panicked c=>exact hp.elim
  |outgrown=>exact hp.elim
theorem Ca:
 DT 42 #[(.int .i64 8)] T0 [] (dG (λv H=>∃b c,v= .pointer (some ⟨b,0,none⟩)∧H=[aj b [(.chan (some c))] 169,eF c 8 [] 0 0])):=by
 refine BD 9 Tryz.func42 rfl rfl rfl λw0 F hF=>sr λ_ J1=>PS ?_
 refine nx J1 (sr λ_ J2=>PS ?_);refine tp (nd (v':=(.int .i64 8)) (zr rfl rfl rfl) rfl) ?_;refine tp (nd (v':=(.int .i64 8)) (PV.minI rfl rfl rfl) rfl) ?_;refine TL.makeChan (k:=8) (bytes:=24) (ab rfl) rfl rfl rfl wD (by kernel_rfl) rfl (by omega) (by omega) (λc6=>BV #[(.chan (some c6))] ?_);refine XB λb8=>?_
 refine PS ?_;exact nx J2 (ah (WK [0,0] (aw rfl rfl ⟨b8,c6,rfl,rfl⟩)))
theorem Ey:DT 42 #[.int .i64 8] T0 [] (dG (λv H=>∃b,v= .pointer (some ⟨b,0,none⟩)∧H=[iw 169 5 b []])):=
 Leg.Does.fold Ca λe H hp=>by
  cases e with
  |returned v=>
   obtain⟨b,c,rfl,rfl⟩:=hp;exact⟨[iw 169 5 b []],λ_ s=>bw (p:=λq:Nat×List Value×Nat×Nat=>[aj b [.chan (some q.1)] 169,eF q.1 8 q.2.1 q.2.2.1 q.2.2.2,eV q.2.1 [] 5]) (H:=[]) (c,[],0,0) (aD [1,1,0] rfl (AP s)),b,rfl,rfl⟩
  |panicked c=>exact hp.elim
  |outgrown=>exact hp.elim
theorem pY(w:Int):
 DT 98 #[(.int .i64 (w))] T0 [] (RI (.bool (hZ w)) []):=by
 refine BD 9 Tryz.func98 rfl rfl rfl λw0 F hF=>sr λ_ J1=>PS ?_
 refine nx J1 (sr λ_ J2=>P2 ?_);refine ap ?_ ?_<;>intro h4
 iterate 5 refine PS ?_
 refine nx J2 (ah (WK [] (aw rfl rfl ?_)));exact⟨congrArg Value.bool (by unfold hZ;simp only[decide_eq_decide];omega),rfl⟩;refine PS ?_;refine UF ?_;refine UF ?_;refine P2 ?_;refine nx J2 (ah (WK [] (aw rfl rfl ?_)));exact⟨congrArg Value.bool (by unfold hZ;symm;exact decide_eq_false (by omega)),rfl⟩
theorem nH(n:Nat)(bs:List Nat)(from' to':Int):
 DT 54 #[(.pointer (some ⟨n,0,none⟩)),(.int .i64 (from')),(.int .i64 (to'))] T0 [aj n (dS bs) 106] (dG (λv H=>((dA from' to'=true∧v= .pointer (some ⟨(bs.getD (bE from' to') 0),0,none⟩))∨(dA from' to'=false∧v= .pointer none))∧H=[aj n (dS bs) 106])):=by
 refine BD 23 Tryz.func54 rfl rfl rfl λw0 F hF=>sr λ_ J1=>PS ?_
 refine nx J1 (aa λ_ J2=>sr λ_ J3=>PS ?_);refine CE OW (pY from') ID ?_;refine bg ?_ ?_<;>intro h8;have hf:0≤from'∧from'<5:=of_decide_eq_true h8
 refine PS ?_;refine P2 ?_;refine CE OW (pY to') ID ?_;refine bg ?_ ?_<;>intro h12;have ht:0≤to'∧to'<5:=of_decide_eq_true h12;refine PS ?_;refine PS ?_;refine nx J3 (CN (qx J2 (sr λ_ J4=>P4 ?_)));refine FA 0 Tryz.underlying106 Gv ?_;refine IX (((from').toNat)*5) MN CD ?_;refine IX (((from').toNat)*5+(to').toNat) Lb Gw ?_;refine LT 0 yG (if bE from' to'%6=0 then .pointer none else .pointer (some ⟨(bs.getD (bE from' to') 0),0,none⟩)) ?_ (hc:=by exact Dy bs (k:=bE from' to') (by unfold bE;omega));refine PS ?_;refine nx J4 (ah (WK [0] (aw rfl rfl ⟨?_,rfl⟩)))
 by_cases hd:from'=to'
 · rw[if_pos ((uI h8 h12).2 hd)]
   exact Or.inr ⟨by unfold dA;rw[decide_eq_true hd];simp,rfl⟩
 · rw[if_neg (λq=>hd ((uI h8 h12).1 q))]
   exact Or.inl ⟨by unfold dA;rw[h8,h12,decide_eq_false hd];rfl,rfl⟩
 refine PS ?_;refine PS ?_;refine nx J3 (CY (sr λ_ J5=>PS ?_));refine nx J5 (ah (ae (WK [0] (aw rfl rfl ?_))));exact⟨Or.inr ⟨by unfold dA;rw[h12];simp,rfl⟩,rfl⟩;refine PS ?_;refine PS ?_
 iterate 3 refine UT ?_
 refine PS ?_;refine nx J3 (CY (sr λ_ J6=>PS ?_));refine nx J6 (ah (ae (WK [0] (aw rfl rfl ?_))));exact⟨Or.inr ⟨by unfold dA;rw[h8];simp,rfl⟩,rfl⟩
def tS(W:List (List (List UInt8)))(f t:Int):Bool:=dA f t&&decide ((W.getD (bE f t) []).length<8)
theorem y5(n:Nat)(bs:List Nat)(W:List (List (List UInt8)))(from' to':Int)(x:Value)(by':List UInt8)(hb:by'.length≤1000000)(hW:W.length=25):
 DT 209 #[(.pointer (some ⟨n,0,none⟩)),(.int .i64 (from')),(.int .i64 (to')),x] (IsW x by') [aj n (dS bs) 106,fb 169 5 bs W] (RI (.bool (tS W from' to')) [aj n (dS bs) 106,fb 169 5 bs (pF W from' to' by')]):=by
 refine BD 21 Tryz.func209 rfl rfl rfl λw0 F hF=>sr λ_ J1=>PS ?_
 refine nx J1 (sr λ_ J2=>P3 ?_);refine CR FE (nH n bs from' to') ID λvR HR hR=>?_
 obtain⟨hw,rfl⟩:=hR;rcases hw with⟨hv,rfl⟩| ⟨hv,rfl⟩
 refine PS ?_;refine nx J2 (sr λ_ J3=>PS ?_);refine tp (gk rfl yG rfl rfl) ?_;refine P3 ?_;refine ci (H':=[iw 169 5 (bs.getD (bE from' to') 0) (W.getD (bE from' to') []),fY 169 5 bs W (bE from' to'),aj n (dS bs) 106]) (λ_ s=>oS hv (aD [1] rfl s)) (CF NJ (wk (bs.getD (bE from' to') 0) (W.getD (bE from' to') []) x by' hb) ID (λ_ d _=>Qe hF d) ?_);refine P2 ?_;refine nx J3 (ah (aE (H':=[aj n (dS bs) 106,fb 169 5 bs (pF W from' to' by')]) (dN _) (λ_ s=>by unfold pF;rw[if_pos hv];exact aD [1,0] rfl (uH hv hW (aD [0,0,0] rfl s))) (aw rfl rfl ?_)));exact⟨by unfold tS;rw[hv];rfl,rfl⟩;refine PS ?_;refine nx J2 (sr λ_ J4=>PS ?_);refine tp (jA rfl yG rfl rfl) ?_;refine PS ?_
 iterate 3 refine UF ?_
 refine P2 ?_;refine nx J4 (ah (WK [0,0] (aw rfl rfl ?_)));exact⟨by unfold tS;rw[hv];rfl,by unfold pF;rw[hv];rfl⟩
theorem BF(n:Nat)(W:List (List (List UInt8)))(from' to':Int)(x:Value)(by':List UInt8)(hb:by'.length≤1000000)(hW:W.length=25):DT 209 #[.pointer (some ⟨n,0,none⟩), .int .i64 from', .int .i64 to',x] (IsW x by') [eT 106 169 5 n W] (RI (.bool (tS W from' to')) [eT 106 169 5 n (pF W from' to' by')]):=
 Leg.Does.pack (B:=[]) λbs=>Leg.Does.fold (y5 n bs W from' to' x by' hb hW) λe H hp=>by
  cases e with
  |returned v=>
   obtain⟨rfl,rfl⟩:=hp;exact⟨_,λ_ s=>bw (p:=λbs:List Nat=>[aj n (dS bs) 106,fb 169 5 bs (pF W from' to' by')]) (H:=[]) bs s,rfl,rfl⟩
  |panicked c=>exact hp.elim
  |outgrown=>exact hp.elim
def jP(f t:Int)(bs:List UInt8):List UInt8:=qG ([b8 f,b8 t]++bs)
theorem FY(from' to':Int)(x:Value)(by':List UInt8)(hb:by'.length≤100000):
 DT 213 #[(.int .i64 (from')),(.int .i64 (to')),x] (IsW x by') [] (dG (λv H=>∃u,v=u∧H=[cH u (jP from' to' by') 5])):=by
 refine BD 23 Tryz.func213 rfl rfl rfl λw0 F hF=>sr λ_ J1=>PS ?_
 refine nx J1 (sr λ_ J2=>PS ?_);refine tp (dO rfl fO rfl hF.len) ?_;refine AD ?_;refine TL.makeB (0) (2+by'.length) (ab rfl) rfl rfl rfl fO uD rfl rfl rfl (by omega) (by omega) (by omega) (λb11=>ci (H':=[cH (.slice (some ⟨b11,0,none⟩) 0 (2+by'.length)) ([]) 5]) (λ_ s=>tD 0 rfl rfl (by omega) (by simp only[maxLen];omega) (by simp[dX]) rfl s) (PS ?_));refine nx J2 (sr λ_ J3=>P2 ?_);refine tp (cD (r:=(((b8 from').toNat:Nat):Int)) rfl Y3 Y5 rfl (wS _)) ?_;refine PS ?_;refine tp (cD (r:=(((b8 to').toNat:Nat):Int)) rfl Y3 Y5 rfl (wS _)) ?_;refine aM (cells:=#[(.int .u8 ((((b8 from').toNat:Nat):Int))),(.int .u8 ((((b8 to').toNat:Nat):Int)))]) (ab rfl) rfl rfl rfl fO uD rfl rfl rfl (by as_aux_lemma=>kernel_rfl) (λb17=>bX (k:=1) (news:=dX ([(b8 from'),(b8 to')])) (nn':=([(b8 from'),(b8 to')]:List UInt8).length) (xs':=dX ([(b8 from'),(b8 to')])) (ab rfl) rfl rfl rfl fO uD rfl rfl rfl rfl rfl rfl (λ_ _=>gn rfl (RO 0) rfl) (ff [(b8 from'),(b8 to')]) (by simp only[maxLen,az,av];omega) (by simp only[az,av];omega) (by simp<;>omega) (ba _) (λv18 ov18=>PS ?_));refine nx J3 (sr λ_ J4=>P2 ?_)
 refine bX (k:=1) (news:=dX (by')) (nn':=([(b8 from'),(b8 to')]++by':List UInt8).length) (xs':=dX ([(b8 from'),(b8 to')]++by')) (ab rfl) rfl rfl rfl fO uD rfl rfl rfl rfl rfl rfl (λ_ _=>hF.src (λ_ h=>fD h)) (ff _) (by simp only[maxLen,ag,av,az];omega) (by simp only[ag,av,az];omega) (by simp<;>omega) (gE _ _).symm (λv21 ov21=>CQ MX (vC v21 ([(b8 from'),(b8 to')]++by') (by simp only[ag,av,az];omega)) ID (λg d s=>Lk (tZ 1 rfl rfl g d s)) λvR HR hR=>?_);have hR:=hR;subst hR;refine PS ?_;exact nx J4 (ah (WK [0] (aw rfl rfl ⟨_,rfl,rfl⟩)))
theorem sL(f t:Int)(bs:List UInt8):(jP f t bs).length=bs.length+6:=by
 unfold jP;rw[lJ];simp only[ag,av,az];omega
theorem za(n:Nat)(W:List (List (List UInt8)))(from' to':Int)(x:Value)(by':List UInt8)(hb:by'.length≤3000)(hW:W.length=25):
 DT 211 #[(.pointer (some ⟨n,0,none⟩)),(.int .i64 (from')),(.int .i64 (to')),x] (IsW x by') [eT 106 169 5 n (W)] (RI (.bool (tS W from' to')) [eT 106 169 5 n (pF W from' to' (jP from' to' by'))]):=by
 refine BD 24 Tryz.func211 rfl rfl rfl λw0 F hF=>?_
 have hfl:(jP from' to' by').length≤1000000:=by rw[sL];omega
 refine sr λ_ J1=>PS ?_
 refine nx J1 (aa λ_ J2=>sr λ_ J3=>PS ?_);refine tp (gA rfl K9 rfl rfl) ?_;refine P2 ?_;refine tq (dO rfl fO rfl hF.len) ?_;refine PS ?_;refine ap ?_ ?_<;>intro h14
 · exact absurd h14 (by omega)
 refine PS ?_;refine nx J3 (CN (qx J2 (sr λ_ J4=>?_)))
 iterate 6 refine PS ?_
 refine CQ Pc (FY from' to' x by' (by omega)) ID (λ_ d _=>Qe hF d) λvR HR hR=>?_
 obtain⟨_,rfl,rfl⟩:=hR;revert vR;intro uf;refine CF Ph (BF n W from' to' uf (jP from' to' by') hfl hW) (SM [1]) (λg d s=>Lk (tZ 0 rfl rfl g d s)) ?_;refine PS ?_;exact nx J4 (ah (WK [0] (aw rfl rfl ⟨rfl,rfl⟩)))
theorem zb(from' to':Int)(x:Value)(by':List UInt8)(h0:0<by'.length)(hb:by'.length≤100000):
 DT 101 #[(.int .i64 (from')),(.int .i64 (to')),x] (IsW x (jP from' to' by')) [] (dG (λv H=>∃u,v= .tuple #[u, .bool true]∧H=[ik u by' 5])):=by
 refine BD 40 Tryz.func101 rfl rfl rfl λw0 F hF=>?_
 have hfl:(jP from' to' by').length≤1000000000:=by rw[sL];omega
 refine sr λ_ J1=>P2 ?_
 refine nx J1 (sr λ_ J2=>PS ?_);refine CQ M6 (zG x (jP from' to' by') hfl) ID (λ_ d _=>Qe hF d) λvR HR hR=>?_
 rcases hR with⟨ht',_,_⟩| ⟨t,u,ht',rfl,rfl⟩
 · exact absurd ht' (by unfold jP;rw[sj];simp)
 obtain rfl:t=([b8 from',b8 to']++by'):=by unfold jP at ht';rw[sj]at ht';exact(bJ ht').symm
 refine jV 0 rfl rfl (by simp) (λg cap hv hcap=>?_);have hv2:u= .slice (some ⟨g,0,none⟩) (by'.length+2) cap:=hv;refine P4 ?_;refine PS ?_;refine nx J2 (aa λ_ J3=>sr λ_ J4=>PS ?_);refine PS ?_;refine P2 ?_;refine tq (dO rfl fO rfl (by rw[hv2];exact⟨_,_,rfl⟩)) ?_;refine PS ?_;refine ap ?_ ?_<;>intro h20
 · exact absurd h20 (by omega)
 refine P3 ?_;refine tq (bn (r:=0) hv2 rfl fO kx rfl rfl (by omega) (by omega) rfl) ?_;refine tq (cm (v:=(.int .u8 ((((b8 from').toNat:Nat):Int)))) rfl Y5 rfl rfl (gM 0 rfl hv rfl) (sc (l:=([b8 from',b8 to']++by')) (j:=0) (by simp))) ?_;refine PS ?_;refine tq (cD (r:=(((b8 from').toNat:Nat):Int)) rfl Y3 Y5 rfl (wS _)) ?_;refine PS ?_;refine ap ?_ ?_<;>intro h28
 · exact absurd rfl h28
 refine P3 ?_;refine tq (bn (r:=1) hv2 rfl fO kx rfl rfl (by omega) (by omega) rfl) ?_;refine tq (cm (v:=(.int .u8 ((((b8 to').toNat:Nat):Int)))) rfl Y5 rfl rfl (gM 0 rfl hv rfl) (sc (l:=([b8 from',b8 to']++by')) (j:=1) (by simp))) ?_;refine PS ?_;refine tq (cD (r:=(((b8 to').toNat:Nat):Int)) rfl Y3 Y5 rfl (wS _)) ?_;refine PS ?_;refine ap ?_ ?_<;>intro h36
 · exact absurd rfl h36
 refine PS ?_;refine nx J4 (CN (qx J3 (sr λ_ J5=>PS ?_)));refine tp (nd (PV.sliceL (a:=some ⟨g,0,none⟩) (len:=by'.length+2) (cap:=cap) (lo:=2) rfl fO kx (by rw[←hv2];rfl) rfl rfl (by omega)) (congrArg (λq=>kH q 2 (by'.length+2)) hv2.symm)) ?_;refine P2 ?_;exact nx J5 (ah (aE (H':=[ik (kH u 2 (by'.length+2)) by' 5]) (dN _) (λ_ s=>xw 0 rfl rfl hv (by omega) (by simp) (by simp;omega) (by simp) s) (iC rfl rfl rfl ⟨_,rfl,rfl⟩)))
theorem yd(n:Nat)(bs:List Nat)(W:List (List (List UInt8)))(from' to':Int)(by':List UInt8)(ls:List (List UInt8))(hv:dA from' to'=true)(hW:W.length=25)(hk:W.getD (bE from' to') []=jP from' to' by'::ls)(h0:0<by'.length)(hb:by'.length≤100000):
 DT 58 #[(.pointer (some ⟨n,0,none⟩)),(.int .i64 (from')),(.int .i64 (to'))] T0 [aj n (dS bs) 106,fb 169 5 bs (W)] (dG (λv H=>∃u,v= .tuple #[u, .bool true]∧H=[aj n (dS bs) 106,fb 169 5 bs (W.set (bE from' to') ls),ik u by' 5])):=by
 refine BD 32 Tryz.func58 rfl rfl rfl λw0 F hF=>sr λ_ J1=>P2 ?_
 refine nx J1 (aa λ_ J2=>sr λ_ J3=>PS ?_);refine tp (gA rfl K9 rfl rfl) ?_;refine nx J3 (CN (qx J2 (sr λ_ J4=>P3 ?_)));refine CR FE (nH n bs from' to') ID λvR HR hR=>?_
 obtain⟨hw,rfl⟩:=hR;obtain⟨_,rfl⟩:dA from' to'=true∧vR= .pointer (some ⟨(bs.getD (bE from' to') 0),0,none⟩):=hw.resolve_right (λq=>by rw[hv]at q;cases q.1)
 refine PS ?_;refine nx J4 (aa λ_ J5=>sr λ_ J6=>PS ?_);refine tp (gA rfl yG rfl rfl) ?_;refine nx J6 (CN (qx J5 (sr λ_ J7=>PS ?_)));refine ci (H':=[iw 169 5 (bs.getD (bE from' to') 0) (W.getD (bE from' to') []),fY 169 5 bs W (bE from' to'),aj n (dS bs) 106]) (λ_ s=>oS hv (aD [1] rfl s)) (CR Nf (uq (bs.getD (bE from' to') 0) (W.getD (bE from' to') [])) ID λvR HR hR=>?_);rcases hR with⟨he,_,_⟩| ⟨u,f,ls',he,rfl,rfl⟩
 · rw[he]at hk;cases hk
 rw[hk]at he;obtain⟨rfl,rfl⟩:=List.cons.inj he;refine P4 ?_;refine PS ?_;refine nx J7 (aa λ_ J8=>sr λ_ J9=>PS ?_);refine PS ?_;refine nx J9 (CN (qx J8 (sr λ_ J10=>P3 ?_)));refine CQ PN (zb from' to' u by' h0 hb) ID (λg d s=>Lk (BN 1 rfl rfl g d s)) λvR HR hR=>?_
 obtain⟨uv,rfl,rfl⟩:=hR;refine P4 ?_;exact nx J10 (ah (aE (H':=[aj n (dS bs) 106,fb 169 5 bs (W.set (bE from' to') ls),ik uv by' 5]) (dN _) (λ_ s=>aD [1,0] rfl (uH hv hW (ak [1,2,2,0] rfl s))) (iC rfl rfl rfl ⟨_,rfl,rfl⟩)))
theorem rR(n:Nat)(W:List (List (List UInt8)))(from' to':Int)(by':List UInt8)(ls:List (List UInt8))(hv:dA from' to'=true)(hW:W.length=25)(hk:W.getD (bE from' to') []=jP from' to' by'::ls)(h0:0<by'.length)(hb:by'.length≤100000):DT 58 #[.pointer (some ⟨n,0,none⟩), .int .i64 from', .int .i64 to'] T0 [eT 106 169 5 n W] (dG (λv H=>∃u,v= .tuple #[u, .bool true]∧H=[eT 106 169 5 n (W.set (bE from' to') ls),ik u by' 5])):=
 Leg.Does.pack (B:=[]) λbs=>Leg.Does.fold (yd n bs W from' to' by' ls hv hW hk h0 hb) λe H hp=>by
  cases e with
  |returned v=>
   obtain⟨u,rfl,rfl⟩:=hp;exact⟨[eT 106 169 5 n (W.set (bE from' to') ls),ik u by' 5],λ_ s=>bw (p:=λbs:List Nat=>[aj n (dS bs) 106,fb 169 5 bs (W.set (bE from' to') ls)]) (H:=[ik u by' 5]) bs s,u,rfl,rfl⟩
  |panicked c=>exact hp.elim
  |outgrown=>exact hp.elim
end Go.Proofs.YtkhjnolhhidecaaGreatDoor
end

section
namespace Leg
open Go Codec Api
section
variable {P:Program} {n:Nat} {D:List Deferred} {L:List (Nat×Value)} {S:World→Prop} {o:Oper}
theorem PV.ptrNeIf{c:Prop}[Decidable c]{t t':TypeId}{x y:Operand}{a:Addr}(ho:o.op= .binOp .neq t x y t')(ht:P.underlying t=some (.pointer (P.pointee t)))(hx:cR L x=some (if c then .pointer none else .pointer (some a)))(hy:cR L y=some (.pointer none)):PV P n D L S o (.bool (!decide c)):=by
 by_cases h:c
 · rw[if_pos h]at hx;rw[decide_eq_true h];exact jA ho ht hx hy
 · rw[if_neg h]at hx;rw[decide_eq_false h];exact gk ho ht hx hy
end
abbrev JN(bs:List Nat)(k:Nat):Value:=if k%6=0 then .pointer none else .pointer (some ⟨bs.getD k 0,0,none⟩)
def tL(bs:List Nat)(i:Nat):List Value:=(List.range 5).map λj=>JN bs (i*5+j)
theorem oZ(bs:List Nat)(i:Nat):(tL bs i).length=5:=by simp[tL]
theorem JE(bs:List Nat)(i:Nat): ∀v∈tL bs i,v.oneCell'=true:=by
 intro v hv;simp only[tL,gl]at hv;obtain⟨j,_,rfl⟩:=hv;show(if _ then _ else _:Value).oneCell'=true;split<;>rfl
theorem GG(bs:List Nat)(i:Nat){j:Nat}(h:j<5):(tL bs i)[j]?=some (JN bs (i*5+j)):=by simp[tL,h]
theorem JF(bs:List Nat){i:Nat}(h:i<5):((dS bs).drop (i*5)).take 5=tL bs i:=by
 refine List.ext_getElem? λj=>?_
 by_cases hj:j<5
 · rw[List.getElem?_take_of_lt hj,List.getElem?_drop,Dy bs (by omega),GG bs i hj]
 · rw[List.getElem?_eq_none (by rw[bB];omega),List.getElem?_eq_none (by rw[oZ];omega)]
def mF(W:List (List (List UInt8)))(k:Nat):Nat:=((List.range k).map λq=>if q%6=0 then 0 else(W.getD q []).length).sum
theorem sG(W:List (List (List UInt8)))(k:Nat):mF W (k+1)=mF W k+(if k%6=0 then 0 else(W.getD k []).length):=by simp[mF,cO]
def mB(bs:List Nat):List Value:=(List.range 25).map λq=>if q%6=0∨bs.length≤q then .pointer none else .pointer (some ⟨bs.getD q 0,0,none⟩)
theorem Ae(bs:List Nat):(mB bs).length=25:=by simp[mB]
theorem H5{bs:List Nat}{b:Nat}(h:bs.length<25)(hd: ¬bs.length%6=0):(mB bs).set bs.length (.pointer (some ⟨b,0,none⟩))=mB (bs++[b]):=by
 refine List.ext_getElem? λj=>?_
 by_cases hj:j=bs.length
 · subst hj
   rw[List.getElem?_set_self (by rw[Ae];exact h)];simp[mB,h,hd,List.getD_eq_getElem?_getD]
 · rw[List.getElem?_set_ne (λe=>hj e.symm)]
   simp only[mB,List.getElem?_map];cases hr:(List.range 25)[j]?with
   |none=>rfl
   |some q=>
    have hq:q=j:=by
     by_cases h25:j<25
     · simp[h25]at hr;exact hr.symm
     · simp[h25]at hr
    subst hq;simp only[Option.map_some,ag,av,az];congr 1
    by_cases hlt:q<bs.length
    · simp[show ¬bs.length≤q by omega,show ¬bs.length+1≤q by omega,List.getElem?_append_left hlt]
    · simp[show bs.length≤q by omega,show bs.length+1≤q by omega]
theorem Fv{bs:List Nat}{b:Nat}(hd:bs.length%6=0):mB (bs++[b])=mB bs:=by
 unfold mB;refine eu λq hq=>?_
 rw[ag,g8]
 by_cases hq6:q%6=0
 · simp[hq6]
 · by_cases hlt:q<bs.length
   · simp[hq6,show ¬bs.length≤q by omega,show ¬bs.length+1≤q by omega,List.getElem?_append_left hlt]
   · have: ¬q=bs.length:=λe=>hq6 (by rw[e];exact hd)
     simp[show bs.length≤q by omega,show bs.length+1≤q by omega]
theorem H6{bs:List Nat}(h:bs.length=25):mB bs=dS bs:=by
 unfold mB dS;refine eu λq hq=>?_
 rw[e6]at hq;simp[show ¬bs.length≤q by omega]
def pP(T U:Nat)(bs:List Nat)(q:Nat):HP:=if q%6=0 then(λ_=>True)else iw T U (bs.getD q 0) []
def ld(T U:Nat)(bs:List Nat):HP:=bR ((List.range bs.length).map (pP T U bs))
theorem Gk(T U:Nat){H:List HP}{h:Hl}(s:bR H h):bR (ld T U []::H) h:=⟨em,h,EP h,(rV h).symm,trivial,s⟩
theorem Gl(T U:Nat)(bs:List Nat)(b:Nat):(List.range bs.length).map (pP T U (bs++[b]))=(List.range bs.length).map (pP T U bs):=
 eu λq hq=>by
  rw[e6]at hq;unfold pP;rw[show(bs++[b]).getD q 0=bs.getD q 0 by simp[List.getElem?_append_left hq]]
theorem wj(T U:Nat)(bs:List Nat)(b:Nat){H:List HP}{h:Hl}(s:bR (pP T U (bs++[b]) bs.length::ld T U bs::H) h):bR (ld T U (bs++[b])::H) h:=by
 have e:(List.range (bs++[b]).length).map (pP T U (bs++[b]))=(List.range bs.length).map (pP T U bs)++[pP T U (bs++[b]) bs.length]:=by
  rw[ag,g8,cO,e8,Gl];rfl
 obtain⟨h1,h2,d,rfl,a,b'⟩:=s;have s2:bR ((pP T U (bs++[b]) bs.length::(List.range bs.length).map (pP T U bs))++H) (jn h1 h2):=⟨h1,h2,d,rfl,a,(cj _ _).2 b'⟩;have p:((pP T U (bs++[b]) bs.length::(List.range bs.length).map (pP T U bs))++H).Perm (((List.range bs.length).map (pP T U bs)++[pP T U (bs++[b]) bs.length])++H):=(List.perm_append_comm (l₁:=[pP T U (bs++[b]) bs.length])).append_right H;have s3:=eO p s2;rw[←e]at s3;exact(cj _ _).1 s3
theorem Ex(T U:Nat)(bs:List Nat)(hd:bs.length%6=0){H:List HP}{h:Hl}(s:bR (ld T U bs::H) h):bR (ld T U (bs++[0])::H) h:=by
 refine wj T U bs 0 ⟨em,h,EP h,(rV h).symm,?_,s⟩;unfold pP;rw[if_pos hd];trivial
theorem Gm{T U:Nat}{bs:List Nat}(h:bs.length=25):ld T U bs=fb T U bs (List.replicate 25 []):=by
 unfold ld fb qa;rw[h];refine congrArg bR ?_;refine eu λq hq=>?_
 rw[e6]at hq;unfold pP rX;rw[show(List.replicate 25 ([]:List (List UInt8))).getD q []=[]by rw[List.getD_eq_getElem?_getD,List.getElem?_replicate,if_pos hq];rfl]
theorem KU{T U:Nat}{bs:List Nat}{W:List (List (List UInt8))}{k:Nat}(h6: ¬k%6=0)(hk:k<25){H:List HP}{h:Hl}(s:bR (fb T U bs W::H) h):bR (iw T U (bs.getD k 0) (W.getD k [])::fY T U bs W k::H) h:=by
 have:=yA hk s
 rwa [rC h6]at this
theorem KT{T U:Nat}{bs:List Nat}{W:List (List (List UInt8))}{k:Nat}(h6: ¬k%6=0)(hk:k<25){H:List HP}{h:Hl}(s:bR (iw T U (bs.getD k 0) (W.getD k [])::fY T U bs W k::H) h):bR (fb T U bs W::H) h:=by
 refine wi (W:=W) hk (λ_ _=>rfl) ?_;rw[rC h6];exact s
end Leg
end

section
namespace Go.Proofs.YtkhjnolhhidecaaGreatDoor
open Go Leg Codec Api Dsk Wal
theorem BG(n:Nat)(bs:List Nat)(W:List (List (List UInt8)))(hsm: ∀k,k<25→mF W k+(W.getD k []).length≤1000000000):
 DT 30 #[(.pointer (some ⟨n,0,none⟩))] T0 [aj n (dS bs) 106,fb 169 5 bs (W)] (RI (.int .i64 ((mF W 25:Nat):Int)) [aj n (dS bs) 106,fb 169 5 bs W]):=by
 refine BD 28 Tryz.func30 rfl rfl rfl λw0 F hF=>sr λ_ J1=>PS ?_
 refine nx J1 (sr λ_ J2=>PS ?_);refine nx J2 (aa λ_ J3=>sr λ_ J4=>P2 ?_);refine FA 0 Tryz.underlying106 Gv ?_;refine tp (aN (vs:=dS bs) rfl MN rfl Gv rfl (RO 0) (Ad bs) (xb (Ad bs))) ?_;refine PS ?_;refine nx J4 (am ?_)
 refine bG (α:=(Nat)) (λi=>i≤5) (λi=>[(2,(.int .i64 0)),(3,(.int .i64 (((mF W (i*5):Nat):Int)))),(11,(.agg (dS bs).toArray)),(12,(.int .i64 (((i:Nat):Int))))]) (λi=>[aj n (dS bs) 106,fb 169 5 bs (W)]) (λi=>5-i) 0
  (aP _) SB
  (λ_ s=>s) (λi hinv=>?_)
 obtain hi:=hinv;refine sr λ_ J5=>PS ?_
 refine ap ?_ ?_<;>intro h13;refine nx J5 (aa λ_ J6=>CY (qx J6 (aa λ_ J7=>am (sr λ_ J8=>tp (RH (cs:=dS bs) (vs:=tL bs i) (r:=i*5) rfl MN Lb rfl CD rfl rfl (by omega) (by omega) (by omega) (JF bs (by omega))) ?_))));refine XA Qy λb5=>?_
 refine bW (vs:=tL bs i) (i:=0) (ab rfl) rfl rfl rfl rfl rfl (by rw[oZ bs i];exact CD) (JE bs i) rfl rfl (by rw[oZ bs i];exact aK _) (jC (Eq.trans (rfl:_=5) (by rw[oZ bs i]:(tL bs i).length=5).symm)) rfl (nx J8 (sr λ_ J9=>tp (aN (vs:=tL bs i) rfl Lb rfl CD rfl (RO 0) (oZ bs i) (xb (oZ bs i))) ?_));refine PS ?_;refine nx J9 (am ?_)
 refine bG (α:=(Nat)) (λj=>j≤5) (λj=>[(2,(.int .i64 0)),(3,(.int .i64 (((mF W (i*5+j):Nat):Int)))),(11,(.agg (dS bs).toArray)),(12,(.int .i64 (((i:Nat):Int)))),(15,(.agg (tL bs i).toArray)),(16,(.int .i64 (((j:Nat):Int))))]) (λj=>[aj n (dS bs) 106,fb 169 5 bs (W)]) (λj=>5-j) 0
  (aP _) SB
  (λ_ s=>ak [1,1] rfl s) (λj hinv=>?_)
 obtain hj:=hinv;refine sr λ_ J10=>PS ?_
 refine ap ?_ ?_<;>intro h17;refine nx J10 (aa λ_ J11=>CY (qx J11 (aa λ_ J12=>am (sr λ_ J13=>tp (jf (cs:=tL bs i) (v:=JN bs (i*5+j)) (r:=j) rfl Lb yG rfl Gw rfl rfl (by omega) (by omega) (by omega) (GG bs i (by omega))) ?_))));refine PS ?_;refine nx J13 (sr λ_ J14=>PS ?_);refine tp (PV.ptrNeIf rfl yG rfl rfl) ?_;refine bg ?_ ?_<;>intro h20;have h20: ¬((i*5+j)%6=0):=by simpa using h20
 refine TL.weak (L':=[(2,(.int .i64 0)),(3,(.int .i64 (((mF W (i*5+j):Nat):Int)))),(7,(.pointer (some ⟨(bs.getD (i*5+j) 0),0,none⟩))),(11,(.agg (dS bs).toArray)),(12,(.int .i64 (((i:Nat):Int)))),(15,(.agg (tL bs i).toArray)),(16,(.int .i64 (((j:Nat):Int)))),(17,(.bool true)),(18,(JN bs (i*5+j))),(19,(JN bs (i*5+j))),(20,(.bool true))]) (bM rfl rfl (bM rfl rfl (bM rfl (if_neg h20) (bM rfl rfl (bM rfl rfl (bM rfl rfl (bM rfl rfl (bM rfl rfl (bM rfl rfl (bM rfl rfl (bM rfl rfl SB))))))))))) (λ_ s=>s) (ci (H':=[iw 169 5 (bs.getD (i*5+j) 0) (W.getD (i*5+j) []),fY 169 5 bs W (i*5+j),aj n (dS bs) 106]) (λ_ s=>KU h20 (by omega) (aD [1] rfl s)) (nx J14 (CY (ac (P2 ?_)))));refine CE DL (jS (bs.getD (i*5+j) 0) (W.getD (i*5+j) [])) ID ?_;refine tp (bA (r:=((mF W (i*5+j)+(W.getD (i*5+j) []).length:Nat):Int)) rfl rfl rfl (by rw[←Int.natCast_add];exact bH (by omega) (by have:=hsm (i*5+j) (by omega);omega))) ?_;refine PS ?_;refine au (af (ad J12 (ac (AD ?_))));refine PS ?_;refine au ?_
 exact aL ((j+1):(Nat)) (by omega) (by show 5- (j+1)<5-j;omega)
  (aX (bM rfl (by rw[show mF W (i*5+(j+1))=mF W (i*5+j)+(W.getD (i*5+j) []).length from by rw[←n9,sG,if_neg h20]]) SB))
  (λ_ s=>aD [1,0] rfl (KT h20 (by omega) (ak [0,0,0] rfl s)))
 refine nx J14 (CN (aR (af (ad J12 (ac (AD ?_))))));refine PS ?_;refine au ?_
 exact aL ((j+1):(Nat)) (by omega) (by show 5- (j+1)<5-j;omega)
  (aX (bM rfl (by rw[show mF W (i*5+(j+1))=mF W (i*5+j)from by rw[←n9,sG,if_pos (by simpa using h20),zw]]) SB))
  (λ_ s=>s)
 refine nx J10 (aa λ_ J15=>CN (aW (aA (aA (bq (af (ad J7 (ac (AD ?_)))))))));refine PS ?_;refine au ?_
 exact aL ((i+1):(Nat)) (by omega) (by show 5- (i+1)<5-i;omega)
  (aX (bM rfl (by rw[show(i+1)*5=i*5+j by omega]) SB))
  (λ_ s=>s)
 refine nx J5 (aa λ_ J16=>CN (aW (aA (aA (bq (ad J3 (sr λ_ J17=>P2 ?_)))))));refine nx J17 (ah (WK [0,0] (aw rfl rfl ?_)));exact⟨by rw[show i*5=25 by omega],rfl⟩
theorem DQ(n:Nat)(W:List (List (List UInt8)))(hsm: ∀k,k<25→mF W k+(W.getD k []).length≤1000000000):DT 30 #[.pointer (some ⟨n,0,none⟩)] T0 [eT 106 169 5 n W] (RI (.int .i64 ((mF W 25:Nat):Int)) [eT 106 169 5 n W]):=
 Leg.Does.pack (B:=[]) λbs=>Leg.Does.fold (BG n bs W hsm) λe H hp=>by
  cases e with
  |returned v=>
   obtain⟨rfl,rfl⟩:=hp;exact⟨[eT 106 169 5 n W],λ_ s=>bw (p:=λbs:List Nat=>[aj n (dS bs) 106,fb 169 5 bs W]) (H:=[]) bs s,rfl,rfl⟩
  |panicked c=>exact hp.elim
  |outgrown=>exact hp.elim
theorem KV{T U:Nat}{bs:List Nat}{b:Nat}(h: ¬bs.length%6=0):pP T U (bs++[b]) bs.length=iw T U b []:=by
 unfold pP;rw[if_neg h,List.getD_eq_getElem?_getD,List.getElem?_append_right (aK _),zv];rfl
theorem Gn{T U:Nat}{bs:List Nat}{b:Nat}(hl: ¬bs.length%6=0){H:List HP}{h:Hl}(s:bR (iw T U b []::ld T U bs::H) h):bR (ld T U (bs++[b])::H) h:=wj T U bs b (by rw[KV hl];exact s)
theorem DP:
 DT 19 #[] T0 [] (dG (λv H=>∃n,v= .pointer (some ⟨n,0,none⟩)∧H=[eT 106 169 5 n (List.replicate 25 [])])):=by
 refine Leg.Does.body (vs:=[]) (n:=26) Tryz.func19 rfl rfl rfl (λw0 F hF=>?_);refine sr λ_ J1=>?_
 refine qh ?_;refine nx J1 ?_;refine sr λ_ J2=>?_
 refine tp (kM (cells:=#[(.pointer none),(.pointer none),(.pointer none),(.pointer none),(.pointer none),(.pointer none),(.pointer none),(.pointer none),(.pointer none),(.pointer none),(.pointer none),(.pointer none),(.pointer none),(.pointer none),(.pointer none),(.pointer none),(.pointer none),(.pointer none),(.pointer none),(.pointer none),(.pointer none),(.pointer none),(.pointer none),(.pointer none),(.pointer none)]) rfl rfl (by as_aux_lemma=>kernel_rfl)) ?_;refine TL.box (ab rfl) rfl rfl rfl rfl (λb5=>?_);change TL _ _ _ _ _ _ _ _ _ [aj b5 [(.pointer none),(.pointer none),(.pointer none),(.pointer none),(.pointer none),(.pointer none),(.pointer none),(.pointer none),(.pointer none),(.pointer none),(.pointer none),(.pointer none),(.pointer none),(.pointer none),(.pointer none),(.pointer none),(.pointer none),(.pointer none),(.pointer none),(.pointer none),(.pointer none),(.pointer none),(.pointer none),(.pointer none),(.pointer none)] 106];refine qh ?_;refine nx J2 ?_;refine aa λ_ J3=>?_
 refine sr λ_ J4=>?_
 refine mv ?_;refine nx J4 ?_;refine am ?_
 refine bG (α:=(Nat)×(List Nat)) (λ⟨i,bs⟩=>i≤5∧bs.length=i*5) (λ⟨i,bs⟩=>[(0,(.pointer none)),(1,(.pointer (some ⟨b5,0,none⟩))),(6,(.int .i64 (((i:Nat):Int))))]) (λ⟨i,bs⟩=>[aj b5 (mB (bs)) 106,ld 169 5 (bs)]) (λ⟨i,bs⟩=>5-i) (0,[])
  ⟨aP _,rfl⟩ (aX (aX (bM rfl (by congr 1) (Oy _))))
  (λ_ s=>aD [1,0] rfl (Gk 169 5 s)) (λ⟨i,bs⟩ hinv=>?_)
 obtain⟨hi,hbs⟩:=hinv;refine sr λ_ J5=>?_
 refine tp (PV.lss rfl rfl rfl) ?_;refine ap (λh7=>?_) (λh7=>?_);refine nx J5 ?_;refine aa λ_ J6=>?_
 refine oj rfl ?_;refine aR ?_;refine ad J6 ?_;refine aa λ_ J7=>?_
 refine am ?_;refine sr λ_ J8=>?_
 refine mv ?_;refine qh ?_;refine nx J8 ?_;refine sr λ_ J9=>?_
 refine mv ?_;refine nx J9 ?_;refine am ?_
 refine bG (α:=(Nat)×(List Nat)) (λ⟨j,bs2⟩=>j≤5∧bs2.length=i*5+j) (λ⟨j,bs2⟩=>[(0,(.pointer none)),(1,(.pointer (some ⟨b5,0,none⟩))),(2,(.int .i64 (((i:Nat):Int)))),(6,(.int .i64 (((i:Nat):Int)))),(9,(.int .i64 (((j:Nat):Int))))]) (λ⟨j,bs2⟩=>[aj b5 (mB (bs2)) 106,ld 169 5 (bs2)]) (λ⟨j,bs2⟩=>5-j) (0,bs)
  ⟨aP _,hbs⟩ (aX (aX (aX (aX (bM rfl (by congr 1) (Oy _))))))
  (λ_ s=>s) (λ⟨j,bs2⟩ hinv=>?_)
 obtain⟨hj,hbl⟩:=hinv;refine sr λ_ J10=>?_
 refine tp (PV.lss rfl rfl rfl) ?_;refine ap (λh10=>?_) (λh10=>?_);refine nx J10 ?_;refine aa λ_ J11=>?_
 refine oj rfl ?_;refine aR ?_;refine ad J11 ?_;refine aa λ_ J12=>?_
 refine am ?_;refine sr λ_ J13=>?_
 refine mv ?_;refine qh ?_;refine nx J13 ?_;refine sr λ_ J14=>?_
 refine mv ?_;refine mv ?_;refine tp (PV.neq rfl rfl rfl) ?_;refine ap (λh14=>?_) (λh14=>?_);refine nx J14 ?_;refine oj rfl ?_;refine sR (λw=>Frm F w∧True) df rfl (λ_ s=>⟨fD s,trivial⟩) ?_;refine ta 0 rfl (ky rfl rfl) ?_;refine ta 1 rfl (ky rfl rfl) ?_;refine ta 2 rfl (ky rfl rfl) ?_;refine ta 4 rfl (gU rfl rfl) ?_;refine ta 5 rfl (bc (r:=0) rfl Tryz.underlying106 rfl Gv rfl rfl) ?_;refine ta 6 rfl (q9 (r:=i*5) rfl MN CD rfl rfl (by omega) (by omega) (by omega)) ?_;refine db [3] (by kernel_rfl) rfl ?_;refine aF rfl ?_ ?_;refine lR (A:=[]) (ab rfl) rfl rfl rfl QZ rfl (Ey) (λ_ s=>s) (λ_ _ _=>trivial) (λvR HR hR=>?_);obtain⟨bx,rfl,rfl⟩:=hR;change TL _ _ _ _ _ _ _ _ _ [iw 169 5 bx [],aj b5 (mB (bs2)) 106,ld 169 5 (bs2)];refine au ?_;refine wn (λ_ s=>⟨fD s,trivial⟩) ?_;refine ta 7 rfl (q9 (r:=i*5+j) rfl Lb Gw rfl rfl (by omega) (by omega) (by omega)) ?_;refine db [8] (by kernel_rfl) rfl ?_;refine aF rfl ?_ ?_;refine bK (i:=1) (H':=[iw 169 5 bx [],aj b5 (mB (bs2++[bx])) 106,ld 169 5 (bs2)]) (ab rfl) rfl rfl rfl rfl rfl Gw rfl rfl (by rw[Ae];omega) (by rw[show i*5+j=bs2.length by omega];exact H5 (by omega) (by omega)) rfl ?_;refine au ?_;refine wn (λ_ s=>⟨fD s,trivial⟩) ?_;refine TD.done (by kernel_rfl) ?_;refine af ?_;refine ad J12 ?_;refine ac ?_;refine tp (bA rfl rfl rfl (bH (by omega) (by omega))) ?_;refine mv ?_;refine au ?_
 exact aL ((j+1,bs2++[bx]):(Nat)×(List Nat)) ⟨by omega,by rw[ag,g8];omega⟩ (by show 5- (j+1)<5-j;omega)
  (aX (aX (aX (aX (bM rfl (by simp) (Oy _))))))
  (λ_ s=>show bR [aj b5 (mB (bs2++[bx])) 106,ld 169 5 (bs2++[bx])] _ from aD [1,0] rfl (Gn (by omega) (ak [0,1,0] rfl s)))
 exact bP;exact bP;refine nx J14 ?_;refine Hb rfl ?_;refine aR ?_;refine af ?_;refine ad J12 ?_;refine ac ?_;refine tp (bA rfl rfl rfl (bH (by omega) (by omega))) ?_;refine mv ?_;refine au ?_
 exact aL ((j+1,bs2++[0]):(Nat)×(List Nat)) ⟨by omega,by rw[ag,g8];omega⟩ (by show 5- (j+1)<5-j;omega)
  (aX (aX (aX (aX (bM rfl (by simp) (Oy _))))))
  (λ_ s=>show bR [aj b5 (mB (bs2++[0])) 106,ld 169 5 (bs2++[0])] _ by rw[Fv (by omega)];exact aD [1,0] rfl (Ex 169 5 bs2 (by omega) (aD [1,0] rfl s)))
 refine nx J10 ?_;refine aa λ_ J15=>?_
 refine Hb rfl ?_;refine aW ?_;refine aA ?_;refine aA ?_;refine bq ?_;refine af ?_;refine ad J7 ?_;refine ac ?_;refine tp (bA rfl rfl rfl (bH (by omega) (by omega))) ?_;refine mv ?_;refine au ?_
 exact aL ((i+1,bs2):(Nat)×(List Nat)) ⟨by omega,by omega⟩ (by show 5- (i+1)<5-i;omega)
  (aX (aX (bM rfl (by simp) (Oy _))))
  (λ_ s=>s)
 refine nx J5 ?_;refine aa λ_ J16=>?_
 refine Hb rfl ?_;refine aW ?_;refine aA ?_;refine aA ?_;refine bq ?_;refine ad J3 ?_;refine sr λ_ J17=>?_
 refine mv ?_;refine qh ?_;refine nx J17 ?_;refine ah ?_;refine aE (H':=[eT 106 169 5 b5 (List.replicate 25 [])]) (dN _) (λ_ s=>bw (p:=λbs:List Nat=>[aj b5 (dS bs) 106,fb 169 5 bs (List.replicate 25 [])]) (H:=[]) bs (by rw[←H6 (by omega),←Gm (by omega)];exact s)) ?_;refine aw rfl rfl ?_;exact⟨b5,rfl,rfl⟩
end Go.Proofs.YtkhjnolhhidecaaGreatDoor
end

section
namespace Leg
open Go Codec Api
def fh(n:Nat)(D M P:Nat→Value):List Value:= .pointer (some ⟨n,0,none⟩)::((List.range 5).map D++((List.range 5).map M++(List.range 5).map P))
section
variable (n:Nat) (D M P:Nat→Value) {i:Nat}
theorem sM:(fh n D M P).length=16:=by simp[fh]
theorem B2:(fh n D M P)[0]?=some (.pointer (some ⟨n,0,none⟩)):=rfl
theorem Ge(h:i<5):(fh n D M P)[1+i]?=some (D i):=by
 rw[m6,fh,List.getElem?_cons_succ,List.getElem?_append_left (by simpa using h)];simp[h]
theorem yv(h:i<5):(fh n D M P)[6+i]?=some (M i):=by
 rw[show 6+i=(5+i)+1 by omega,fh,List.getElem?_cons_succ,List.getElem?_append_right (by simp),List.getElem?_append_left (by simp;omega)];simp[h]
theorem PX(h:i<5):(fh n D M P)[11+i]?=some (P i):=by
 rw[show 11+i=(10+i)+1 by omega,fh,List.getElem?_cons_succ,List.getElem?_append_right (by simp;omega),List.getElem?_append_right (by simp;omega)];simp only[cn,Lj];rw[show 10+i-5-5=i by omega];simp[h]
end
def ow{α:Type}(f:Nat→α)(i:Nat)(v:α):Nat→α:=λj=>if j=i then v else f j
theorem mm{α:Type}(f:Nat→α)(i:Nat)(v:α):ow f i v i=v:=if_pos rfl
theorem qu{α:Type}(f:Nat→α){i j:Nat}(v:α)(h:j≠i):ow f i v j=f j:=if_neg h
theorem BM{α:Type}(f:Nat→α){i k:Nat}(h:i<k)(v:α):((List.range k).map f).set i v=(List.range k).map (ow f i v):=by
 refine List.ext_getElem? λj=>?_
 by_cases hj:j=i
 · subst hj
   rw[List.getElem?_set_self (by simpa using h)];simp[h,mm]
 · rw[List.getElem?_set_ne (λe=>hj e.symm)]
   by_cases hk:j<k
   · simp[hk,qu f v hj]
   · simp[hk]
section
variable (n:Nat) (D M P:Nat→Value) {i:Nat} (v:Value)
theorem MF(h:i<5):(fh n D M P).set (1+i) v=fh n (ow D i v) M P:=by
 rw[m6,fh,cd,rf _ _ (by simpa using h),BM D h];rfl
theorem wQ(h:i<5):(fh n D M P).set (6+i) v=fh n D (ow M i v) P:=by
 rw[show 6+i=(5+i)+1 by omega,fh,cd,gZ _ _ (by simp),rf _ _ (by simp;omega)];simp only[cn,Lj];rw[show 5+i-5=i by omega,BM M h];rfl
theorem G7(h:i<5):(fh n D M P).set (11+i) v=fh n D M (ow P i v):=by
 rw[show 11+i=(10+i)+1 by omega,fh,cd,gZ _ _ (by simp;omega),gZ _ _ (by simp;omega)];simp only[cn,Lj];rw[show 10+i-5-5=i by omega,BM P h];rfl
end
abbrev OR(c i:Nat):Value:= .agg #[.pointer (some ⟨c,0,none⟩), .int .i64 ((i:Nat):Int)]
end Leg
namespace Go.Proofs.YtkhjnolhhidecaaGreatDoor
open Go Leg Codec Api Dsk Wal
section
variable {CT NT BT U c n d i:Nat} {D M P:Nat→Value} {W:List (List (List UInt8))} {recs:List (List UInt8)} {l:List SaidT} {H:List HP} {h:Hl}
end
end Go.Proofs.YtkhjnolhhidecaaGreatDoor
end

section
namespace Api
open Go Leg Codec Dsk Wal
structure MS(δ:Type) where
 id:Int
 view:ViewT
 own:RowT
 mirror:MirT
 acc:AccT
 round:Int
 vote:Option VoteT
 book:BookT
 busy:Bool
 kept:Int
 waits:Int
 ops:Int
 replies:List ReplyT
 told:Vector Int 5
 last:Vector RowT 5
 e:δ
 o:List SaidT
structure Adr where
 lg:Nat
 vo:Value
 rs:Value
structure Dk(δ:Type) where
 pt:δ→List UInt8→δ×Int
 dn:δ→Bool
 ok:δ→Prop
 sure: ∀(e:δ) (bs:List UInt8),ok e→bs.length≤3000→ok (pt e bs).1
variable {δ:Type}
abbrev MS.rep(s:MS δ)(a:Adr):RepT:=⟨s.id, .pointer (some ⟨a.lg,0,none⟩),s.view,s.own,s.mirror,s.acc,s.round,a.vo,s.book,s.busy,s.kept,s.waits,s.ops,a.rs,s.told,s.last⟩
def MS.setView(s:MS δ)(v:ViewT):MS δ:= {s with view:=v}
def MS.setOwn(s:MS δ)(v:RowT):MS δ:= {s with own:=v}
def MS.setAcc(s:MS δ)(v:AccT):MS δ:= {s with acc:=v}
def MS.setRound(s:MS δ)(v:Int):MS δ:= {s with round:=v}
def MS.setBusy(s:MS δ)(v:Bool):MS δ:= {s with busy:=v}
def MS.setKept(s:MS δ)(v:Int):MS δ:= {s with kept:=v}
def MS.setWaits(s:MS δ)(v:Int):MS δ:= {s with waits:=v}
def MS.setOps(s:MS δ)(v:Int):MS δ:= {s with ops:=v}
def MS.setTold(s:MS δ)(v:Vector Int 5):MS δ:= {s with told:=v}
def MS.setLast(s:MS δ)(v:Vector RowT 5):MS δ:= {s with last:=v}
def Adr.nil:Adr:=⟨0, .pointer none, .slice none 0 0⟩
def cW(w:Int):Int:=IntKind.i64.wrap (1*2^min w.toNat IntKind.i64.bits)
def DW(a b:BallotT):Bool:=if a.round≠b.round then decide (a.round<b.round)else decide (a.who<b.who)
def AQ(a:AccT)(ep:Int)(b:BallotT):Bool:=decide (ep≠a.epoch)||(decide (b.round<1)||DW b a.vow)
def cb(a:AccT)(ep:Int)(b:BallotT):AccT×Bool:=if AQ a ep b then(a,false)else({a with vow:=b},true)
def ib(a:AccT)(ep:Int)(b:BallotT)(c:ChangeT):AccT×Bool:=if AQ a ep b then(a,false)else({a with vow:=b,had:=b,change:=c},true)
def lX(bits:Int)(k:Nat):List Int:=((List.range k).filter λi:Nat=>IU bits ((i:Nat):Int)).map λi:Nat=>((i:Nat):Int)
def Fj(bits:Int):List Int:=lX bits 5
def Nh(part all:Int):Bool:=decide (2* (((Fj (rH .i64 part all)).length:Nat):Int)>(((Fj all).length:Nat):Int))
def im(v:ViewT)(bits:Int):Bool:=Nh bits v.members
def ju(v:ViewT)(b:BallotT)(c:ChangeT):VoteT:= {VoteT.zero with view:=v,ballot:=b,change:=c}
def oG(v:VoteT)(who:Int)(b:BallotT):Bool:=decide (b.flat=v.ballot.flat)&&js v.view who
def w7(v:VoteT)(who:Int)(had:BallotT)(c:ChangeT):VoteT:=
 if decide (0<had.round)&&DW v.best had then {v with vowed:=iR .i64 v.vowed (cW who),best:=had,change:=c}else {v with vowed:=iR .i64 v.vowed (cW who)}
def fi(v:VoteT)(who:Int)(b had:BallotT)(c:ChangeT):VoteT×Bool:=
 if v.putting|| !oG v who b then(v,false)else({w7 v who had c with putting:=im v.view (iR .i64 v.vowed (cW who))},im v.view (iR .i64 v.vowed (cW who)))
def ia(v:VoteT)(who:Int)(b:BallotT):VoteT×Bool:=
 if !v.putting|| !oG v who b then(v,false)else({v with took:=iR .i64 v.took (cW who)},im v.view (iR .i64 v.took (cW who)))
def setHeir(x:RowT)(who v:Int)(l:Vector CellT 4):RowT:=if h:cI who=true then {x with heir:=x.heir.set who.toNat v (cZ h),left:=x.left.set who.toNat l (cZ h)}else x
def vd(x:RowT)(who:Int):Vector CellT 4:=if h:cI who=true then x.left[who.toNat]'(cZ h)else RowT.zero.cells
def nt(who:Int)(dead:RowT)(x:RowT)(i:Nat):RowT:=if((i:Nat):Int)≠who∧0<heirAt dead ((i:Nat):Int)∧heirAt x ((i:Nat):Int)=0 then setHeir x ((i:Nat):Int) (heirAt dead ((i:Nat):Int)) (vd dead ((i:Nat):Int))else x
def inhTo(x:RowT)(who:Int)(dead:RowT)(k:Nat):RowT:=(List.range k).foldl (nt who dead) (setHeir x who (fy (dead.version+1)) dead.cells)
def cK(x:RowT)(who:Int)(dead:RowT):RowT×Int:=
 if !cI who then(.zero,5)else if 0<heirAt x who then(.zero,8)else({inhTo x who dead 5 with version:=fy ((inhTo x who dead 5).version+1)},0)
def kp(s:MS δ)(who:Int):Int:=if h:cI who=true then s.told[who.toNat]'(cZ h)else 0
def lastAt(s:MS δ)(who:Int):RowT:=if h:cI who=true then s.last[who.toNat]'(cZ h)else .zero
def uO{α:Type}(v:Vector α 5)(w:Int)(x:α):Vector α 5:=if h:cI w=true then v.set w.toNat x (cZ h)else v
def mG(s:MS δ)(who:Int)(y:RowT):MS δ:= {s with last:=if kp s who=0∨(lastAt s who).version<y.version then uO s.last who y else s.last}
def toldS(s:MS δ)(from' who:Int)(y:RowT):MS δ:= {mG s who y with told:=uO s.told who (iR .i64 (kp s who) (cW from'))}
def qw(s:MS δ)(who w:Int):Bool:=decide ((kp s who).fdiv (2^min w.toNat IntKind.i64.bits)%2=1)
def BS(s:MS δ)(i:Nat):Bool:=decide (mI s.view ((i:Nat):Int)=some s.id)&&decide (heirAt s.own ((i:Nat):Int)≤0)
def iz(s:MS δ)(k:Nat):List Int:=((List.range k).filter (BS s)).map λi:Nat=>((i:Nat):Int)
def bF(s:MS δ):List Int:=iz s 5
def toldAll(s:MS δ):Bool:=(bF s).all λi=>(iD i).all λw=>qw s i w
def mY(s:MS δ)(l:List Int):RowT:=l.foldl (λx i=>if 0<heirAt x i then x else(cK x i (lastAt s i)).1) s.own
def jt(v:ViewT):MsgT:= {MsgT.zero with kind:=7,view:=v}
def nj(i:Int)(v:ViewT):MsgT:= {MsgT.zero with kind:=8,whose:=i,view:=v}
def fK(ep:Int)(b:BallotT):MsgT:= {MsgT.zero with kind:=3,epoch:=ep,ballot:=b}
def ka(ep:Int)(b had:BallotT)(c:ChangeT):MsgT:= {MsgT.zero with kind:=4,epoch:=ep,ballot:=b,had:=had,change:=c}
def iW(ep:Int)(b:BallotT)(c:ChangeT):MsgT:= {MsgT.zero with kind:=5,epoch:=ep,ballot:=b,change:=c}
def ji(ep:Int)(b:BallotT):MsgT:= {MsgT.zero with kind:=6,epoch:=ep,ballot:=b}
def gd(ep:Int)(b:BallotT):RecT:= {RecT.zero with kind:=3,epoch:=ep,ballot:=b}
def ng(ep:Int)(b:BallotT)(c:ChangeT):RecT:= {RecT.zero with kind:=4,epoch:=ep,ballot:=b,change:=c}
def dC(s:MS δ)(n:Int):MS δ:= {s with round:=n}
def lh(s:MS δ)(v:VoteT):MS δ:= {s with vote:=some v}
def ux(s:MS δ)(a:AccT):MS δ:= {s with acc:=a}
variable (K:Dk δ)
def iL(s:MS δ)(l:List SaidT):MS δ:= {s with o:=if K.dn s.e then s.o else s.o++l}
def yV(s:MS δ)(to':Int)(m:MsgT):MS δ:=iL K s [⟨to',m⟩]
theorem qD(s:MS δ):iL K s []=s:=by
 unfold iL;rw[aY,ite_self]
theorem Jy(s:MS δ)(a b:List SaidT):iL K (iL K s a) b=iL K s (a++b):=by
 unfold iL
 by_cases h:K.dn s.e=true<;>simp[h]
def kB(f:MS δ→MS δ)(s:MS δ)(to':Int)(m:MsgT):MS δ:=if to'=s.id then f s else yV K s to' m
def dR(s:MS δ)(r:RecT):MS δ:= {s with e:=(K.pt s.e (la r)).1}
def mA(s:MS δ)(r:RecT):Int:=(K.pt s.e (la r)).2
def dw(s:MS δ)(op err val:Int):MS δ:= {s with replies:=s.replies++[⟨op,err,val⟩]}
def eX(s:MS δ):MS δ:=iL K s (oy (s.rep .nil))
def nT(id:Int)(m:MsgT)(p:Nat→Bool)(k:Nat):List SaidT:=((List.range k).filter λi:Nat=> !decide (((i:Nat):Int)=id)&&p i).map λi:Nat=>⟨((i:Nat):Int),m⟩
theorem jp(id:Int)(m:MsgT)(p:Nat→Bool)(k:Nat):nT id m p (k+1)=nT id m p k++(if((k:Nat):Int)≠id∧p k=true then [⟨((k:Nat):Int),m⟩]else []):=by
 unfold nT;rw[cO,List.filter_append,e8]
 by_cases h:((k:Nat):Int)=id<;>by_cases h2:p k=true<;>simp[h,h2]
def j6(s:MS δ)(y:RowT):MS δ:=iL K s (nT s.id (pD s.id y) (λ_=>true) 5)
def lj(s:MS δ)(v:ViewT):MS δ:=iL K s (nT s.id (jt v) (λ_=>true) 5)
def pZ(s:MS δ)(x:RowT)(op:Int):MS δ:= {s with own:=x,busy:=true,kept:=0,waits:=op}
def dI(s:MS δ)(x:RowT)(op:Int):MS δ×Int:=if mA K s (gX x)≠0 then(dR K s (gX x),mA K s (gX x))else(eX K (pZ (dR K s (gX x)) x op),0)
def lm(s:MS δ):MS δ:=if s.busy||decide ((bF s).length=0)then s else if toldAll s then(dI K s (mY s (bF s)) 0).1 else s
def gR(s:MS δ):MS δ:= {s with busy:=false,book:=(dF s.book s.id s.own).1}
def lB(s:MS δ):MS δ:= {s with replies:=if 0<s.waits then s.replies++[⟨s.waits,0,0⟩]else s.replies,waits:=if 0<s.waits then 0 else s.waits}
theorem zC{s:MS δ}(h:0<s.waits):lB s= {dw s s.waits 0 0 with waits:=0}:=by unfold lB;rw[if_pos h,if_pos h];rfl
theorem zD{s:MS δ}(h: ¬0<s.waits):lB s=s:=by unfold lB;rw[if_neg h,if_neg h]
def kI(s:MS δ):MS δ:=lm K (j6 K (lB (gR s)) s.own)
def kr(s:MS δ)(from' ver:Int):Bool:=s.busy&&(decide (ver=s.own.version)&&decide (from'∈iD s.id))
def rS(s:MS δ):Bool:=(iD s.id).all λw=> !vu s.kept w
def keptM(s:MS δ)(from':Int):MS δ:= {s with kept:=iR .i64 s.kept (cW from')}
def du(s:MS δ)(from':Int)(m:MsgT):MS δ:=if kr s from' m.version then(if rS (keptM s from')then kI K (keptM s from')else keptM s from')else s
def yC(s:MS δ)(w:Int)(y:RowT):MS δ:= {s with book:=(dF s.book w y).1}
def il(s:MS δ)(w:Int)(y:RowT):MS δ:= {s with mirror:=(iH s.mirror w y).1}
def gI(s:MS δ)(from':Int)(m:MsgT):MS δ:=
 if m.whose≠from'∨fg s.mirror m.whose=true then s
 else if iO s.mirror m.whose m.row then(if mA K s (kZ m.whose m.row)≠0 then dR K s (kZ m.whose m.row)else yV K (il (dR K s (kZ m.whose m.row)) m.whose m.row) from' (pJ (mirRow (il (dR K s (kZ m.whose m.row)) m.whose m.row).mirror m.whose).version))
 else yV K s from' (pJ (mirRow s.mirror m.whose).version)
def dB(s:MS δ)(from':Int)(m:MsgT):MS δ:=lm K (if from'∈iD m.whose then toldS s from' m.whose m.row else s)
def lc(s:MS δ)(w:Int):MS δ:= {s with mirror:=jk s.mirror w}
def eC(s:MS δ)(from' w:Int):MS δ:=
 let back:=λs:MS δ=>kB K (λs=>dB K s s.id (eW w (mirRow s.mirror w))) s from' (eW w (mirRow s.mirror w))
 if mI s.view w≠some from' then s
 else if fg s.mirror w then back s
 else if mA K s (j7 w)≠0 then dR K s (j7 w)else back (lc (dR K s (j7 w)) w)
def gG(s:MS δ)(i w:Int):MS δ:=if qw s i w then s else kB K (λs=>eC K s s.id i) s w (nj i s.view)
def ma(s:MS δ)(i:Int):MS δ:=gG K (gG K s i ((i+1)%5)) i ((i+2)%5)
def gi(l:List Int)(s:MS δ):MS δ:=l.foldl (ma K) s
def n5(s:MS δ):MS δ:=gi K (bF s) s
def lO(s:MS δ)(v:ViewT):MS δ:= {s with view:=v,acc:= {AccT.zero with epoch:=v.epoch},vote:=none,round:=0}
def iZ(s:MS δ)(v:ViewT):Bool:=decide (s.view.epoch<v.epoch)&&decide (mA K s (j0 v)=0)
def gz(s:MS δ)(v:ViewT):MS δ:=if v.epoch≤s.view.epoch then s else if mA K s (j0 v)≠0 then dR K s (j0 v)else n5 K (lO (dR K s (j0 v)) v)
def iK(s:MS δ)(from':Int)(m:MsgT):MS δ:=eC K (gz K s m.view) from' m.whose
def jd(s:MS δ)(c:ChangeT):MS δ:=if(dM s.view c).2≠0 then s else if iZ K s (dM s.view c).1 then lj K (gz K s (dM s.view c).1) (dM s.view c).1 else gz K s (dM s.view c).1
def eB(f:MS δ→MS δ)(s:MS δ)(from':Int)(m:MsgT):MS δ:=
 if m.epoch<s.view.epoch then(if m.kind=3∨m.kind=5 then yV K s from' (jt s.view)else s)
 else if s.view.epoch<m.epoch∨js s.view s.id=false then s
 else f (dC s (max s.round m.ballot.round))
def kj(from':Int)(m:MsgT)(s:MS δ):MS δ:=match s.vote with
 |none=>s
 |some vt=>if(ia vt from' m.ballot).2 then jd K (lh s (ia vt from' m.ballot).1) vt.change else(lh s (ia vt from' m.ballot).1)
def mU(s:MS δ)(from':Int)(m:MsgT):MS δ:=eB K (kj K from' m) s from' m
def jG(from':Int)(m:MsgT)(s:MS δ):MS δ:=kB K (λs=>mU K s s.id (ji m.epoch m.ballot)) s from' (ji m.epoch m.ballot)
def mx(from':Int)(m:MsgT)(s:MS δ):MS δ:=
 if(dM s.view m.change).2≠0 then s else if(ib s.acc m.epoch m.ballot m.change).2=false then s
 else if(ib s.acc m.epoch m.ballot m.change).1.flat≠s.acc.flat then(if mA K s (ng m.epoch m.ballot m.change)≠0 then dR K s (ng m.epoch m.ballot m.change)else jG K from' m (ux (dR K s (ng m.epoch m.ballot m.change)) (ib s.acc m.epoch m.ballot m.change).1))
 else jG K from' m s
def nM(s:MS δ)(from':Int)(m:MsgT):MS δ:=eB K (mx K from' m) s from' m
def iY(s:MS δ)(m:MsgT):MS δ:=iL K s (nT s.id m (λi=>js s.view ((i:Nat):Int)) 5)
def gY(f:MS δ→MsgT→MS δ)(s:MS δ)(m:MsgT):MS δ:=if js s.view s.id then f (iY K s m) m else iY K s m
def iM(s:MS δ)(vt:VoteT):MS δ:=gY K (λs m=>nM K s s.id m) s (iW s.view.epoch vt.ballot vt.change)
def oi(from':Int)(m:MsgT)(s:MS δ):MS δ:=match s.vote with
 |none=>s
 |some vt=>if(fi vt from' m.ballot m.had m.change).2 then iM K (lh s (fi vt from' m.ballot m.had m.change).1) (fi vt from' m.ballot m.had m.change).1 else(lh s (fi vt from' m.ballot m.had m.change).1)
def mV(s:MS δ)(from':Int)(m:MsgT):MS δ:=eB K (oi K from' m) s from' m
def jU(from':Int)(m:MsgT)(a:AccT)(s:MS δ):MS δ:=kB K (λs=>mV K s s.id (ka m.epoch m.ballot a.had a.change)) s from' (ka m.epoch m.ballot a.had a.change)
def nc(from':Int)(m:MsgT)(s:MS δ):MS δ:=
 if(cb s.acc m.epoch m.ballot).2=false then s
 else if(cb s.acc m.epoch m.ballot).1.vow.flat≠s.acc.vow.flat then(if mA K s (gd m.epoch m.ballot)≠0 then dR K s (gd m.epoch m.ballot)else jU K from' m (cb s.acc m.epoch m.ballot).1 (ux (dR K s (gd m.epoch m.ballot)) (cb s.acc m.epoch m.ballot).1))
 else jU K from' m (cb s.acc m.epoch m.ballot).1 s
def nN(s:MS δ)(from':Int)(m:MsgT):MS δ:=eB K (nc K from' m) s from' m
def jH(s:MS δ)(vt:VoteT):MS δ:=gY K (λs m=>nN K s s.id m) s (fK s.view.epoch vt.ballot)
def lK(s:MS δ)(vt:VoteT):MS δ:=if vt.putting then iM K s vt else jH K s vt
def cY(s:MS δ):BallotT:=⟨fy (s.round+1),s.id⟩
def m3(s:MS δ)(c:ChangeT):MS δ:=lh (dC (ux (dR K s (gd s.view.epoch (cY s))) (cb s.acc s.view.epoch (cY s)).1) (cY s).round) (ju s.view (cY s) c)
def bN(s:MS δ)(c:ChangeT):MS δ×Int:=
 if(cb s.acc s.view.epoch (cY s)).2=false then(s,6)else if mA K s (gd s.view.epoch (cY s))≠0 then(dR K s (gd s.view.epoch (cY s)),mA K s (gd s.view.epoch (cY s)))else(m3 K s c,0)
def fu(s:MS δ)(c:ChangeT):Int:=if(dM s.view c).2=0∧s.vote.isSome=true then 8 else(dM s.view c).2
def dv(s:MS δ)(op:Int)(c:ChangeT):MS δ×Int:=
 if fu s c≠0 then(dw s op (fu s c) 0,fu s c)
 else if(bN K s c).2≠0 then(dw (bN K s c).1 op (bN K s c).2 0,(bN K s c).2)
 else(lK K (dw (bN K s c).1 op 0 0) (ju s.view (cY s) c),0)
def cF(s:MS δ)(o:OpT):RowT×Int×Int:=kD (s.rep .nil) o
def opsS(s:MS δ):MS δ:= {s with ops:=fy (s.ops+1)}
def ly(s:MS δ)(o:OpT):MS δ×Int:=
 if(cF s o).2.2≠0∨o.kind=3 then(dw s s.ops (cF s o).2.2 (cF s o).2.1,(cF s o).2.2)
 else if(dI K s (cF s o).1 s.ops).2≠0 then(dw (dI K s (cF s o).1 s.ops).1 s.ops (dI K s (cF s o).1 s.ops).2 0,(dI K s (cF s o).1 s.ops).2)
 else((dI K s (cF s o).1 s.ops).1,0)
def bL(s:MS δ)(o:OpT):MS δ×Int:=if js s.view s.id&&decide (o.kind=4)then dv K (opsS s) (opsS s).ops o.change else ly K (opsS s) o
def fM(s:MS δ)(from':Int)(m:MsgT):MS δ:=
 if m.kind=0 then gI K s from' m else if m.kind=1 then du K s from' m else if m.kind=2 then yC s m.whose m.row
 else if m.kind=7 then gz K s m.view else if m.kind=8 then iK K s from' m else if m.kind=9 then dB K s from' m
 else if m.kind=3 then nN K s from' m else if m.kind=4 then mV K s from' m else if m.kind=5 then nM K s from' m else if m.kind=6 then mU K s from' m else s
def bO(s:MS δ):MS δ:=n5 K (lm K (if s.busy=true then eX K s else s))
def ca(s:MS δ):MS δ:=if 1<s.view.epoch then lj K s s.view else s
def fz(s:MS δ):MS δ:=if 0< (cA s.book s.id).version then j6 K s (cA s.book s.id)else s
def pV(s:MS δ):MS δ:=match s.vote with
 |none=>s
 |some vt=>if(dM s.view vt.change).2=0 then(if(bN K s vt.change).2=0 then lK K (bN K s vt.change).1 (ju s.view (cY s) vt.change)else(bN K s vt.change).1)else s
def gS(s:MS δ):MS δ:=if js (ca K (bO K s)).view (ca K (bO K s)).id then pV K (fz K (ca K (bO K s)))else ca K (bO K s)
def km(s:MS δ)(m:RecT):MS δ:=
 if m.kind=0 then {s with own:=m.row,busy:=true,kept:=0}
 else if m.kind=1 then il s m.whose m.row
 else if m.kind=2 then lc s m.whose
 else if m.kind=3 then {s with acc:= {s.acc with vow:=m.ballot},round:=max s.round m.ballot.round}
 else if m.kind=4 then {s with acc:= {s.acc with vow:=m.ballot,had:=m.ballot,change:=m.change},round:=max s.round m.ballot.round}
 else if m.kind=5 then lO s m.view
 else s
def mw:List (List UInt8)→MS δ→Option (MS δ)
 | [],s=>some s
 |b::bs,s=>if(pa b).2≠0 then none else mw bs (km s (pa b).1)
def Cf(id:Int)(e:δ):MS δ:=⟨id, .zero, .zero, .zero, .zero,0,none, .zero,false,0,0,0,[], #v[0,0,0,0,0], #v[RowT.zero,RowT.zero,RowT.zero,RowT.zero,RowT.zero],e,[]⟩
def ww(id:Int)(e:δ):MS δ:=lO (Cf id e) firstV
theorem HW{ls:List (List UInt8)}{k:Nat}{s:MS δ}(h:k<ls.length)(g:(pa ls[k]).2≠0):mw (ls.drop k) s=none:=by
 rw[dP h,mw,if_pos g]
theorem JI{ls:List (List UInt8)}{k:Nat}{s:MS δ}(h:k<ls.length)(g: ¬(pa ls[k]).2≠0):mw (ls.drop k) s=mw (ls.drop (k+1)) (km s (pa ls[k]).1):=by
 rw[dP h,mw,if_neg g]
end Api
end

section
namespace Api
open Go Leg Codec Dsk Wal
theorem yp(m:RecT):(la m).length≤3000:=by
 have h1:=jc m.row;have h2:=aZ m.ballot.flat;have h4:=aZ m.change.flat;have h5:=aZ m.view.flat;have h6:=aZ [m.kind,m.whose];have h8:=aZ [m.kind,m.epoch];have h9:=aZ [m.kind];simp only[BallotT.flat,ChangeT.flat,ViewT.flat,av,az,aB]at h2 h4 h5 h6 h8 h9;unfold la
 repeat' split
 all_goals first|omega| (simp only[ag,BallotT.flat,ChangeT.flat,ViewT.flat,az];omega)
abbrev wU(n:Int):Prop:= -9223372036854775808≤n∧n<9223372036854775808
theorem nG{n:Int}(h:wU n):(Lit.int .i64 n).wf=true:=by
 have m1:IntKind.i64.min= -9223372036854775808:=by decide
 have m2:IntKind.i64.max=9223372036854775807:=by decide
 simp only[Lit.wf,m1,m2,ao,decide_eq_true_eq];omega
theorem ot(n:Int):wU (fy n):=by
 unfold fy wU;simp only[IntKind.wrap,IntKind.bits,IntKind.signed];simp;omega
structure CW(c:CellT):Prop where
 inn:wU c.inn
 out:wU c.out
 given: ∀(j:Nat) (h:j<5),wU c.given[j]
class OkRow(y:RowT):Prop where
 version:wU y.version
 cells: ∀(k:Nat) (h:k<4),CW y.cells[k]
 heir: ∀(i:Nat) (h:i<5),wU y.heir[i]
 left: ∀(i k:Nat) (h:i<5) (g:k<4),CW y.left[i][k]
theorem tf{α:Type}{n:Nat}{v:Vector α n}{x:α}(h:x∈v.toList): ∃(j:Nat) (h:j<n),x=v[j]:=by
 obtain⟨j,hj,rfl⟩:=gP h;rw[aB]at hj;exact⟨j,hj,by simp⟩
theorem BK{α:Type}{n:Nat}(v:Vector α n)(j:Nat)(h:j<n):v[j]∈v.toList:=by simp
theorem zA{m:Nat}{v:Vector CellT m}(h: ∀(k:Nat) (h:k<m),CW v[k]):WF (bS v.toList):=λn hn=>by
 obtain⟨c,hc,hn⟩:=kN.1 hn;obtain⟨k,hk,rfl⟩:=tf hc;simp only[CellT.flat,bU]at hn;rcases hn with rfl|rfl|hn
 · exact nG (h k hk).inn
 · exact nG (h k hk).out
 · obtain⟨j,hj,rfl⟩:=tf hn
   exact nG ((h k hk).given j hj)
theorem OkRow.wf{x:RowT}(h:OkRow x):WF x.flat:=λn hn=>by
 simp only[RowT.flat,bU,fw]at hn;rcases hn with rfl|hn|hn|hn
 · exact nG h.version
 · exact zA h.cells n hn
 · obtain⟨j,hj,rfl⟩:=tf hn
   exact nG (h.heir j hj)
 · obtain⟨v,hv,hn⟩:=kN.1 hn
   obtain⟨j,hj,rfl⟩:=tf hv;exact zA (λk hk=>h.left j k hj hk) n hn
abbrev Lg:= @OkRow.wf
theorem CW.of{m:Nat}{v:Vector CellT m}(h:WF (bS v.toList))(k:Nat)(hk:k<m):CW v[k]:=by
 have q: ∀n∈v[k].flat,wU n:=λn hn=>zB (h n (kN.2 ⟨_,BK v k hk,hn⟩))
 exact⟨q _ (by simp[CellT.flat]),q _ (by simp[CellT.flat]),λj hj=>q _ (by simp[CellT.flat])⟩
theorem OkRow.of{x:RowT}(h:WF x.flat):OkRow x:=
 ⟨zB (h _ (by simp[RowT.flat])),CW.of λn hn=>h n (by simp[RowT.flat,hn]),λi hi=>zB (h _ (by simp[RowT.flat])),
  λi k hi hk=>CW.of (λn hn=>h n (by simp only[RowT.flat,bU,fw,kN];exact .inr (.inr (.inr ⟨_,BK x.left i hi,hn⟩)))) k hk⟩
class OkVw(v:ViewT):Prop where
 rng:Rng v
 wf:WF v.flat
class OkVt(v:VoteT):Prop where
 view:OkVw v.view
 ballot:WF v.ballot.flat
 change:WF v.change.flat
 best:WF v.best.flat
class OkMg(m:MsgT):Prop where
 row:OkRow m.row
 view:OkVw m.view
 ballot:WF m.ballot.flat
 had:WF m.had.flat
 change:WF m.change.flat
variable {δ:Type}
class OkR(K:outParam (Dk δ))(s:MS δ):Prop where
 e:K.ok s.e
 id:cI s.id=true
 view:OkVw s.view
 own:OkRow s.own
 mir: ∀(i:Nat) (h:i<5),OkRow s.mirror.rows[i]
 book: ∀(i:Nat) (h:i<5),OkRow s.book.rows[i]
 last: ∀(i:Nat) (h:i<5),OkRow s.last[i]
 acc:WF s.acc.flat
 vote: ∀vt,s.vote=some vt→OkVt vt
variable {K:Dk δ}
instance OkRow.zero:OkRow RowT.zero:=OkRow.of tame_rzero.wf
theorem CW.zero:CW .zero:=⟨by decide,by decide,λj hj=>by
 match j,hj with
 |0,_|1,_|2,_|3,_|4,_=>exact⟨(by decide:(-9223372036854775808:Int)≤0),(by decide:(0:Int)<9223372036854775808)⟩⟩
instance {s:MS δ}[h:OkR K s]:OkRow s.own:=h.own
instance {s:MS δ}[h:OkR K s]:OkVw s.view:=h.view
instance {m:MsgT}[h:OkMg m]:OkRow m.row:=h.row
instance {m:MsgT}[h:OkMg m]:OkVw m.view:=h.view
theorem ou{α:Type}{n:Nat}{p:α→Prop}{v:Vector α n}{i:Nat}(hi:i<n){x:α}(h: ∀(j:Nat) (hj:j<n),p v[j])(hx:p x)(j:Nat)(hj:j<n):p (v.set i x hi)[j]:=by
 rw[Vector.getElem_set];split
 · exact hx
 · exact h j hj
instance {s:MS δ}[h:OkR K s](w:Int):OkRow (mirRow s.mirror w):=by unfold mirRow;split;exact h.mir _ _;exact .zero
instance {s:MS δ}[h:OkR K s](w:Int):OkRow (cA s.book w):=by unfold cA;split;exact h.book _ _;exact .zero
instance {s:MS δ}[h:OkR K s](w:Int):OkRow (lastAt s w):=by unfold lastAt;split;exact h.last _ _;exact .zero
theorem vp{x:RowT}[h:OkRow x](key:Int):CW (cellAt x key):=by unfold cellAt;split;exact h.cells _ _;exact .zero
theorem IC{x:RowT}[h:OkRow x](i:Int):wU (heirAt x i):=by unfold heirAt;split;exact h.heir _ _;exact⟨by decide,by decide⟩
theorem Ir{x:RowT}[h:OkRow x](i:Int)(k:Nat)(hk:k<4):CW (vd x i)[k]:=by unfold vd;split;exact h.left _ _ _ _;exact OkRow.zero.cells k hk
theorem xX{x:RowT}[h:OkRow x]{key n counts:Int}{c:CellT}(hc:CW c):OkRow (jM x key n counts c).1:=by
 unfold jM;split
 · exact .zero
 · refine⟨ot _,λk hk=>?_,λi hi=>?_,λi k hi hk=>?_⟩
   · show CW (eL x key c).cells[k]
     unfold eL;split
     · exact ou (p:=CW) (vg (by assumption)) h.cells hc k hk
     · exact h.cells k hk
   · show wU (eL x key c).heir[i]
     unfold eL;split<;>exact h.heir i hi
   · show CW (eL x key c).left[i][k]
     unfold eL;split<;>exact h.left i k hi hk
instance {x:RowT}[OkRow x](key n:Int):OkRow (px x key n).1:=by
 unfold px;split
 · have:=vp (x:=x) key
   exact xX ⟨ot _,this.out,this.given⟩
 · exact .zero
instance {x:RowT}[OkRow x](key n:Int):OkRow (py x key n).1:=by
 unfold py;split
 · have:=vp (x:=x) key
   exact xX ⟨this.inn,ot _,this.given⟩
 · exact .zero
instance {x:RowT}[OkRow x](key n to':Int):OkRow (mh x key n to').1:=by
 unfold mh;split
 · have:=vp (x:=x) key
   refine xX ?_;unfold qO;split
   · exact⟨this.inn,this.out,ou (p:=wU) (cZ (by assumption)) this.given (ot _)⟩
   · exact this
 · exact .zero
theorem xt{x:RowT}(h:OkRow x){w v:Int}{l:Vector CellT 4}(hv:wU v)(hl: ∀(k:Nat) (h:k<4),CW l[k]):OkRow (setHeir x w v l):=by
 unfold setHeir;split
 · exact⟨h.version,h.cells,ou (p:=wU) (cZ (by assumption)) h.heir hv,λi k hi hk=>ou (p:=λu:Vector CellT 4=>CW u[k]) (cZ (by assumption)) (λj hj=>h.left j k hj hk) (hl k hk) i hi⟩
 · exact h
instance {x d:RowT}[h:OkRow x][g:OkRow d](who:Int):OkRow (cK x who d).1:=by
 have q: ∀k,OkRow (inhTo x who d k):=λk=>by
  induction k with
  |zero=>exact xt h (ot _) g.cells
  |succ k ih=>
   have e:inhTo x who d (k+1)=nt who d (inhTo x who d k) k:=by unfold inhTo;rw[cO,fl];rfl
   rw[e];unfold nt;split
   · exact xt ih (IC _) (Ir _)
   · exact ih
 unfold cK;split
 · exact .zero
 split
 · exact .zero
 · exact⟨ot _,(q 5).cells,(q 5).heir,(q 5).left⟩
instance {s:MS δ}[h:OkR K s](l:List Int):OkRow (mY s l):=by
 have: ∀(l:List Int) (x:RowT),OkRow x→OkRow (l.foldl (λx i=>if 0<heirAt x i then x else(cK x i (lastAt s i)).1) x):=λl=>by
  induction l with
  |nil=>exact λx hx=>hx
  |cons i l ih=>exact λx hx=>ih _ (by dsimp only;split;exact hx;exact inferInstance)
 exact this l _ h.own
instance {s:MS δ}[h:OkR K s](o:OpT):OkRow (cF s o).1:=by
 have:OkRow (fT (s.rep .nil) o).1:=by
  unfold fT
  repeat' split
  all_goals first|exact .zero|exact inferInstanceAs (OkRow (px s.own _ _).1)|exact inferInstanceAs (OkRow (py s.own _ _).1)|exact inferInstanceAs (OkRow (mh s.own _ _ _).1)
 unfold cF kD
 repeat' split
 all_goals first|exact .zero|exact this
theorem yg{l:List Int}{k:Nat}(h:k<l.length):(ints l)[k]?=some (.int .i64 (l.getD k 0)):=by simp[ints,h,List.getD_eq_getElem?_getD]
theorem pL(s:MS δ)(k:Nat):iz s (k+1)=iz s k++(if BS s k then [((k:Nat):Int)]else []):=by
 unfold iz;rw[cO,List.filter_append,e8]
 by_cases h:BS s k=true<;>simp[h]
theorem xr(b:Int)(k:Nat):lX b (k+1)=lX b k++(if IU b ((k:Nat):Int)then [((k:Nat):Int)]else []):=by
 unfold lX;rw[cO,List.filter_append,e8]
 by_cases h:IU b ((k:Nat):Int)=true<;>simp[h]
theorem uP(b:Int)(k:Nat):(lX b k).length≤k:=by
 unfold lX;rw[cn];exact jY (Cd _ _) (by simp)
theorem vj{v:ViewT}{w i:Int}(h:(mI v w).isSome=true)(g:(mI v w).getD 0=i):mI v w=some i:=by
 cases q:mI v w with
 |none=>rw[q]at h;cases h
 |some z=>rw[q]at g;rw[←g];rfl
theorem BR{s:MS δ}{k:Nat}(h:BS s k=true):mI s.view ((k:Nat):Int)=some s.id∧heirAt s.own ((k:Nat):Int)≤0:=by
 unfold BS at h;rw[ao,decide_eq_true_iff,decide_eq_true_iff]at h;exact h
theorem Ob{s:MS δ}{k:Nat}(h1:(mI s.view ((k:Nat):Int)).isSome=true)(h2:(mI s.view ((k:Nat):Int)).getD 0=s.id)(h3:heirAt s.own ((k:Nat):Int)≤0):BS s k=true:=by
 unfold BS;rw[ao,decide_eq_true_iff,decide_eq_true_iff];refine⟨?_,h3⟩;cases q:mI s.view ((k:Nat):Int)with
 |none=>rw[q]at h1;cases h1
 |some z=>rw[q]at h2;rw[←h2];rfl
theorem Az(s:MS δ)(k:Nat):(iz s k).length≤k:=by
 unfold iz;rw[cn];exact jY (Cd _ _) (by simp)
theorem N7{x d:RowT}{who:Int}(h:cI who=true)(h2: ¬0<heirAt x who):(cK x who d).2=0:=by
 rw[cK,h,if_neg (by decide),if_neg h2]
theorem Et(K:Dk δ){l:List Int}{q:Nat}(h:q<l.length)(s:MS δ):gi K (l.take (q+1)) s=ma K (gi K (l.take q) s) (l.getD q 0):=by
 unfold gi;rw[bZ h,fl,List.getD_eq_getElem?_getD,List.getElem?_eq_getElem h];rfl
theorem vZ(s:MS δ){l:List Int}{q:Nat}(h:q<l.length):mY s (l.take (q+1))=(if 0<heirAt (mY s (l.take q)) (l.getD q 0)then mY s (l.take q)else(cK (mY s (l.take q)) (l.getD q 0) (lastAt s (l.getD q 0))).1):=by
 unfold mY;rw[bZ h,fl,List.getD_eq_getElem?_getD,List.getElem?_eq_getElem h];rfl
theorem ul{s:MS δ}{i:Int}(h:i∈bF s):cI i=true∧mI s.view i=some s.id∧heirAt s.own i≤0:=by
 unfold bF iz at h;rw[gl]at h;obtain⟨k,hk,rfl⟩:=h;rw[List.mem_filter,e6]at hk;have h2:=hk.2;unfold BS at h2;rw[ao,decide_eq_true_iff,decide_eq_true_iff]at h2;exact⟨decide_eq_true ⟨by omega,by omega⟩,h2.1,h2.2⟩
theorem ig(x:RowT){k:Nat}(h:k<5):heirAt x ((k:Nat):Int)=x.heir[k]:=by
 rw[heirAt,dif_pos (show cI ((k:Nat):Int)=true from decide_eq_true ⟨by omega,by omega⟩)];rfl
theorem Jc(w:Int):(iD w).length≤1000000:=by unfold iD;split<;>simp
theorem GX{k:Nat}(h:k<5):cI ((k:Nat):Int)=true:=decide_eq_true ⟨by omega,by omega⟩
theorem Is(x:RowT){k:Nat}(h:k<5):vd x ((k:Nat):Int)=x.left[k]:=by
 rw[vd,dif_pos (GX h)];rfl
theorem Fk(x:RowT){k:Nat}(h:k<5)(v:Int)(l:Vector CellT 4):setHeir x ((k:Nat):Int) v l= {x with heir:=x.heir.set k v h,left:=x.left.set k l h}:=by
 rw[setHeir,dif_pos (GX h)];rfl
theorem l8(x:RowT)(who:Int)(dead:RowT)(k:Nat):inhTo x who dead (k+1)=nt who dead (inhTo x who dead k) k:=by unfold inhTo;rw[cO,fl];rfl
instance OkVw.first:OkVw firstV:=⟨ET,λn hn=>by
 have h:n∈[(1:Int),7,0,0,0,0,0]:=hn;simp only[bU,List.not_mem_nil,or_false,or_self]at h
 rcases h with rfl|rfl|rfl<;>decide⟩
instance OkVw.zero:OkVw ViewT.zero:=⟨Rng.zero,λn hn=>by
 have h:n∈[(0:Int),0,0,0,0,0,0]:=hn;simp only[bU,List.not_mem_nil,or_false,or_self]at h
 rcases h with rfl;decide⟩
theorem E4{v:ViewT}(h1:wU v.epoch)(h2:wU v.members)(hr:Rng v):WF v.flat:=λn hn=>by
 simp only[ViewT.flat,bU]at hn;rcases hn with rfl|rfl|hn
 · exact nG h1
 · exact nG h2
 · obtain⟨j,hj,rfl⟩:=tf hn
   have:=hr j hj;exact nG ⟨by omega,by omega⟩
theorem sW(n:Int):wU (IntKind.i64.wrap n):=ot n
instance OkVw.next{v:ViewT}[h:OkVw v](c:ChangeT):OkVw (dM v c).1:=by
 unfold dM;split
 · exact .zero
 split
 · split
   · exact .zero
   · exact⟨h.rng,E4 (sW _) (sW _) h.rng⟩
 split
 · split
   · exact .zero
   · have hr:Rng ⟨IntKind.i64.wrap (v.epoch+1),nz .i64 v.members (2^c.who.toNat),sI v c⟩:=λi hi=>by
      show 0≤(sI v c)[i]∧(sI v c)[i]≤5;unfold sI;rw[Vector.getElem_mapIdx];unfold ve;split
      · have hm:cI c.heir=true:=by
         rename_i q _ _ _ _;simp only[rM,Bool.not_eq_true',not_or,Bool.not_eq_false]at q;exact q.2
        have hm2:0≤c.heir∧c.heir<5:=of_decide_eq_true hm;omega
      · exact h.rng i hi
     exact⟨hr,E4 (sW _) (sW _) hr⟩
 · exact .zero
theorem KY{b:BallotT}(h1:wU b.round)(h2:wU b.who):WF b.flat:=λn hn=>by
 have h:n∈[b.round,b.who]:=hn;simp only[bU,List.not_mem_nil,or_false]at h;rcases h with rfl|rfl
 · exact nG h1
 · exact nG h2
theorem iA:WF BallotT.zero.flat:=KY (by decide) (by decide)
theorem p9:WF ChangeT.zero.flat:=λn hn=>by
 have h:n∈[(0:Int),0,0]:=hn;simp only[bU,List.not_mem_nil,or_false,or_self]at h;rcases h with rfl;decide
instance OkMg.sealed(w:Int)(y:RowT)[h:OkRow y]:OkMg (eW w y):=⟨h, .zero,iA,iA,p9⟩
instance OkMg.sealW(w:Int)(v:ViewT)[h:OkVw v]:OkMg (nj w v):=⟨.zero,h,iA,iA,p9⟩
section
variable {s:MS δ}
instance [h:OkR K s](l:List SaidT):OkR K (iL K s l):=⟨h.e,h.id,h.view,h.own,h.mir,h.book,h.last,h.acc,h.vote⟩
instance {p:Prop}[Decidable p]{a b:MS δ}[ha:OkR K a][hb:OkR K b]:OkR K (if p then a else b):=by split;exact ha;exact hb
instance {f:MS δ→MS δ}{t:Int}{m:MsgT}[h:OkR K s][hf:OkR K (f s)]:OkR K (kB K f s t m):=by
 unfold kB;split
 · exact hf
 · exact⟨h.e,h.id,h.view,h.own,h.mir,h.book,h.last,h.acc,h.vote⟩
instance [h:OkR K s](t:Int)(m:MsgT):OkR K (yV K s t m):=inferInstanceAs (OkR K (iL K s _))
instance [h:OkR K s](r:RecT):OkR K (dR K s r):=⟨K.sure _ _ h.e (yp r),h.id,h.view,h.own,h.mir,h.book,h.last,h.acc,h.vote⟩
instance [h:OkR K s](a b c:Int):OkR K (dw s a b c):=⟨h.e,h.id,h.view,h.own,h.mir,h.book,h.last,h.acc,h.vote⟩
instance [h:OkR K s]:OkR K (opsS s):=⟨h.e,h.id,h.view,h.own,h.mir,h.book,h.last,h.acc,h.vote⟩
instance [h:OkR K s](f:Int):OkR K (keptM s f):=⟨h.e,h.id,h.view,h.own,h.mir,h.book,h.last,h.acc,h.vote⟩
instance [h:OkR K s]:OkR K (lB s):=⟨h.e,h.id,h.view,h.own,h.mir,h.book,h.last,h.acc,h.vote⟩
theorem Ac{b:BookT}{w:Int}{x:RowT}(h: ∀(i:Nat) (h:i<5),OkRow b.rows[i])(hx:OkRow x): ∀(i:Nat) (h:i<5),OkRow (dF b w x).1.rows[i]:=by
 unfold dF;split
 · unfold xN
   split
   · exact ou (p:=OkRow) (cZ (by assumption)) h hx
   · exact h
 · exact h
instance OkR.merge[h:OkR K s](w:Int)(x:RowT)[hx:OkRow x]:OkR K (yC s w x):=⟨h.e,h.id,h.view,h.own,h.mir,Ac h.book hx,h.last,h.acc,h.vote⟩
instance [h:OkR K s]:OkR K (gR s):=⟨h.e,h.id,h.view,h.own,h.mir,Ac h.book h.own,h.last,h.acc,h.vote⟩
theorem FM{b:MirT}{w:Int}{x:RowT}(h: ∀(i:Nat) (h:i<5),OkRow b.rows[i])(hx:OkRow x): ∀(i:Nat) (h:i<5),OkRow (iH b w x).1.rows[i]:=by
 unfold iH;split
 · unfold sD
   split
   · exact ou (p:=OkRow) (cZ (by assumption)) h hx
   · exact h
 · exact h
instance [h:OkR K s](w:Int)(x:RowT)[hx:OkRow x]:OkR K (il s w x):=⟨h.e,h.id,h.view,h.own,FM h.mir hx,h.book,h.last,h.acc,h.vote⟩
instance [h:OkR K s](w:Int):OkR K (lc s w):=⟨h.e,h.id,h.view,h.own,λi hi=>by
 show OkRow (jk s.mirror w).rows[i]
 unfold jk;split<;>exact h.mir i hi,h.book,h.last,h.acc,h.vote⟩
instance [h:OkR K s](x:RowT)[hx:OkRow x](op:Int):OkR K (pZ s x op):=⟨h.e,h.id,h.view,hx,h.mir,h.book,h.last,h.acc,h.vote⟩
instance [OkR K s]:OkR K (eX K s):=inferInstanceAs (OkR K (iL K s _))
instance [OkR K s](y:RowT):OkR K (j6 K s y):=inferInstanceAs (OkR K (iL K s _))
instance [OkR K s](v:ViewT):OkR K (lj K s v):=inferInstanceAs (OkR K (iL K s _))
instance [OkR K s](m:MsgT):OkR K (iY K s m):=inferInstanceAs (OkR K (iL K s _))
instance [OkR K s](x:RowT)[OkRow x](op:Int):OkR K (dI K s x op).1:=by unfold dI;split<;>exact inferInstance
instance [h:OkR K s]:OkR K (lm K s):=by
 unfold lm;split
 · exact h
 split
 · exact inferInstance
 · exact h
instance [OkR K s]:OkR K (kI K s):=by unfold kI;exact inferInstance
instance [h:OkR K s](f:Int)(m:MsgT):OkR K (du K s f m):=by
 unfold du
 repeat' split
 all_goals exact inferInstance
instance [h:OkR K s](f:Int)(m:MsgT)[OkMg m]:OkR K (gI K s f m):=by
 unfold gI
 repeat' split
 all_goals exact inferInstance
theorem L2{v:Vector RowT 5}{w:Int}{x:RowT}(h: ∀(i:Nat) (h:i<5),OkRow v[i])(hx:OkRow x): ∀(i:Nat) (h:i<5),OkRow (uO v w x)[i]:=by
 unfold uO;split
 · exact ou (p:=OkRow) (cZ (by assumption)) h hx
 · exact h
instance [h:OkR K s](w:Int)(x:RowT)[hx:OkRow x]:OkR K (mG s w x):=⟨h.e,h.id,h.view,h.own,h.mir,h.book,by
 show ∀(i:Nat) (h:i<5),OkRow (if kp s w=0∨(lastAt s w).version<x.version then uO s.last w x else s.last)[i];split
 · exact L2 h.last hx
 · exact h.last,h.acc,h.vote⟩
instance [OkR K s](f w:Int)(y:RowT)[OkRow y]:OkR K (toldS s f w y):=by
 have h:OkR K (mG s w y):=inferInstance;exact⟨h.e,h.id,h.view,h.own,h.mir,h.book,h.last,h.acc,h.vote⟩
instance [h:OkR K s](f:Int)(m:MsgT)[OkMg m]:OkR K (dB K s f m):=by unfold dB;split<;>exact inferInstance
theorem xy[OkR K s]{f:MS δ→MS δ}(hf:OkR K (f s))(t:Int)(m:MsgT):OkR K (kB K f s t m):=by unfold kB;split;exact hf;exact inferInstance
instance [h:OkR K s](f w:Int):OkR K (eC K s f w):=by
 unfold eC
 repeat' split
 · exact h
 · exact xy inferInstance _ _
 · exact inferInstance
 · exact xy inferInstance _ _
instance [h:OkR K s](i w:Int):OkR K (gG K s i w):=by
 unfold gG;split
 · exact h
 · exact xy inferInstance _ _
instance [OkR K s](i:Int):OkR K (ma K s i):=by unfold ma;exact inferInstance
theorem vn: ∀(l:List Int) (s:MS δ),OkR K s→OkR K (gi K l s)
 | [],_,h=>h
 |i::l,s,h=>vn l (ma K s i) inferInstance
instance [h:OkR K s]:OkR K (n5 K s):=vn _ _ h
theorem P0(n:Int)(h:wU n):WF ({AccT.zero with epoch:=n}:AccT).flat:=λk hk=>by
 have q:k∈[n,0,0,0,0,0,0,0]:=hk;simp only[bU,List.not_mem_nil,or_false,or_self]at q;rcases q with rfl|rfl
 · exact nG h
 · decide
instance [h:OkR K s](v:ViewT)[hv:OkVw v]:OkR K (lO s v):=⟨h.e,h.id,hv,h.own,h.mir,h.book,h.last,P0 _ (zB (hv.wf _ (by simp[ViewT.flat]))),λ_ e=>nomatch e⟩
instance [h:OkR K s](v:ViewT)[OkVw v]:OkR K (gz K s v):=by
 unfold gz
 repeat' split
 all_goals exact inferInstance
instance [h:OkR K s](f:Int)(m:MsgT)[OkMg m]:OkR K (iK K s f m):=by unfold iK;exact inferInstance
instance [h:OkR K s](c:ChangeT):OkR K (jd K s c):=by
 unfold jd
 repeat' split
 all_goals exact inferInstance
class OkAc(a:AccT):Prop where wf:WF a.flat
instance [h:OkR K s]:OkAc s.acc:=⟨h.acc⟩
theorem oR{a b:List Int}(h:WF (a++b)):WF a:=λn hn=>h n (List.mem_append_left _ hn)
theorem uG{a b:List Int}(h:WF (a++b)):WF b:=λn hn=>h n (List.mem_append_right _ hn)
theorem OkAc.vow{a:AccT}(h:OkAc a):WF a.vow.flat:=uG (oR (oR h.wf))
theorem OkAc.had{a:AccT}(h:OkAc a):WF a.had.flat:=uG (oR h.wf)
theorem OkAc.change{a:AccT}(h:OkAc a):WF a.change.flat:=uG h.wf
theorem OkAc.epoch{a:AccT}(h:OkAc a):WF [a.epoch]:=oR (oR (oR h.wf))
theorem OkAc.ask{a:AccT}(h:OkAc a){ep:Int}{b:BallotT}(hb:WF b.flat):OkAc (cb a ep b).1:=by
 unfold cb;split
 · exact h
 · exact⟨mT (mT (mT h.epoch hb) h.had) h.change⟩
theorem OkAc.put{a:AccT}(h:OkAc a){ep:Int}{b:BallotT}{c:ChangeT}(hb:WF b.flat)(hc:WF c.flat):OkAc (ib a ep b c).1:=by
 unfold ib;split
 · exact h
 · exact⟨mT (mT (mT h.epoch hb) hb) hc⟩
instance [h:OkR K s](n:Int):OkR K (dC s n):=⟨h.e,h.id,h.view,h.own,h.mir,h.book,h.last,h.acc,h.vote⟩
instance [h:OkR K s](v:VoteT)[hv:OkVt v]:OkR K (lh s v):=⟨h.e,h.id,h.view,h.own,h.mir,h.book,h.last,h.acc,λ_ e=>bJ e▸hv⟩
instance [h:OkR K s](a:AccT)[ha:OkAc a]:OkR K (ux s a):=⟨h.e,h.id,h.view,h.own,h.mir,h.book,h.last,ha.wf,h.vote⟩
instance {v:VoteT}[h:OkVt v]{m:MsgT}[hm:OkMg m](w:Int):OkVt (fi v w m.ballot m.had m.change).1:=by
 unfold fi;split
 · exact h
 · unfold w7
   split
   · exact⟨h.view,h.ballot,hm.change,hm.had⟩
   · exact⟨h.view,h.ballot,h.change,h.best⟩
instance {v:VoteT}[h:OkVt v](w:Int)(b:BallotT):OkVt (ia v w b).1:=by
 unfold ia;split
 · exact h
 · exact⟨h.view,h.ballot,h.change,h.best⟩
instance {m:MsgT}[hm:OkMg m][h:OkR K s](ep:Int):OkAc (cb s.acc ep m.ballot).1:=OkAc.ask ⟨h.acc⟩ hm.ballot
instance {m:MsgT}[hm:OkMg m][h:OkR K s](ep:Int):OkAc (ib s.acc ep m.ballot m.change).1:=OkAc.put ⟨h.acc⟩ hm.ballot hm.change
instance tookF_ok[h:OkR K s](f:Int)(m:MsgT):OkR K (kj K f m s):=by
 unfold kj;split
 · exact h
 · rename_i vt hv
   have:=h.vote vt hv;split<;>exact inferInstance
theorem tc[h:OkR K s]{f:MS δ→MS δ}(hf: ∀s:MS δ,OkR K s→OkR K (f s))(w:Int)(m:MsgT):OkR K (eB K f s w m):=by
 unfold eB
 repeat' split
 · exact inferInstance
 · exact h
 · exact h
 · exact hf _ inferInstance
instance [OkR K s](w:Int)(m:MsgT):OkR K (mU K s w m):=tc (λ_ _=>inferInstance) w m
instance [h:OkR K s](w:Int)(m:MsgT):OkR K (jG K w m s):=by unfold jG;exact inferInstance
instance [h:OkR K s](w:Int)(m:MsgT)[OkMg m]:OkR K (mx K w m s):=by
 unfold mx
 repeat' split
 all_goals exact inferInstance
instance [OkR K s](w:Int)(m:MsgT)[OkMg m]:OkR K (nM K s w m):=tc (λ_ _=>inferInstance) w m
instance OkMg.putM(ep:Int){vt:VoteT}[h:OkVt vt]:OkMg (iW ep vt.ballot vt.change):=⟨.zero, .zero,h.ballot,iA,h.change⟩
instance OkMg.askM(ep:Int){vt:VoteT}[h:OkVt vt]:OkMg (fK ep vt.ballot):=⟨.zero, .zero,h.ballot,iA,p9⟩
instance OkMg.takenM(ep:Int){m:MsgT}[h:OkMg m]:OkMg (ji ep m.ballot):=⟨.zero, .zero,h.ballot,iA,p9⟩
theorem OkMg.promM(ep:Int){m:MsgT}[h:OkMg m]{a:AccT}(ha:OkAc a):OkMg (ka ep m.ballot a.had a.change):=⟨.zero, .zero,h.ballot,ha.had,ha.change⟩
theorem vL[h:OkR K s]{f:MS δ→MsgT→MS δ}{m:MsgT}(hf: ∀s:MS δ,OkR K s→OkR K (f s m)):OkR K (gY K f s m):=by
 unfold gY;split
 · exact hf _ inferInstance
 · exact inferInstance
instance [h:OkR K s](vt:VoteT)[OkVt vt]:OkR K (iM K s vt):=vL λ_ _=>inferInstance
instance [h:OkR K s](f:Int)(m:MsgT)[OkMg m]:OkR K (oi K f m s):=by
 unfold oi;split
 · exact h
 · rename_i vt hv
   have:=h.vote vt hv;split<;>exact inferInstance
instance [OkR K s](w:Int)(m:MsgT)[OkMg m]:OkR K (mV K s w m):=tc (λ_ _=>inferInstance) w m
theorem yE[h:OkR K s](w:Int)(m:MsgT)[OkMg m]{a:AccT}(ha:OkAc a):OkR K (jU K w m a s):=by
 have:=OkMg.promM m.epoch (m:=m) ha;unfold jU;exact inferInstance
instance [h:OkR K s](w:Int)(m:MsgT)[OkMg m]:OkR K (nc K w m s):=by
 unfold nc
 repeat' split
 · exact h
 · exact inferInstance
 · exact yE w m inferInstance
 · exact yE w m inferInstance
instance [OkR K s](w:Int)(m:MsgT)[OkMg m]:OkR K (nN K s w m):=tc (λ_ _=>inferInstance) w m
instance [h:OkR K s](vt:VoteT)[OkVt vt]:OkR K (jH K s vt):=vL λ_ _=>inferInstance
instance [h:OkR K s](vt:VoteT)[OkVt vt]:OkR K (lK K s vt):=by unfold lK;split<;>exact inferInstance
theorem EZ{v:VoteT}{w:Int}{b had:BallotT}{c:ChangeT}(h:(fi v w b had c).2=true):(fi v w b had c).1.putting=true:=by
 unfold fi at h ⊢;split
 · rename_i q;rw[if_pos q]at h;cases h
 · rename_i q;rw[if_neg q]at h;exact h
theorem Jl(s:MS δ)[h:OkR K s]:WF (cY s).flat:=KY (ot _) (by have:0≤s.id∧s.id<5:=of_decide_eq_true h.id;exact⟨by show _≤s.id;omega,by show s.id<_;omega⟩)
class OkCh(c:ChangeT):Prop where wf:WF c.flat
instance newVote_ok[h:OkR K s](c:ChangeT)[hc:OkCh c]:OkVt (ju s.view (cY s) c):=⟨h.view,Jl s,hc.wf,iA⟩
instance {vt:VoteT}[h:OkVt vt]:OkCh vt.change:=⟨h.change⟩
instance [h:OkR K s](c:ChangeT)[OkCh c]:OkR K (m3 K s c):=by
 have:OkAc (cb s.acc s.view.epoch (cY s)).1:=OkAc.ask ⟨h.acc⟩ (Jl s);unfold m3;exact inferInstance
instance [h:OkR K s](c:ChangeT)[OkCh c]:OkR K (bN K s c).1:=by
 unfold bN
 repeat' split
 all_goals exact inferInstance
theorem sN{c:ChangeT}(h:(bN K s c).2=0):(bN K s c).1.vote=some (ju s.view (cY s) c):=by
 unfold bN at h ⊢
 by_cases h1:(cb s.acc s.view.epoch (cY s)).2=false
 · rw[if_pos h1]at h;cases h
 by_cases h2:mA K s (gd s.view.epoch (cY s))≠0
 · rw[if_neg h1,if_pos h2]at h;exact absurd h h2
 · rw[if_neg h1,if_neg h2];rfl
instance [h:OkR K s](op:Int)(c:ChangeT)[OkCh c]:OkR K (dv K s op c).1:=by
 unfold dv
 repeat' split
 all_goals exact inferInstance
instance [h:OkR K s](o:OpT):OkR K (ly K s o).1:=by
 unfold ly
 repeat' split
 all_goals exact inferInstance
instance [h:OkR K s](o:OpT)[OkCh o.change]:OkR K (bL K s o).1:=by unfold bL;split<;>exact inferInstance
instance [h:OkR K s]:OkR K (bO K s):=by unfold bO;exact inferInstance
instance [h:OkR K s]:OkR K (ca K s):=by unfold ca;exact inferInstance
instance [h:OkR K s]:OkR K (fz K s):=by unfold fz;exact inferInstance
instance [h:OkR K s]:OkR K (pV K s):=by
 unfold pV;split
 · exact h
 · rename_i vt hv
   have:=h.vote vt hv
   repeat' split
   all_goals exact inferInstance
instance [h:OkR K s]:OkR K (gS K s):=by unfold gS;exact inferInstance
instance [h:OkR K s](f:Int)(m:MsgT)[OkMg m]:OkR K (fM K s f m):=by
 unfold fM
 repeat' split
 all_goals exact inferInstance
theorem jr(s:MS δ)(c:ChangeT):(bN K s c).1.replies=s.replies:=by
 unfold bN;split
 · rfl
 · split<;>rfl
theorem kb(s:MS δ)(x:RowT)(op:Int):(dI K s x op).1.replies=s.replies:=by unfold dI;split<;>rfl
end
end Api
end

section
namespace Leg
open Go Codec Api Go.Conc
section
variable {P:Program} {w0:World} {F:Hl} {n:Nat} {ops:Array Oper} {Q:QQ} {is:List Nat} {D:List Deferred} {L:List (Nat×Value)} {H:List HP} {i d:Nat} {o:Oper}
theorem TX.recv1{x:Operand}{t e:TypeId}{dir:ChanDir}{c cap s r:Nat}{z v:Value}{vs vs0:List Value}(k:Nat)(ho:ops[i]?=some o)(hw:Want n D ops o L)(hop:o.op= .recv t x false)(hd:o.dst=some d)(hn:Nat.blt d n=true)(ht:P.underlying t=some (.chan dir e))(hz:(P.info? e).map (·.zero)=some (some z))
 (hx:cR L x=some (.chan (some c))) (hk:Nat.blt k H.length=true) (hH:H.getD k (λ_=>True)=eF c cap vs0 s r) (he:vs0=v::vs)
 (h:TX P w0 F n ops Q is D ((d,v)::L) (H.set k (eF c cap vs s (r+1)))):TX P w0 F n ops Q (i::is) D L H:=λa w f sm m=>by
 subst he;have hc:=m.chan k hk hH
 have hr:(execOp a.eval o).run P w= .ok (.comm #[{chan:= .chan (some c),send:=none,zero:=z}] true (.recv false)) w:=by
  simp[execOp,hop,f.eval hx,Sem.run_bind,run_underlying ht,oY hz]
 refine Ow (v:=v) (w2:=w.setChan c cap vs.toArray false s (r+1) false) ho (hw a f) hr (λfr cs es hs=>?_) ?_
 · have:=step_lone_recv_buf false hs hc (by simp)
   rw[this];simp[got]
 · rw[hd]
   exact h _ _ (f.put (lb hn) _) (sm.setChan ..) (m.setChan k hk hH)
theorem TX.send1{x y:Operand}{c cap s r:Nat}{v:Value}{vs:List Value}(k:Nat)(ho:ops[i]?=some o)(hw:Want n D ops o L)(hop:o.op= .send x y)(hd:o.dst=none)
 (hx:cR L x=some (.chan (some c))) (hy:cR L y=some v) (hk:Nat.blt k H.length=true) (hH:H.getD k (λ_=>True)=eF c cap vs s r) (hroom:vs.length<cap)
 (h:TX P w0 F n ops Q is D L (H.set k (eF c cap (vs++[v]) (s+1) r))):TX P w0 F n ops Q (i::is) D L H:=λa w f sm m=>by
 have hc:=m.chan k hk hH
 have hr:(execOp a.eval o).run P w= .ok (.comm #[{chan:= .chan (some c),send:=some v,zero:= .tuple #[]}] true .send) w:=by
  simp[execOp,hop,f.eval hx,f.eval hy,Sem.run]
 refine Ow (v:=undef) (w2:=w.setChan c cap (vs++[v]).toArray false (s+1) r false) ho (hw a f) hr (λfr cs es hs=>?_) ?_
 · have:=step_lone_send_room hs hc (by simpa using hroom)
   rw[this];simp
 · rw[hd]
   exact h _ _ f (sm.setChan ..) (m.setChan k hk hH)
end
def D8(k:Nat)(u:Value):Value:=if k=0 then .slice none 0 0 else u
theorem JG{α:Type}{l:List α}{k:Nat}(h:k<l.length):l.drop k++l.take k=l[k]::(l.drop (k+1)++l.take k):=by rw[dP h];rfl
theorem Ds{α:Type}{l:List α}{k:Nat}(h:k<l.length):(l.drop (k+1)++l.take k)++[l[k]]=l.drop (k+1)++l.take (k+1):=by rw[aG,bZ h]
end Leg
namespace Leg
open Go
theorem Kx{us:List Value}{k:Nat}(h:k=0)(hk:k<us.length):us[k]=D8 (k+1) (us.getD 0 undef):=by
 subst h;unfold D8;rw[if_neg (by omega)];simp[List.getD_eq_getElem?_getD,hk]
theorem Kv{u:Value}{k:Nat}(h: ¬k=0):D8 k u=D8 (k+1) u:=by unfold D8;rw[if_neg h,if_neg (by omega)]
theorem Kw{u:Value}{k:Nat}(h: ¬k=0):D8 k u=u:=if_neg h
end Leg
namespace Leg
open Go
def tj{α:Type}:List α→List α
 | []=>[]
 |a::l=>l++[a]
def I5{α:Type}(l:List α):Bool:=decide (l.length≠0∧l.length≠8)
def ER{α:Type}[Inhabited α](l:List α):List α:=if l.length≠0∧l.length≠8 then l++[l.getD 0 default]else l
end Leg
namespace Leg
open Go
def jD{α:Type}:Nat→List α→List α
 |0,l=>l
 |n+1,l=>tj (jD n l)
theorem Hs{α:Type}(l:List α):(tj l).length=l.length:=by cases l<;>simp[tj]
theorem kW{α:Type}: ∀(n:Nat) (l:List α),(jD n l).length=l.length
 |0,_=>rfl
 |n+1,l=>by rw[jD,Hs,kW n l]
theorem Hr{α:Type}{l:List α}{x:α}:x∈tj l↔x∈l:=by
 cases l with
 |nil=>rfl
 |cons a l=>simp[tj,or_comm]
theorem pq{α:Type}{x:α}: ∀(n:Nat) (l:List α),x∈jD n l↔x∈l
 |0,_=>Iff.rfl
 |n+1,l=>by rw[jD,Hr,pq n l]
theorem zF{α β:Type}(f:α→β)(l:List α):tj (l.map f)=(tj l).map f:=by cases l<;>simp[tj]
theorem LH{α β:Type}[Inhabited α][Inhabited β](f:α→β)(l:List α):ER (l.map f)=(ER l).map f:=by
 unfold ER;rw[cn];split
 · rename_i h
   cases l with
   |nil=>exact absurd rfl h.1
   |cons a l=>simp
 · rfl
theorem LI{α β:Type}(f:α→β)(l:List α):I5 (l.map f)=I5 l:=by unfold I5;rw[cn]
end Leg
end

section
namespace Api
open Go Leg Codec Dsk Wal
instance :Inhabited MsgT:=⟨.zero⟩
structure LD where
 cnt:Nat
 used:Int
 D:DS
structure DkOk(D:DS):Prop where
 ok:D.Ok
 inn:Wal.DS.In D
 ws:D.ws.length≤2048
 up:D.dn=false→D.ws=[]
def Wrote(D:DS)(n:Nat)(r:Int×DS):Prop:=r.2.Ok∧Wal.DS.In r.2∧((D.dn=true∧r.2=D)∨(D.dn=false∧r.2.ws.length≤D.ws.length+n∧(r.1=0→r.2.dn=false)∧(r.1≠0→r.2.dn=true)))
theorem Wrote.none{D:DS}(h:D.Ok)(hi:Wal.DS.In D):Wrote D 0 (0,D):=⟨h,hi,by
 cases hd:D.dn
 · exact .inr ⟨rfl,aK _,λ_=>by first|exact hd|rfl,λq=>absurd rfl q⟩
 · exact .inl ⟨rfl,rfl⟩⟩
theorem Wrote.more{D:DS}{n m:Nat}{r:Int×DS}(h:Wrote D n r)(hm:n≤m):Wrote D m r:=⟨h.1,h.2.1,h.2.2.imp id λ⟨a,b,c⟩=>⟨a,by omega,c⟩⟩
theorem Wrote.one{D:DS}(h:D.Ok)(hi:Wal.DS.In D){at':Int}{bs:List UInt8}(h1:0≤at'∧at'<2048)(h2:bs.length≤64):Wrote D 1 (D.write at' bs):=by
 cases hd:D.dn
 · by_cases hc:D.ar=true∧D.lf=0
   · rw[wW h1 h2 hc]
     exact⟨⟨h.s,h.ws,h.lf⟩,hi, .inr ⟨hd,Nat.le_succ _,(λq=>absurd q (by show ¬(4:Int)=0;decide)),λ_=>rfl⟩⟩
   · have h4:D.ar=false∨0<D.lf:=by
      have:=h.lf;cases q:D.ar
      · exact .inl rfl
      · right
        have:D.lf≠0:=λe=>hc ⟨q,e⟩
        omega
     rw[r9 h1 h2 hd h4];exact⟨Bu h h2 h4,Bv hi h1, .inr ⟨hd,by simp[Bw],λ_=>rfl,λq=>absurd rfl q⟩⟩
 · have e:D.write at' bs=(4,D):=by
    rw[DS.write,if_neg (by omega),if_pos (.inl hd)];cases D;simp only at hd;rw[hd]
   rw[e];exact⟨h,hi, .inl ⟨hd,rfl⟩⟩
theorem Wrote.then{D:DS}{n m:Nat}{r q:Int×DS}(h:Wrote D n r)(h0:r.1=0)(g:Wrote r.2 m q):Wrote D (n+m) q:=by
 obtain⟨_,_,h⟩:=h;refine⟨g.1,g.2.1,?_⟩;rcases h with⟨hd,e⟩| ⟨hd,hl,hz,_⟩
 · rw[e]at g
   rcases g.2.2 with⟨_,e2⟩| ⟨hd2,_⟩
   · exact .inl ⟨hd,e2⟩
   · rw[hd]at hd2;cases hd2
 · rcases g.2.2 with⟨hd2,_⟩| ⟨_,hl2,h3⟩
   · rw[hz h0]at hd2;cases hd2
   · exact .inr ⟨hd,by omega,h3⟩
theorem Wrote.writes: ∀(ss:List jz) (at':Int) (D:DS),D.Ok→Wal.DS.In D→0≤at'→at'+ss.length≤2048→(∀s∈ss,s.length=64)→Wrote D ss.length (gQ ss at' D)
 | [],_,D,h,hi,_,_,_=>Wrote.none h hi
 |s::ss,at',D,h,hi,h0,h1,hs=>by
  simp only[av]at h1;have h2:=hs s (by simp);have o:=Wrote.one h hi (at':=at') (bs:=s) (by omega) (by omega);rw[gQ];split
  · rename_i hz
    have:=o.then hz (Wrote.writes ss (at'+1) _ o.1 o.2.1 (by omega) (by omega) λx hx=>hs x (by simp[hx]))
    rwa [m6]at this
  · exact o.more (by simp)
theorem Wrote.wipes: ∀(n:Nat) (at':Int) (D:DS),D.Ok→Wal.DS.In D→0≤at'→at'+n≤2048→Wrote D n (ki n at' D)
 |0,_,D,h,hi,_,_=>Wrote.none h hi
 |n+1,at',D,h,hi,h0,h1=>by
  rw[ki];split
  · exact(Wrote.wipes n (at'+1) D h hi (by omega) (by omega)).more (by omega)
  · have o:=Wrote.one h hi (at':=at') (bs:=[]) (by omega) (by simp)
    split
    · rename_i hz
      have:=o.then hz (Wrote.wipes n (at'+1) _ o.1 o.2.1 (by omega) (by omega))
      rwa [m6]at this
    · exact o.more (by omega)
theorem DkOk.wrote{D:DS}(h:DkOk D){n:Nat}{r:Int×DS}(g:Wrote D n r)(hn:n≤2048):(r.1≠0→DkOk r.2)∧DkOk r.2.sync.2:=by
 obtain⟨ho,hi,hr⟩:=g;rcases hr with⟨hd,e⟩| ⟨hd,hl,h0,h1⟩
 · rw[e]
   refine⟨λ_=>h,?_⟩;rw[DS.sync,if_pos hd];exact h
 · rw[h.up hd]at hl
   simp only[az,bm]at hl;refine⟨λq=>⟨ho,hi,by omega,λz=>by rw[h1 q]at z;cases z⟩,?_⟩
   by_cases q:r.1=0
   · obtain⟨_,s2,_⟩:=rq (h0 q)
     exact⟨DS.sync_ok ho,A9 hi,by rw[s2];exact aP _,λ_=>s2⟩
   · rw[DS.sync,if_pos (h1 q)]
     exact⟨ho,hi,by show r.2.ws.length≤2048;omega,λz=>by rw[show r.2.dn=true from h1 q]at z;cases z⟩
theorem xC{D:DS}(hI:Wal.DS.In D)(hD:D.Ok): ∀(f:Nat) (cnt used:Int),0≤used→used≤2048→0≤(gJ D.read f cnt used).2∧(gJ D.read f cnt used).2≤2048∧(gJ D.read f cnt used).1.length≤f
 |0,_,_,h0,h1=>⟨h0,h1,aK _⟩
 |f+1,cnt,used,h0,h1=>by
  rw[gJ];split
  · exact⟨h0,h1,aP _⟩
  · rename_i b all h
    have h2:=pw hI hD h0 h;have h3:=(mg (mR hD _) h).1;obtain⟨a,b',c⟩:=xC hI hD f (cnt+1) (used+all) (by omega) h2;exact⟨a,b',by simp only[av];omega⟩
theorem DkOk.open{D:DS}(h:DkOk D):DkOk (bY D).D∧0≤(bY D).used∧(bY D).used≤2048∧(bY D).recs.length≤2049:=by
 obtain⟨a,b,c⟩:=xC h.inn h.ok jO 0 0 (by omega) (by omega);rw[ua]at c;have w:=h.wrote (Wrote.wipes (2048- (gJ D.read jO 0 0).2).toNat _ D h.ok h.inn a (by omega)) (by omega);unfold bY;simp only;split
 · rename_i q;exact⟨w.1 q,by show(0:Int)≤0;omega,by show(0:Int)≤2048;omega,aP _⟩
 · split
   · exact⟨w.2,by show(0:Int)≤0;omega,by show(0:Int)≤2048;omega,aP _⟩
   · exact⟨w.2,a,b,by rw[←ua]at c;exact c⟩
theorem DkOk.arm{D:DS}(h:DkOk D)(n:Int)(hn:n≤9223372036854775807):DkOk (D.arm n):=⟨⟨h.ok.s,h.ok.ws,by show 0≤max n 0∧max n 0≤9223372036854775807;omega⟩,h.inn,h.ws,h.up⟩
theorem DkOk.crash{D:DS}(h:DkOk D)(mask torn cut:Int):DkOk (D.crash mask torn cut):=by
 have c:=Calm.crash h.ok h.inn mask torn cut;exact⟨c.ok,c.inn,aP _,λ_=>rfl⟩
theorem DkOk.new:DkOk .new:=⟨⟨nB,nB,by simp[DS.new],by simp[DS.new]⟩,⟨RY,RY⟩,aP _,λ_=>rfl⟩
structure LD.Ok(e:LD):Prop where
 dk:DkOk e.D
 used:0≤e.used∧e.used≤2048
 cnt:(e.cnt:Int)≤4100+e.used
def LD.put(e:LD)(bs:List UInt8):LD×Int:=(⟨(mz e.D e.cnt e.used bs).cnt,(mz e.D e.cnt e.used bs).used,(mz e.D e.cnt e.used bs).D⟩,(mz e.D e.cnt e.used bs).err)
theorem LD.put_ok(e:LD)(bs:List UInt8)(h:e.Ok)(hb:bs.length≤3000):(e.put bs).1.Ok:=by
 obtain⟨⟨ho,hi,hw,hu⟩,h1,h2⟩:=h;unfold LD.put mz;rw[if_neg (by omega)]
 by_cases hf:(br bs.length:Int)>2048-e.used
 · rw[if_pos hf];exact⟨⟨ho,hi,hw,hu⟩,h1,h2⟩
 rw[if_neg hf];have hp:0<br bs.length:=qI _;have hl:(cq ((e.cnt+1:Nat):Int) bs).length=br bs.length:=dY _ _;have w:=DkOk.wrote ⟨ho,hi,hw,hu⟩ (Wrote.writes (cq ((e.cnt+1:Nat):Int) bs) e.used e.D ho hi h1.1 (by omega) (tE _ _)) (by omega);simp only;split
 · rename_i q;exact⟨w.1 q,h1,h2⟩
 · split
   · exact⟨w.2,h1,h2⟩
   · exact⟨w.2,(by show 0≤e.used+(br bs.length:Int)∧e.used+(br bs.length:Int)≤2048;omega),by show((e.cnt+1:Nat):Int)≤4100+(e.used+br bs.length);omega⟩
def KD:Dk LD:=⟨LD.put,λe=>e.D.dn,LD.Ok,LD.put_ok⟩
structure Slot where
 run:Option (MS LD)
 D:DS
 past:List ReplyT
structure CL where
 ms:List Slot
 W:List (List MsgT)
def Slot.nil:Slot:=⟨none, .new,[]⟩
def CL.at'(a:CL)(i:Nat):Slot:=a.ms.getD i .nil
def Slot.dk(x:Slot):DS:=match x.run with
 |some s=>s.e.D
 |none=>x.D
def Slot.reps(x:Slot):List ReplyT:=x.past++(match x.run with
 |some s=>s.replies
 |none=>[])
def Slot.up(x:Slot):Bool:=match x.run with
 |some s=> !s.e.D.dn
 |none=>false
def CL.set(a:CL)(i:Nat)(x:Slot):CL:= {a with ms:=a.ms.set i x}
def qF(W:List (List MsgT))(f:Nat)(s:SaidT):List (List MsgT):=if dA ((f:Nat):Int) s.to' then W.set (bE ((f:Nat):Int) s.to') (if(W.getD (bE ((f:Nat):Int) s.to') []).length<8 then W.getD (bE ((f:Nat):Int) s.to') []++[s.msg]else W.getD (bE ((f:Nat):Int) s.to') [])else W
def gT(W:List (List MsgT))(f:Nat)(l:List SaidT):List (List MsgT):=l.foldl (λW s=>qF W f s) W
def MS.hush{δ:Type}(s:MS δ):MS δ:= {s with o:=[]}
def CL.did(a:CL)(i:Nat)(s:MS LD):CL:=⟨a.ms.set i {a.at' i with run:=some s.hush},gT a.W i s.o⟩
def MS.dsk(s:MS LD)(D:DS):MS LD:= {s with e:= {s.e with D:=D}}
def zi(x:Slot)(n:Int):Slot:=match x.run with
 |some s=> {x with run:=some (s.dsk (s.e.D.arm n))}
 |none=> {x with D:=x.D.arm n}
def oN(x:Slot)(mask torn cut:Int):Slot:=⟨none,x.dk.crash mask torn cut,x.reps⟩
def eg(i:Nat)(D:DS):Option (MS LD)×Int:=
 if(bY D).err≠0 then(none,(bY D).err)
 else match mw (bY D).recs (ww ((i:Nat):Int) (⟨(bY D).recs.length,(bY D).used,(bY D).D⟩:LD))with
  |none=>(none,1)
  |some s=>(some s,0)
def jE(i:Nat)(x:Slot):Slot×Int:=match x.run with
 |some _=>(x,5)
 |none=>({x with run:=(eg i x.D).1,D:=(bY x.D).D},(eg i x.D).2)
def pc(a:CL)(f t:Nat)(m:MsgT):CL×Int:=match(a.at' t).run with
 |none=>(a,0)
 |some s=>if s.e.D.dn then(a,0)else if(jx (cX m)).2=0 then(a.did t (fM KD s ((f:Nat):Int) (jx (cX m)).1),0)else(a,(jx (cX m)).2)
def CL.way(a:CL)(k:Nat)(l:List MsgT):CL:= {a with W:=a.W.set k l}
def oh(a:CL)(o:OpT):CL×Int:=
 if dA o.at' o.to'=false then(a,5)
 else match a.W.getD (bE o.at' o.to') []with
  | []=>(a,10)
  |m::l=>
   if o.kind=7 then(if I5 (m::l)then(a.way (bE o.at' o.to') (ER (m::l)),0)else(a,3))
   else match jD (max o.n 0% ((m::l).length:Int)).toNat (m::l)with
    | []=>(a,0)
    |m::l=>if o.kind=6 then(a.way (bE o.at' o.to') l,0)else pc (a.way (bE o.at' o.to') l) o.at'.toNat o.to'.toNat m
def yu(a:CL)(i:Nat)(o:OpT):CL×Int:=match(a.at' i).run with
 |none=>(a,4)
 |some s=>if s.e.D.dn then(a,4)else(a.did i (bL KD s o).1,(bL KD s o).2)
def Cx(a:CL)(i:Nat):CL×Int:=match(a.at' i).run with
 |none=>(a,4)
 |some s=>if s.e.D.dn then(a,4)else(a.did i (gS KD s),0)
def oM(a:CL)(o:OpT):CL×Int:=
 if hZ o.at'=false then(a,5)
 else if 0≤o.kind∧o.kind≤4 then yu a o.at'.toNat o
 else if o.kind=5∨o.kind=6∨o.kind=7 then oh a o
 else if o.kind=8 then Cx a o.at'.toNat
 else if o.kind=9 then(a.set o.at'.toNat (zi (a.at' o.at'.toNat) o.n),0)
 else if o.kind=10 then(a.set o.at'.toNat (oN (a.at' o.at'.toNat) o.mask o.torn o.cut),0)
 else if o.kind=11 then(a.set o.at'.toNat (jE o.at'.toNat (a.at' o.at'.toNat)).1,(jE o.at'.toNat (a.at' o.at'.toNat)).2)
 else(a,5)
def pE(i:Nat):Slot:=(jE i .nil).1
def CL.new:CL:=⟨(List.range 5).map pE,List.replicate 25 []⟩
structure Fresh{δ:Type}(i:Int)(e:δ)(s:MS δ):Prop where
 id:s.id=i
 vote:s.vote=none
 replies:s.replies=[]
 e:s.e=e
 o:s.o=[]
 waits:s.waits=0
 ops:s.ops=0
theorem Fresh.rest{δ:Type}{i:Int}{e:δ}{s:MS δ}(h:Fresh i e s)(m:RecT):Fresh i e (km s m):=by
 obtain⟨h1,h2,h3,h4,h5,h6,h7⟩:=h;unfold km
 repeat' split
 all_goals exact⟨h1,by first|exact h2|rfl,h3,h4,h5,h6,h7⟩
theorem Fresh.new{δ:Type}(i:Int)(e:δ):Fresh i e (ww i e):=⟨rfl,rfl,rfl,rfl,rfl,rfl,rfl⟩
theorem Fresh.read{δ:Type}{i:Int}{e:δ}: ∀(l:List (List UInt8)) {s s':MS δ},Fresh i e s→mw l s=some s'→Fresh i e s'
 | [],s,s',h,q=>by
  obtain rfl:=bJ q;exact h
 |b::l,s,s',h,q=>by
  rw[mw]at q;split at q
  · cases q
  · exact Fresh.read l (h.rest _) q
theorem vE{i:Nat}{D:DS}{s:MS LD}(h:(eg i D).1=some s):(bY D).err=0∧mw (bY D).recs (ww ((i:Nat):Int) (⟨(bY D).recs.length,(bY D).used,(bY D).D⟩:LD))=some s:=by
 unfold eg at h;split at h
 · cases h
 · rename_i h0
   refine⟨Decidable.not_not.1 h0,?_⟩;split at h
   · cases h
   · rename_i h2;rw[h2];exact h
theorem A2{v:ViewT}{bs r:List UInt8}(h:lV bs=some (v,r)):OkVw v:=by
 obtain⟨⟨h1,h2,_⟩,_⟩:=oU h;have hr:=td h;exact⟨hr,E4 ⟨by omega,by omega⟩ ⟨by omega,by omega⟩ hr⟩
theorem rD{b:BallotT}{bs r:List UInt8}(h:jw bs=some (b,r)):WF b.flat:=by
 obtain⟨⟨h1,h2⟩,_⟩:=jT h;exact OkB.wf ⟨h1,h2⟩
theorem Gg{c:ChangeT}{bs r:List UInt8}(h:kU bs=some (c,r)):WF c.flat:=by
 obtain⟨⟨h1,h2,h3⟩,_⟩:=oA h;exact OkC.wf ⟨h1,h2,h3⟩
theorem Fp{x:RowT}{bs r:List UInt8}(h:tK bs=some (x,r)):OkRow x:=OkRow.of (Bl h)
theorem N3{m:MsgT}{g:Bool}{bs r:List UInt8}(h:cL bs=some ((m,g),r)):OkMg m:=by
 obtain⟨k,r1,_,h⟩:=bp h
 have fin: ∀{m':MsgT} {g':Bool} {b r:List UInt8},pr (m',g') b=some ((m,g),r)→OkMg m'→OkMg m:=λh q=>by
  obtain⟨e,_⟩:=gy h;injection e with e1 e2
  exact e1▸q
 split at h
 · obtain⟨_,_,_,h⟩:=bp h;obtain⟨x,_,hx,h⟩:=bp h;exact fin h ⟨Fp hx, .zero,iA,iA,p9⟩
 split at h
 · obtain⟨_,_,_,h⟩:=bp h;exact fin h ⟨.zero, .zero,iA,iA,p9⟩
 split at h
 · obtain⟨_,_,_,h⟩:=bp h;obtain⟨b,_,hb,h⟩:=bp h;exact fin h ⟨.zero, .zero,rD hb,iA,p9⟩
 split at h
 · obtain⟨_,_,_,h⟩:=bp h;obtain⟨b,_,hb,h⟩:=bp h;obtain⟨d,_,hd,h⟩:=bp h;obtain⟨c,_,hc,h⟩:=bp h;exact fin h ⟨.zero, .zero,rD hb,rD hd,Gg hc⟩
 split at h
 · obtain⟨_,_,_,h⟩:=bp h;obtain⟨b,_,hb,h⟩:=bp h;obtain⟨c,_,hc,h⟩:=bp h;exact fin h ⟨.zero, .zero,rD hb,iA,Gg hc⟩
 split at h
 · obtain⟨v,_,hv,h⟩:=bp h;exact fin h ⟨.zero,A2 hv,iA,iA,p9⟩
 split at h
 · obtain⟨_,_,_,h⟩:=bp h;obtain⟨v,_,hv,h⟩:=bp h;exact fin h ⟨.zero,A2 hv,iA,iA,p9⟩
 · exact fin h ⟨.zero, .zero,iA,iA,p9⟩
class OkRd(m:RecT):Prop where
 row:OkRow m.row
 view:OkVw m.view
 ballot:WF m.ballot.flat
 change:WF m.change.flat
theorem ND{m:RecT}{g:Bool}{bs r:List UInt8}(h:dK bs=some ((m,g),r)):OkRd m:=by
 obtain⟨k,r1,_,h⟩:=bp h
 have fin: ∀{m':RecT} {g':Bool} {b r:List UInt8},pr (m',g') b=some ((m,g),r)→OkRd m'→OkRd m:=λh q=>by
  obtain⟨e,_⟩:=gy h;injection e with e1 e2
  exact e1▸q
 split at h
 · obtain⟨x,_,hx,h⟩:=bp h;exact fin h ⟨Fp hx, .zero,iA,p9⟩
 split at h
 · obtain⟨_,_,_,h⟩:=bp h;obtain⟨x,_,hx,h⟩:=bp h;exact fin h ⟨Fp hx, .zero,iA,p9⟩
 split at h
 · obtain⟨_,_,_,h⟩:=bp h;exact fin h ⟨.zero, .zero,iA,p9⟩
 split at h
 · obtain⟨_,_,_,h⟩:=bp h;obtain⟨b,_,hb,h⟩:=bp h;exact fin h ⟨.zero, .zero,rD hb,p9⟩
 split at h
 · obtain⟨_,_,_,h⟩:=bp h;obtain⟨b,_,hb,h⟩:=bp h;obtain⟨c,_,hc,h⟩:=bp h;exact fin h ⟨.zero, .zero,rD hb,Gg hc⟩
 split at h
 · obtain⟨v,_,hv,h⟩:=bp h;exact fin h ⟨.zero,A2 hv,iA,p9⟩
 · exact fin h ⟨.zero, .zero,iA,p9⟩
theorem G4(bs:List UInt8):OkMg (jx bs).1:=by
 unfold jx;split
 · rename_i m h;exact N3 h
 · exact⟨.zero, .zero,iA,iA,p9⟩
theorem My(bs:List UInt8):OkRd (pa bs).1:=by
 unfold pa;split
 · rename_i m h;exact ND h
 · exact⟨.zero, .zero,iA,p9⟩
section
variable {δ:Type} {K:Dk δ} {s:MS δ}
theorem L7(h:OkR K s)(m:RecT)(hm:OkRd m):OkR K (km s m):=by
 have ha:OkAc s.acc:=⟨h.acc⟩;unfold km;split
 · exact⟨h.e,h.id,h.view,hm.row,h.mir,h.book,h.last,h.acc,h.vote⟩
 split
 · have:=hm.row;exact inferInstance
 split
 · exact inferInstance
 split
 · exact⟨h.e,h.id,h.view,h.own,h.mir,h.book,h.last,mT (mT (mT ha.epoch hm.ballot) ha.had) ha.change,h.vote⟩
 split
 · exact⟨h.e,h.id,h.view,h.own,h.mir,h.book,h.last,mT (mT (mT ha.epoch hm.ballot) hm.ballot) hm.change,h.vote⟩
 split
 · have:=hm.view;exact inferInstance
 · exact h
theorem A3{v:Vector RowT 5}(h:v= #v[.zero, .zero, .zero, .zero, .zero])(i:Nat)(hi:i<5):OkRow v[i]:=by
 subst h
 match i,hi with
 |0,_|1,_|2,_|3,_|4,_=>exact OkRow.zero
theorem Mn{i:Int}{e:δ}(he:K.ok e)(hi:cI i=true):OkR K (ww i e):=
 ⟨he,hi, .first, .zero,A3 rfl,A3 rfl,A3 rfl,P0 _ (by decide),λ_ q=>nomatch q⟩
theorem Dv: ∀(l:List (List UInt8)) {s s':MS δ},OkR K s→mw l s=some s'→OkR K s'
 | [],s,s',h,q=>by
  obtain rfl:=bJ q;exact h
 |b::l,s,s',h,q=>by
  rw[mw]at q;split at q
  · cases q
  · exact Dv l (L7 h _ (My b)) q
theorem zJ{i:Nat}(hi:i<5){D:DS}(hD:DkOk D){s:MS LD}(h:(eg i D).1=some s):OkR KD s∧Fresh ((i:Nat):Int) (⟨(bY D).recs.length,(bY D).used,(bY D).D⟩:LD) s:=by
 obtain⟨_,h2⟩:=vE h;obtain⟨o1,o2,o3,o4⟩:=hD.open;exact⟨Dv _ (Mn (K:=KD) ⟨o1,⟨o2,o3⟩,by show(((bY D).recs.length:Nat):Int)≤4100+(bY D).used;omega⟩ (decide_eq_true ⟨by omega,by omega⟩)) h2,Fresh.read _ (Fresh.new _ _) h2⟩
end
end Api
end

section
namespace Go.Proofs.YtkhjnolhhidecaaGreatDoor
open Go Leg Codec Api Dsk Wal
theorem B8(b c s r:Nat)(us:List Value)(x:Value)(bs:List UInt8)(hb:bs.length≤1000000)(hroom:us.length<8):
 DT 99 #[(.pointer (some ⟨b,0,none⟩)),x] (IsW x bs) [aj b [(.chan (some c))] 169,eF c 8 (us) (s) (r)] (dG (λv H=>v= .bool true∧∃u,H=[aj b [(.chan (some c))] 169,eF c 8 (us++[u]) (s+1) r,cH u bs 5])):=by
 refine Leg.Does.body (vs:=[(.pointer (some ⟨b,0,none⟩)),x]) (n:=15) Tryz.func99 rfl rfl rfl (λw0 F hF=>?_);refine sr λ_ J1=>?_
 refine qh ?_;refine nx J1 ?_;refine aa λ_ J2=>?_
 refine sr λ_ J3=>?_
 refine mv ?_;refine tp (gU rfl rfl) ?_;refine tp (bc (r:=0) rfl EE rfl vB rfl rfl) ?_;refine tp (fL (v:=(.chan (some c))) rfl wD rfl rfl (fC 0 rfl rfl) rfl) ?_;refine nx J3 ?_;refine ac ?_;refine EJ (ab rfl) rfl rfl rfl fO kx (λv9=>?_);change TL _ _ _ _ _ _ _ _ _ [cH v9 ([]) 5,aj b [(.chan (some c))] 169,eF c 8 (us) (s) (r)];refine mv ?_;refine bX (k:=0) (news:=dX (bs)) (nn':=(bs:List UInt8).length) (xs':=dX (bs)) (ab rfl) rfl rfl rfl fO uD rfl rfl rfl rfl rfl rfl (λ_ _=>hF.src (λ_ h=>fD h)) (ff _) (by simp only[maxLen,az];omega) (by simp only[az];omega) (by simp) (ba _) (λv11 ov11=>?_);change TL _ _ _ _ _ _ _ _ _ [cH v11 (bs) 5,aj b [(.chan (some c))] 169,eF c 8 (us) (s) (r)];refine nx J2 ?_;refine aa λ_ J4=>?_
 refine zl ?_;change TX _ _ _ _ _ _ [0,1,2] _ _ _;refine TX.sendRoom 2 rfl (ab rfl) rfl rfl rfl Ou rfl rfl rfl rfl hroom ?_;change TX _ _ _ _ _ _ _ _ _ [cH v11 (bs) 5,aj b [(.chan (some c))] 169,eF c 8 (us++[v11]) (s+1) (r)];refine uz rfl (ab rfl) rfl rfl (mN (vs:=[(.int .i64 0),(.bool false)]) rfl rfl rfl) ?_;refine uz rfl (ab rfl) rfl rfl (P9 rfl rfl rfl) ?_;refine MP ?_;refine ad J4 ?_;refine am ?_;refine oj rfl ?_;refine sr λ_ J5=>?_
 refine qh ?_;refine nx J5 ?_;refine ah ?_;refine aI ?_;refine aE (dN _) (λ_ s=>ak [1,1,0] rfl s) ?_;refine aw rfl rfl ?_;exact⟨rfl,_,rfl⟩
theorem yB(b c s r:Nat)(us:List Value)(ls:List (List UInt8))(h8:ls.length≤8)(hb: ∀x∈ls,x.length≤1000000):
    DT 56 #[(.pointer (some ⟨b,0,none⟩))] T0 [aj b [(.chan (some c))] 169,eF c 8 (us) (s) (r),eV (us) (ls) 5] (dG (λv H=>((ls.length=0∨ls.length=8)∧v= .bool false∧H=[aj b [(.chan (some c))] 169,eF c 8 us s r,eV us ls 5])∨(ls.length≠0∧ls.length≠8∧v= .bool true∧∃un,H=[aj b [(.chan (some c))] 169,eF c 8 (us++[un]) (s+us.length+1) (r+us.length),eV us ls 5,cH un (ls.getD 0 []) 5]))):=by
 refine BD 41 Tryz.func56 rfl rfl rfl λw0 F hF=>sr λ_ J1=>PS ?_
 refine nx J1 (sr λ_ J2=>PS ?_);refine CE DL (ut b c s r us ls) ID ?_;change TL _ _ _ _ _ _ _ _ _ [aj b [(.chan (some c))] 169,eF c 8 (us) (s) (r),eV (us) (ls) 5];refine zk (p:=us.length=ls.length) (λw m=>(rB 2 rfl rfl m).1) (λhul=>PS ?_);refine nx J2 (aa λ_ J3=>sr λ_ J4=>P2 ?_);refine ap ?_ ?_<;>intro h10;refine PS ?_
 iterate 7 refine UT ?_
 refine PS ?_;refine nx J4 (CY (sr λ_ J5=>PS ?_));refine nx J5 (ah (ae (WK [0,0,0] (aw rfl rfl ?_))));exact .inl ⟨by omega,rfl,rfl⟩;refine P4 ?_;refine FA 0 EE vB ?_;refine LA 0 wD ?_;refine tq (PV.capChan 1 rfl wD rfl rfl rfl) ?_;refine PS ?_;refine ap ?_ ?_<;>intro h18;refine PS ?_;refine nx J4 (CY (sr λ_ J6=>PS ?_));refine nx J6 (ah (ae (WK [0,0,0] (aw rfl rfl ?_))));exact .inl ⟨by omega,rfl,rfl⟩;refine PS ?_;refine nx J4 (CN (qx J3 (sr λ_ J7=>PS ?_)));refine nx J7 (aa λ_ J8=>sr λ_ J9=>P2 ?_);refine nx J9 (am ?_)
 refine bG (α:=(Nat)) (λk=>k≤us.length) (λk=>[(0,(.pointer (some ⟨b,0,none⟩))),(2,(.bool false)),(4,(D8 k (us.getD 0 undef))),(20,(.int .i64 (((ls.length:Nat):Int)))),(21,(.int .i64 (((k:Nat):Int))))]) (λk=>[aj b [(.chan (some c))] 169,eF c 8 (us.drop k++us.take k) (s+k) (r+k),eV (us) (ls) 5]) (λk=>us.length-k) 0
     (aP _) SB
     (λ_ q=>by simpa using q) (λk hinv=>?_)
 obtain hk:=hinv;refine sr λ_ J10=>PS ?_
 refine ap ?_ ?_<;>intro h22;have hku:k<us.length:=by omega
 refine nx J10 (aa λ_ J11=>CY (qx J11 (aa λ_ J12=>am (sr λ_ J13=>P2 ?_))));refine nx J13 (aa λ_ J14=>zl (uz rfl (ab rfl) rfl rfl (ky rfl rfl) (uz rfl (ab rfl) rfl rfl (gU rfl rfl) (uz rfl (ab rfl) rfl rfl (bc (r:=0) rfl EE rfl vB rfl rfl) (uz rfl (ab rfl) rfl rfl (fL (v:=(.chan (some c))) rfl wD rfl rfl (RO 0) rfl) (TX.recv1 1 rfl (ab rfl) rfl rfl rfl wD Ou rfl rfl rfl (JG hku) (uz rfl (ab rfl) rfl rfl (RJ rfl rfl) (MP (ad J14 (aa λ_ J15=>?_))))))))));refine sr λ_ J16=>P2 ?_
 refine ap ?_ ?_<;>intro h30;refine nx J16 (CY (ac (P2 ?_)));refine nx J15 (zl (uz rfl (ab rfl) rfl rfl (ky rfl rfl) (uz rfl (ab rfl) rfl rfl (gU rfl rfl) (uz rfl (ab rfl) rfl rfl (bc (r:=0) rfl EE rfl vB rfl rfl) (uz rfl (ab rfl) rfl rfl (fL (v:=(.chan (some c))) rfl wD rfl rfl (RO 0) rfl) (uz rfl (ab rfl) rfl rfl (ky rfl rfl) (TX.send1 1 rfl (ab rfl) rfl rfl rfl rfl rfl rfl (by simp only[ag,bV,bB];omega) (MP (af (ad J12 (ac ?_)))))))))));refine AD ?_;refine PS ?_;refine au ?_
 exact aL ((k+1):(Nat)) (by omega) (by show us.length- (k+1)<us.length-k;omega)
   (aX (aX (bM rfl (by first|exact Kx (by omega) hku|exact Kv (by omega)) SB)))
   (λ_ q=>by
      rw[Ds hku]at q
      exact q)
 refine nx J16 (CN (qx J15 (zl (uz rfl (ab rfl) rfl rfl (ky rfl rfl) (uz rfl (ab rfl) rfl rfl (gU rfl rfl) (uz rfl (ab rfl) rfl rfl (bc (r:=0) rfl EE rfl vB rfl rfl) (uz rfl (ab rfl) rfl rfl (fL (v:=(.chan (some c))) rfl wD rfl rfl (RO 0) rfl) (uz rfl (ab rfl) rfl rfl (ky rfl rfl) (TX.send1 1 rfl (ab rfl) rfl rfl rfl rfl rfl rfl (by simp only[ag,bV,bB];omega) (MP (af ?_)))))))))));refine ad J12 (ac (AD ?_));refine PS ?_;refine au ?_
 exact aL ((k+1):(Nat)) (by omega) (by show us.length- (k+1)<us.length-k;omega)
   (aX (aX (bM rfl (by first|exact Kx (by omega) hku|exact Kv (by omega)) SB)))
   (λ_ q=>by
      rw[Ds hku]at q
      exact q)
 obtain rfl:k=us.length:=by omega
 have hpos:0<ls.length:=by omega
 have hg:ls.getD 0 []=ls[0]:=by simp[List.getD_eq_getElem?_getD,hpos]
 refine ci (H':=[aj b [(.chan (some c))] 169,eF c 8 us (s+us.length) (r+us.length),eV us ls 5]) (λ_ q=>by simpa using q) (nx J10 (aa λ_ J17=>CN (aW (aA (aA (bq (ad J8 (sr λ_ J18=>P2 ?_))))))))
 refine lR (ab rfl) rfl rfl rfl NJ rfl (B8 b c (s+us.length) (r+us.length) us (D8 us.length (us.getD 0 undef)) (ls.getD 0 []) (hb _ (hg▸ez hpos)) (by omega)) (λ_ s=>s) (λg d s=>by
          rw[Kw (by omega),hg]
          exact Lk (vh 0 hpos rfl rfl g d s)) (λvR HR hR=>?_)
 obtain⟨rfl,un,rfl⟩:=hR;refine PS ?_;refine nx J18 (ah (WK [0,0,1,0] (aw rfl rfl ?_)));exact .inr ⟨by omega,by omega,rfl,un,rfl⟩
theorem zg(b:Nat)(ls:List (List UInt8))(h8:ls.length≤8)(hb: ∀x∈ls,x.length≤1000000):DT 56 #[.pointer (some ⟨b,0,none⟩)] T0 [iw 169 5 b ls] (RI (.bool (I5 ls)) [iw 169 5 b (ER ls)]):=
 Leg.Does.pack (B:=[]) λq=>Leg.Does.fold (yB b q.1 q.2.2.1 q.2.2.2 q.2.1 ls h8 hb) λe H hp=>by
  cases e with
  |returned v=>
   unfold I5 ER;rcases hp with⟨h,rfl,rfl⟩| ⟨h1,h2,rfl,un,rfl⟩
   · exact⟨[iw 169 5 b ls],λ_ s=>bw (p:=λq:Nat×List Value×Nat×Nat=>[aj b [.chan (some q.1)] 169,eF q.1 8 q.2.1 q.2.2.1 q.2.2.2,eV q.2.1 ls 5]) (H:=[]) q s,by rw[decide_eq_false (by omega)],by rw[if_neg (by omega)]⟩
   · refine⟨[iw 169 5 b (ls++[ls.getD 0 []])],λ_ s=>?_,by rw[decide_eq_true (by omega)],by rw[if_pos (by omega)];rfl⟩
     have s1:=Bg 3 rfl rfl s;have s2:=aD [2,2] rfl s1;have s3:=vq s2;exact bw (p:=λq:Nat×List Value×Nat×Nat=>[aj b [.chan (some q.1)] 169,eF q.1 8 q.2.1 q.2.2.1 q.2.2.2,eV q.2.1 (ls++[ls.getD 0 []]) 5]) (H:=[]) (q.1,q.2.1++[un],q.2.2.1+q.2.1.length+1,q.2.2.2+q.2.1.length) (aD [1,1,0] rfl s3)
  |panicked c=>exact hp.elim
  |outgrown=>exact hp.elim
theorem uo(b:Nat)(ls:List (List UInt8))(h8:ls.length≤8)(hb: ∀x∈ls,x.length≤1000000):
 DT 57 #[(.pointer (some ⟨b,0,none⟩))] T0 [iw 169 5 b (ls)] (dG (λv H=>H=[iw 169 5 b (tj ls)])):=by
 refine BD 16 Tryz.func57 rfl rfl rfl λw0 F hF=>sr λ_ J1=>PS ?_
 refine nx J1 (sr λ_ J2=>PS ?_);refine CR Nf (uq b ls) ID λvR HR hR=>?_
 rcases hR with⟨rfl,rfl,rfl⟩| ⟨u,f,lt,rfl,rfl,rfl⟩
 refine P4 ?_;refine PS ?_;refine nx J2 (sr λ_ J3=>P2 ?_)
 iterate 3 refine UF ?_
 refine P2 ?_;exact nx J3 (ah (WK [0] (aw rfl rfl rfl)));refine P4 ?_;refine PS ?_;refine nx J2 (sr λ_ J4=>P4 ?_);refine CF NJ (wk b lt u f (hb f (oo ..))) ID (λg d s=>Lk (BN 0 rfl rfl g d s)) ?_;refine P2 ?_;refine nx J4 (ah (WK [0] (aw rfl rfl ?_)));exact congrArg (λq=>[iw 169 5 b q]) (if_pos (show lt.length<8 by have:=h8;rw[av]at this;omega))
end Go.Proofs.YtkhjnolhhidecaaGreatDoor
end

section
namespace Leg
open Go
def RdG(S:World→Prop)(b:Nat){α:Type}(c:α→List Value)(T:TypeId):Prop:=∀w,S w→∃a,w.heap[b]?=some (.cells (c a).toArray T (0,0))
abbrev hid{α:Type}(b:Nat)(c:α→List Value)(T:TypeId)(R:α→List HP):HP:=pack (λa=>aj b (c a) T::R a)
section
variable {P:Program} {w0:World} {F:Hl} {n:Nat} {ops:Array Oper} {Q:QQ} {D:List Deferred} {L:List (Nat×Value)} {H:List HP} {o:Oper} {l:List Oper} {d:Nat} {S:World→Prop} {α:Type} {b j:Nat} {c c':α→List Value} {T:TypeId} {R R':α→List HP}
theorem Sat.packOpen{p:α→List HP}{w:World}(i:Nat)(s:Sat H F w)(hi:i<H.length)(hH:H.getD i (λ_=>True)=pack p): ∃a,Sat (p a++H.eraseIdx i) F w:=by
 obtain⟨h,d,e,x⟩:=s;have y:=eJ i hi x;rw[hH]at y;obtain⟨a,z⟩:=fH (p:=p) (H:=H.eraseIdx i) (h:=h) y;exact⟨a,h,d,e,z⟩
theorem Sat.packShut{p:α→List HP}{w:World}(i:Nat)(hi:i<H.length)(a:α)(s:Sat (p a++H.eraseIdx i) F w):Sat (H.set i (pack p)) F w:=by
 obtain⟨h,d,e,x⟩:=s;exact⟨h,d,e,kS i hi (bw a x)⟩
theorem RdG.own(i:Nat)(hi:Nat.blt i H.length=true)(hH:H.getD i (λ_=>True)=hid b c T R):RdG (Sat H F) b c T:=λw s=>by
 obtain⟨a,t⟩:=s.packOpen i (lb hi) hH;exact⟨a,t.block 0 (by simp) rfl⟩
abbrev dm:= @RdG.own
theorem PV.load1G{t:TypeId}{x:Operand}{dt:TypeDesc}{v:Value}(ho:o.op= .load t x)(ht:P.underlying t=some dt)(hp:eP dt=true)(hx:cR L x=some (.pointer (some ⟨b,j,none⟩)))(hR:RdG S b c T)(hc: ∀a,(c a)[j]?=some v):PV P n D L S o v:=
 λa w f m=>by
  obtain⟨y,hy⟩:=hR w m;exact fL (S:=λw'=>w'=w) ho ht hp hx (λ_ e=>e▸hy) (hc y) a w f rfl
abbrev dD:= @PV.load1G
theorem PV.loadNG{t:TypeId}{x:Operand}{dt:TypeDesc}{m:Nat}{vs:List Value}(ho:o.op= .load t x)(ht:P.underlying t=some dt)(hp:eP dt=false)(hm:(P.info? t).map (·.size)=some m)(hx:cR L x=some (.pointer (some ⟨b,j,none⟩)))(hR:RdG S b c T)(hl:vs.length=m)(hc: ∀a,((c a).drop j).take m=vs):PV P n D L S o (.agg vs.toArray):=
 λa w f s=>by
  obtain⟨y,hy⟩:=hR w s;exact aN (S:=λw'=>w'=w) ho ht hp hm hx (λ_ e=>e▸hy) hl (hc y) a w f rfl
abbrev gO:= @PV.loadNG
theorem TL.storeG{i:Nat}{t:TypeId}{x y:Operand}{v:Value}{vs:List Value}(hw:Want n D ops o L)(ho:o.op= .store t x y)(hd:o.dst=none)
 (hx:cR L x=some (.pointer (some ⟨b,j,none⟩))) (hy:cR L y=some v) (hv:v.cells=vs.toArray) (hs:(P.info? t).map (·.size)=some vs.length) (h1: ∀u∈vs,u.oneCell'=true)
 (hi:Nat.blt i H.length=true) (hH:H.getD i (λ_=>True)=hid b c T R) (hl: ∀a,j+vs.length≤(c a).length) (hcs: ∀a,wr (c a) j vs=c' a)
 (h:TL P w0 F n ops Q l D L (H.set i (hid b c' T R))):TL P w0 F n ops Q (o::l) D L H:=
 TL.eff hw hd (λa w f _ m=>by
  obtain⟨q,m1⟩:=m.packOpen i (lb hi) hH;have hb:=m1.block 0 (by simp) rfl;refine⟨w.setRow b (wr (c q) j vs).toArray,by simp[execOp,ho,f.eval hx,f.eval hy,xD hv hs h1 hb (hl q)],⟨rfl,rfl,rfl,by simp⟩,?_⟩;rw[hcs q]
  exact Sat.packShut (p:=λa=>aj b (c' a) T::R a) i (lb hi) q (m1.write 0 (by simp) rfl (setRow_heap w b (c q).toArray _ T _ hb) (λk hk=>setRow_other w b k _ hk))) h
abbrev iB:= @TL.storeG
theorem TL.store1G{i:Nat}{t:TypeId}{x y:Operand}{v:Value}(hw:Want n D ops o L)(ho:o.op= .store t x y)(hd:o.dst=none)
 (hx:cR L x=some (.pointer (some ⟨b,j,none⟩))) (hy:cR L y=some v) (h1:v.oneCell'=true) (hs:(P.info? t).map (·.size)=some 1)
 (hi:Nat.blt i H.length=true) (hH:H.getD i (λ_=>True)=hid b c T R) (hl: ∀a,j< (c a).length) (hcs: ∀a,(c a).set j v=c' a)
 (h:TL P w0 F n ops Q l D L (H.set i (hid b c' T R))):TL P w0 F n ops Q (o::l) D L H:=
 iB (vs:=[v]) hw ho hd hx hy (by cases v<;>simp[Value.cells,Value.oneCell']at h1 ⊢) hs (by simpa using h1) hi hH (λa=>by have:=hl a;simp;omega)
  (λa=>by rw[←hcs a,wr,oQ,if_pos (hl a)];simp) h
theorem HD{p p' a b c d:HP}{h:Hl}(e: ∀h,p h→p' h)(s:bR (a::b::c::d::p::H) h):bR (a::b::c::d::p'::H) h:=
 cQ s (λ_ x=>x) λ_ s=>cQ s (λ_ x=>x) λ_ s=>cQ s (λ_ x=>x) λ_ s=>cQ s (λ_ x=>x) λ_ s=>cQ s e λ_ x=>x
theorem Does.hid{f:FuncId}{args:Array Value}{A:List HP}{q:Value→Prop}(h: ∀a,Does P f args (λ_=>True) (aj b (c a) T::A) (dG λv H=>q v∧H=aj b (c' a) T::A)):Does P f args (λ_=>True) (Leg.hid b c T R::A) (dG λv H=>q v∧H=Leg.hid b c' T R::A):=
 Does.pack λa=>Does.withinR (B:=R a) (h a) (λ_ _ _ _=>trivial) (λ_ s=>eO (List.Perm.cons (aj b (c a) T) (List.perm_append_comm (l₁:=R a) (l₂:=A))) s) λv H hp=>by
  obtain⟨h1,rfl⟩:=hp;exact⟨_,λ_ s=>bw (p:=λa=>aj b (c' a) T::R a) a (eO (List.Perm.cons (aj b (c' a) T) (List.perm_append_comm (l₁:=A) (l₂:=R a))) s),h1,rfl⟩
end
open Api
variable {P:Program} {w0:World} {F:Hl} {n:Nat} {ops:Array Oper} {Q:QQ} {D:List Deferred} {L:List (Nat×Value)} {H:List HP} {d:Nat} {o:Oper} {l:List Oper}
section
variable {A:Type} {b:Nat} {c:A→List Value} {T:TypeId} {R:A→List HP}
theorem LG{t:TypeId}{x:Operand}{dt:TypeDesc}{j:Nat}(k:Nat)(ht:P.underlying t=some dt)(v:Value)(h:TL P w0 F n ops Q l D ((d,v)::L) H)(hw:Want n D ops o L:=by first|exact ab rfl|exact cx rfl rfl rfl)(hd:o.dst=some d:=by exact rfl)(hn:Nat.blt d n=true:=by exact rfl)(ho:o.op= .load t x:=by exact rfl)(hp:eP dt=true:=by exact rfl)(hx:cR L x=some (.pointer (some ⟨b,j,none⟩)):=by exact rfl)(hk:Nat.blt k H.length=true:=by exact rfl)(hH:H.getD k (λ_=>True)=hid b c T R:=by exact rfl)(hc: ∀a,(c a)[j]?=some v):TL P w0 F n ops Q (o::l) D L H:=mK hw hd hn (dD ho ht hp hx (dm k hk hH) hc) h
theorem LZ{α:Type}{f:α→List Int}{t:TypeId}{x:Operand}{dt:TypeDesc}{j m:Nat}(k:Nat)(ht:P.underlying t=some dt)(hs:(P.info? t).map (·.size)=some m)(hf: ∀x,(ints (f x)).length=m)(y:α)(h:TL P w0 F n ops Q l D ((d, .agg (ints (f y)).toArray)::L) H)(hw:Want n D ops o L:=by first|exact ab rfl|exact cx rfl rfl rfl)(hd:o.dst=some d:=by exact rfl)(hn:Nat.blt d n=true:=by exact rfl)(ho:o.op= .load t x:=by exact rfl)(hp:eP dt=false:=by exact rfl)(hx:cR L x=some (.pointer (some ⟨b,j,none⟩)):=by exact rfl)(hk:Nat.blt k H.length=true:=by exact rfl)(hH:H.getD k (λ_=>True)=hid b c T R:=by exact rfl)(hc: ∀a,((c a).drop j).take m=ints (f y)):TL P w0 F n ops Q (o::l) D L H:=mK hw hd hn (gO ho ht hp hs hx (dm k hk hH) (hf y) hc) h
theorem SK{o:Oper}{l:List Oper}{t:TypeId}{x y:Operand}{j m:Nat}{v:Value}{c':A→List Value}(k:Nat)(hs:(P.info? t).map (·.size)=some 1)(hl: ∀a,(c a).length=m)(h:TL P w0 F n ops Q l D L (H.set k (hid b c' T R)))(hw:Want n D ops o L:=by first|exact ab rfl|exact cx rfl rfl rfl)(hd:o.dst=none:=by exact rfl)(ho:o.op= .store t x y:=by exact rfl)(hx:cR L x=some (.pointer (some ⟨b,j,none⟩)):=by exact rfl)(hy:cR L y=some v:=by exact rfl)(h1:v.oneCell'=true:=by exact rfl)(hk:Nat.blt k H.length=true:=by exact rfl)(hH:H.getD k (λ_=>True)=hid b c T R:=by exact rfl)(hj:Nat.blt j m=true:=by first|exact rfl|exact Nat.ble_eq_true_of_le (by omega))(hc: ∀a,(c a).set j v=c' a):TL P w0 F n ops Q (o::l) D L H:=TL.store1G hw ho hd hx hy h1 hs hk hH (λa=>(hl a)▸lb hj) hc h
end
end Leg
end

section
namespace Go.Proofs.YtkhjnolhhidecaaGreatDoor
open Go Leg Codec Api Dsk Wal
structure Env(δ:Type) extends Dk δ where
 T:Nat
 ov:Value
 sf:Nat
 E:δ→List SaidT→HP
 lg:Nat→δ→HP
 me : yK Tryz.prog T ov "Send" sf
 nm:Named Tryz.prog sf
 say: ∀(e:δ) (l:List SaidT) (to':Int) (m:MsgT),ok e→Leg.Does Tryz.prog sf #[ov, .int .i64 to', .agg (ints m.flat).toArray] (λ_=>True) [E e l] (dG (λ_ H=>H=[E e (if dn e then l else l++[SaidT.mk to' m])]))
 put: ∀(g:Nat) (x:Value) (bs:List UInt8) (e:δ) (l:List SaidT),ok e→bs.length≤3000→Leg.Does Tryz.prog 146 #[.pointer (some ⟨g,0,none⟩),x] (IsW x bs) [lg g e,E e l] (dG (λv H=>v= .int .i64 (pt e bs).2∧H=[lg g (pt e bs).1,E (pt e bs).1 l]))
def Gr(vo:Value):Option VoteT→HP
 |none=>λ_=>vo= .pointer none
 |some vt=>λh=>∃b,vo= .pointer (some ⟨b,0,none⟩)∧aj b (VoteT.cells vt) 196 h
abbrev cU{δ:Type}(V:Env δ)(r:Nat)(s:MS δ):HP:=hid r (λa:Adr=>RepT.cells (s.rep a)) 95 (λa=>[V.lg a.lg s.e,own a.rs s.replies.length (ints (s.replies.flatMap ReplyT.flat)) 45 3,Gr a.vo s.vote,V.E s.e s.o])
abbrev wT{δ:Type}(V:Env δ)(r:Nat)(s:MS δ)(vo:Value):HP:=hid r (λa:Nat×Value=>RepT.cells (s.rep ⟨a.1,vo,a.2⟩)) 95 (λa=>[V.lg a.1 s.e,own a.2 s.replies.length (ints (s.replies.flatMap ReplyT.flat)) 45 3,V.E s.e s.o])
theorem kn{δ:Type}{V:Env δ}{r:Nat}{f:MS δ×Int}{X:MS δ}{y:Int}(e:f=(X,y)):Value.int .i64 y= .int .i64 f.2∧[cU V r X]=[cU V r f.1]:=by
 subst e;exact⟨rfl,rfl⟩
theorem HL{δ:Type}(V:Env δ)(r:Nat)(s:MS δ)(to':Int)(m:MsgT)[hs:OkR V.toDk s]:DT V.sf #[V.ov, .int .i64 to', .agg (ints m.flat).toArray] T0 [cU V r s] (dG (λ_ H=>H=[cU V r (yV V.toDk s to' m)])):=
 Leg.Does.pack λa=>Leg.Does.withinR (V.say s.e s.o to' m hs.e) (λ_ _ _ _=>trivial) (λ_ q=>aD [4] rfl q) λv H hp=>by
  subst hp;refine⟨_,λ_ q=>?_,rfl⟩;have q2:=aD [1,1,1,1,0] rfl q;exact bw (p:=λa:Adr=>[aj r (RepT.cells (s.rep a)) 95,V.lg a.lg s.e,own a.rs s.replies.length (ints (s.replies.flatMap ReplyT.flat)) 45 3,Gr a.vo s.vote,V.E s.e (if V.dn s.e then s.o else s.o++[SaidT.mk to' m])]) a q2
theorem gW{δ:Type}(V:Env δ)(r:Nat)(s:MS δ)(to':Int)(m:MsgT)(f:MS δ→MS δ)(hT:to'=s.id→DT 60 #[.pointer (some ⟨r,0,none⟩), .iface V.T V.ov, .int .i64 s.id, .agg (ints m.flat).toArray] T0 [cU V r s] (dG (λ_ H=>H=[cU V r (f s)])))[OkR V.toDk s]:
 DT 111 #[(.pointer (some ⟨r,0,none⟩)),(.iface V.T V.ov),(.int .i64 (to')),(.agg (ints m.flat).toArray)] T0 [cU V r s] (dG (λ_ H=>H=[cU V r (kB V.toDk f s to' m)])):=by
 refine Leg.Does.body (vs:=[(.pointer (some ⟨r,0,none⟩)),(.iface V.T V.ov),(.int .i64 (to')),(.agg (ints m.flat).toArray)]) (n:=28) Tryz.func111 rfl rfl rfl (λw0 F hF=>?_);refine sr λ_ J1=>?_
 refine TL.box (ab rfl) rfl rfl rfl rfl (λb7=>?_);change TL _ _ _ _ _ _ _ _ _ [aj b7 (ints m.flat) 134,cU V r s];refine nx J1 ?_;refine aa λ_ J2=>?_
 refine sr λ_ J3=>?_
 refine mv ?_;refine mv ?_;refine tp (gU rfl rfl) ?_;refine tp (bc (r:=0) rfl dx rfl aO rfl rfl) ?_;refine tp (dD (v:=(.int .i64 (s.id))) rfl Y3 rfl rfl (dm 1 rfl rfl) (λa_=>(cT (s.rep a_) rfl))) ?_;refine tp (P9 rfl rfl rfl) ?_;refine ap (λh13=>?_) (λh13=>?_);refine nx J3 ?_;refine oj rfl ?_;refine aa λ_ J4=>?_
 refine sR (λw=>Frm F w∧w.heap[b7]?=some (.cells (ints m.flat).toArray 134 (0,0))∧True) bl rfl (λ_ s=>⟨fD s,s.block 0 (lb rfl) rfl,trivial⟩) ?_;refine ta 0 rfl (ky rfl rfl) ?_;refine ta 1 rfl (ky rfl rfl) ?_;refine ta 2 rfl (ky rfl rfl) ?_;refine ta 3 rfl (gU rfl rfl) ?_;refine ta 4 rfl (bc (r:=0) rfl dx rfl aO rfl rfl) ?_;refine ta 6 rfl (aN (vs:=ints m.flat) rfl bi rfl ct rfl (λ_ h=>h.2.1) (aH m) (whole (aH m))) ?_;refine db [5] (by kernel_rfl) rfl ?_;refine aF rfl ?_ ?_;refine tp (dD (v:=(.int .i64 (s.id))) rfl Y3 rfl rfl (dm 1 rfl rfl) (λa_=>(cT (s.rep a_) rfl))) ?_;refine au ?_;refine wn (λ_ s=>⟨fD s,s.block 0 (lb rfl) rfl,trivial⟩) ?_;refine db [7] (by kernel_rfl) rfl ?_;refine aF rfl ?_ ?_;refine lR (ab rfl) rfl rfl rfl O3 rfl ((by have h:=hT h13;exact h)) (λ_ s=>aD [1] rfl s) (λ_ _ _=>trivial) (λvR HR hR=>?_);obtain rfl:=hR;refine au ?_;refine wn (λ_ s=>⟨fD s,s.block 1 (lb rfl) rfl,trivial⟩) ?_;refine TD.done (by kernel_rfl) ?_;refine ad J4 ?_;refine ah ?_;refine ae ?_;refine aE (dN _) (λ_ s=>ak [0] rfl s) ?_;refine dZ rfl ?_;exact(congrArg (λq=>[cU V r q]) (if_pos h13)).symm;exact bP;exact bP;refine nx J3 ?_;refine Hb rfl ?_;refine aR ?_;refine ad J2 ?_;refine sr λ_ J5=>?_
 refine mv ?_;refine tp (PV.ifaceNotNil rfl Tryz.underlying123 rfl) ?_;refine nx J5 ?_;refine oj rfl ?_;refine ac ?_;refine mv ?_;refine mv ?_;refine tp (aN (vs:=ints m.flat) rfl bi rfl ct rfl (fC 0 rfl rfl) (aH m) (whole (aH m))) ?_;refine TL.callI (ab rfl) rfl rfl rfl rfl V.me V.nm rfl (HL V r s to' m) (λ_ s=>aD [1] rfl s) (λ_ _ _=>trivial) (λvR HR hR=>?_);obtain rfl:=hR;refine au ?_;refine aE (dN _) (λ_ s=>ak [0] rfl s) ?_;refine bC rfl ?_;exact(congrArg (λq=>[cU V r q]) (if_neg h13)).symm
theorem j8{δ:Type}(V:Env δ)(r:Nat)(s:MS δ)(to':Int)(m:MsgT)(hto:to'≠s.id)[OkR V.toDk s]:DT 111 #[.pointer (some ⟨r,0,none⟩), .iface V.T V.ov, .int .i64 to', .agg (ints m.flat).toArray] T0 [cU V r s] (dG (λ_ H=>H=[cU V r (iL V.toDk s [⟨to',m⟩])])):=by
 have h:=gW V r s to' m id (λe=>absurd e hto)
 rwa [show kB V.toDk id s to' m=iL V.toDk s [⟨to',m⟩]from if_neg hto]at h
theorem oX{δ:Type}(V:Env δ)(r:Nat)(s:MS δ)(l:List SaidT)(to':Int)(m:MsgT)(hto:to'≠s.id)[OkR V.toDk s]:DT 111 #[.pointer (some ⟨r,0,none⟩), .iface V.T V.ov, .int .i64 to', .agg (ints m.flat).toArray] T0 [cU V r (iL V.toDk s l)] (dG (λ_ H=>H=[cU V r (iL V.toDk s (l++[⟨to',m⟩]))])):=by
 have h:=j8 V r (iL V.toDk s l) to' m hto
 rwa [Jy]at h
theorem MQ{δ:Type}{V:Env δ}{r:Nat}{a b:MS δ}(h:a=b):[cU V r a]=[cU V r b]:=by rw[h]
theorem oH{δ:Type}(V:Env δ)(r:Nat)(s:MS δ)[OkR V.toDk s]:
 DT 61 #[(.pointer (some ⟨r,0,none⟩)),(.iface V.T V.ov)] T0 [cU V r s] (dG (λ_ H=>H=[cU V r (eX V.toDk s)])):=by
 refine BD 40 Tryz.func61 rfl rfl rfl λw0 F hF=>?_
 have hid:cI s.id=true:=OkR.id;have hid2:0≤s.id∧s.id<5:=of_decide_eq_true hid;refine aa λ_ J1=>DB bl (dm 0 rfl rfl) ?_
 refine PD 0 ?_;refine PD 1 ?_;refine FD 2 0 dx aO ?_;refine ta 3 rfl (dD (v:=(.int .i64 (s.id))) rfl Y3 rfl rfl (λ_ h=>h.2.1) (λa_=>(cT _ rfl))) ?_;refine PD 4 ?_;refine PD 5 ?_;refine FD 6 9 dx bf ?_;refine ta 7 rfl (gO (vs:=ints s.own.flat) rfl el rfl bf rfl (λ_ h=>h.2.1) (ai s.own) (λa_=>(zm (s.rep a_) 0 rfl (by decide) (whole (ai ((s.rep a_).own)))))) ?_;refine ta 8 rfl (ku MsgT.zero (MsgT.mk 0 s.id s.own 0 0 BallotT.zero BallotT.zero ChangeT.zero ViewT.zero) [(0,[Value.int .i64 0]),(1,[Value.int .i64 s.id]),(2,ints s.own.flat)] bi bD (g:=MsgT.sg)) ?_;refine AL 9 ?_;refine XZ nf (ints MsgT.zero.flat) λb4=>?_
 refine EN (AL 10 ?_);refine SW 0 ct aH ?_;refine EN (DN (ad J1 (sr λ_ J2=>P2 ?_)));refine FA 0 dx aO ?_;refine LG 1 Y3 (.int .i64 (s.id)) ?_ (hc:=by exact λa_=>(cT _ rfl));refine CR DO (rj s.id hid) ID λvR HR hR=>?_
 obtain⟨_,rfl,rfl⟩:=hR;revert vR;intro uw;refine je 0 rfl rfl (λhluw _=>jV 0 rfl rfl (by omega) (λgw capw hvw hcapw=>tp (dO rfl eh rfl hluw) ?_));refine PS ?_;refine nx J2 (am (hO 2 (sr λ_ J3=>PS ?_)));refine nx J3 (aa λ_ J4=>CY (qx J4 (aa λ_ J5=>am (sr λ_ J6=>tp (bn (r:=0) hvw rfl eh aO rfl rfl (by omega) (by omega) rfl) ?_))));refine tp (cm (v:=(.int .i64 (((s.id+1)%5)))) rfl Y3 rfl rfl (gM 0 rfl hvw rfl) rfl) ?_;refine PS ?_;refine nx J6 (sr λ_ J7=>P2 ?_);refine FA 1939 dx aO ?_;refine LG 2 Y3 (.int .i64 (s.kept)) ?_ (hc:=by exact λa_=>(sT _ rfl));refine PS ?_;refine tp (iF (r:=(s.kept.fdiv (2^min (((s.id+1)%5)).toNat IntKind.i64.bits))) rfl rfl rfl (by omega) rfl) ?_;refine tp (jm (r:=((s.kept.fdiv (2^min (((s.id+1)%5)).toNat IntKind.i64.bits))%2)) rfl rfl rfl (mask (k:=1) (by decide) _)) ?_;refine PS ?_;refine ap ?_ ?_<;>intro h33;refine nx J7 (CY (ac (P3 ?_)));refine LW 1 bi ct aH ?_;refine CZ jL (j8 V r s ((s.id+1)%5) (MsgT.mk 0 s.id s.own 0 0 BallotT.zero BallotT.zero ChangeT.zero ViewT.zero) (by omega)) (SM [2]) λvR=>?_
 refine au (af (ad J5 (ac (tp (bA (r:=1) rfl rfl rfl (by decide)) ?_))));refine PS ?_;refine au (bI (sr λ_ J8=>PS ?_));refine nx J8 (aa λ_ J9=>CY (qx J9 (aa λ_ J10=>am (sr λ_ J11=>tp (bn (r:=1) hvw rfl eh aO rfl rfl (by omega) (by omega) rfl) ?_))));refine tp (cm (v:=(.int .i64 (((s.id+2)%5)))) rfl Y3 rfl rfl (gM 1 rfl hvw rfl) rfl) ?_;refine PS ?_;refine nx J11 (sr λ_ J12=>P2 ?_);refine FA 1939 dx aO ?_;refine LG 0 Y3 (.int .i64 (s.kept)) ?_ (hc:=by exact λa_=>(sT _ rfl));refine PS ?_;refine tp (iF (r:=(s.kept.fdiv (2^min (((s.id+2)%5)).toNat IntKind.i64.bits))) rfl rfl rfl (by omega) rfl) ?_;refine tp (jm (r:=((s.kept.fdiv (2^min (((s.id+2)%5)).toNat IntKind.i64.bits))%2)) rfl rfl rfl (mask (k:=1) (by decide) _)) ?_;refine PS ?_;refine ap ?_ ?_<;>intro h33;refine nx J12 (CY (ac (P3 ?_)));refine LW 2 bi ct aH ?_;refine CZ jL (oX V r s ([SaidT.mk ((s.id+1)%5) (MsgT.mk 0 s.id s.own 0 0 BallotT.zero BallotT.zero ChangeT.zero ViewT.zero)]) ((s.id+2)%5) (MsgT.mk 0 s.id s.own 0 0 BallotT.zero BallotT.zero ChangeT.zero ViewT.zero) (by omega)) ID λvR=>?_
 refine au (af (ad J10 (ac (tp (bA (r:=2) rfl rfl rfl (by decide)) ?_))));refine PS ?_;refine au (bI (sr λ_ J13=>PS ?_));refine nx J13 (aa λ_ J14=>CN (aW (aA (aA (bq (WK [0] (bC rfl ?_)))))));exact MQ (by rw[eX,show oy (s.rep .nil)=[SaidT.mk ((s.id+1)%5) (MsgT.mk 0 s.id s.own 0 0 BallotT.zero BallotT.zero ChangeT.zero ViewT.zero)]++[SaidT.mk ((s.id+2)%5) (MsgT.mk 0 s.id s.own 0 0 BallotT.zero BallotT.zero ChangeT.zero ViewT.zero)]by rw[oy,iD,if_pos hid];simp[vu,xF,MsgT.zero,Adr.nil, *]]);refine nx J12 (CN (aR (af (ad J10 (ac (tp (bA (r:=2) rfl rfl rfl (by decide)) ?_))))));refine PS ?_;refine au (bI (sr λ_ J15=>PS ?_));refine nx J15 (aa λ_ J16=>CN (aW (aA (aA (bq (WK [0] (bC rfl ?_)))))));exact MQ (by rw[eX,show oy (s.rep .nil)=[SaidT.mk ((s.id+1)%5) (MsgT.mk 0 s.id s.own 0 0 BallotT.zero BallotT.zero ChangeT.zero ViewT.zero)]by rw[oy,iD,if_pos hid];simp[vu,xF,MsgT.zero,Adr.nil, *]]);refine nx J7 (CN (aR (af (ad J5 (ac (tp (bA (r:=1) rfl rfl rfl (by decide)) ?_))))));refine PS ?_;refine au (bI (sr λ_ J17=>PS ?_));refine nx J17 (aa λ_ J18=>CY (qx J18 (aa λ_ J19=>am (sr λ_ J20=>tp (bn (r:=1) hvw rfl eh aO rfl rfl (by omega) (by omega) rfl) ?_))));refine tp (cm (v:=(.int .i64 (((s.id+2)%5)))) rfl Y3 rfl rfl (gM 0 rfl hvw rfl) rfl) ?_;refine PS ?_;refine nx J20 (sr λ_ J21=>P2 ?_);refine FA 1939 dx aO ?_;refine LG 2 Y3 (.int .i64 (s.kept)) ?_ (hc:=by exact λa_=>(sT _ rfl))
 refine PS ?_;refine tp (iF (r:=(s.kept.fdiv (2^min (((s.id+2)%5)).toNat IntKind.i64.bits))) rfl rfl rfl (by omega) rfl) ?_;refine tp (jm (r:=((s.kept.fdiv (2^min (((s.id+2)%5)).toNat IntKind.i64.bits))%2)) rfl rfl rfl (mask (k:=1) (by decide) _)) ?_;refine PS ?_;refine ap ?_ ?_<;>intro h33;refine nx J21 (CY (ac (P3 ?_)));refine LW 1 bi ct aH ?_;refine CZ jL (j8 V r s ((s.id+2)%5) (MsgT.mk 0 s.id s.own 0 0 BallotT.zero BallotT.zero ChangeT.zero ViewT.zero) (by omega)) (SM [2]) λvR=>?_
 refine au (af (ad J19 (ac (tp (bA (r:=2) rfl rfl rfl (by decide)) ?_))));refine PS ?_;refine au (bI (sr λ_ J22=>PS ?_));refine nx J22 (aa λ_ J23=>CN (aW (aA (aA (bq (WK [0] (bC rfl ?_)))))));exact MQ (by rw[eX,show oy (s.rep .nil)=[SaidT.mk ((s.id+2)%5) (MsgT.mk 0 s.id s.own 0 0 BallotT.zero BallotT.zero ChangeT.zero ViewT.zero)]by rw[oy,iD,if_pos hid];simp[vu,xF,MsgT.zero,Adr.nil, *]]);refine nx J21 (CN (aR (af (ad J19 (ac (tp (bA (r:=2) rfl rfl rfl (by decide)) ?_))))));refine PS ?_;refine au (bI (sr λ_ J24=>PS ?_));refine nx J24 (aa λ_ J25=>CN (aW (aA (aA (bq (WK [2] (bC rfl ?_)))))));exact MQ (by rw[eX,show oy (s.rep .nil)=[]by rw[oy,iD,if_pos hid];simp[vu,xF,MsgT.zero,Adr.nil, *]];exact(qD _ _).symm)
theorem nK{δ:Type}(V:Env δ)(r:Nat)(s:MS δ)(y:RowT)[OkR V.toDk s]:
 DT 66 #[(.pointer (some ⟨r,0,none⟩)),(.iface V.T V.ov),(.agg (ints y.flat).toArray)] T0 [cU V r s] (dG (λ_ H=>H=[cU V r (j6 V.toDk s y)])):=by
 refine BD 27 Tryz.func66 rfl rfl rfl λw0 F hF=>sr λ_ J1=>XY (ints y.flat) λb5=>?_
 refine nx J1 (sr λ_ J2=>PS ?_);refine nx J2 (am ?_)
 refine bG (α:=(Nat)) (λk=>k≤5) (λk=>[(0,(.pointer (some ⟨r,0,none⟩))),(1,(.iface V.T V.ov)),(5,(.pointer (some ⟨b5,0,none⟩))),(7,(.int .i64 (((k:Nat):Int))))]) (λk=>[aj b5 (ints y.flat) 74,cU V r (iL V.toDk s (nT s.id (pD s.id y) (λ_=>true) k))]) (λk=>5-k) 0
  (aP _) SB
  (λ_ q=>by
  rw[show nT s.id (pD s.id y) (λ_=>true) 0=[]from rfl,qD]
  exact q) (λk hinv=>?_)
 obtain hk:=hinv;refine sr λ_ J3=>PS ?_
 refine ap ?_ ?_<;>intro h8;refine nx J3 (aa λ_ J4=>CY (qx J4 (aa λ_ J5=>am (sr λ_ J6=>P2 ?_))));refine nx J6 (sr λ_ J7=>P3 ?_);refine FA 0 dx aO ?_;refine LG 1 Y3 (.int .i64 (s.id)) ?_ (hc:=by exact λa_=>(cT _ rfl));refine PS ?_;refine ap ?_ ?_<;>intro h15;refine nx J7 (CY (DC bl (dm 1 rfl rfl) (BL 0) ?_));refine PD 0 ?_;refine PD 1 ?_;refine PD 2 ?_;refine PD 3 ?_;refine PD 4 ?_;refine FD 5 0 dx aO ?_;refine ta 6 rfl (dD (v:=(.int .i64 (s.id))) rfl Y3 rfl rfl (λ_ h=>h.2.1) (λa_=>(cT _ rfl))) ?_;refine LY 7 el bf ai ?_;refine ta 8 rfl (ku MsgT.zero (MsgT.mk 2 s.id y 0 0 BallotT.zero BallotT.zero ChangeT.zero ViewT.zero) [(0,[Value.int .i64 2]),(1,[Value.int .i64 s.id]),(2,ints y.flat)] bi bD (g:=MsgT.sg)) ?_;refine AL 9 ?_;refine CZ jL (oX V r s (nT s.id (pD s.id y) (λ_=>true) k) ((k:Nat):Int) (MsgT.mk 2 s.id y 0 0 BallotT.zero BallotT.zero ChangeT.zero ViewT.zero) h15) (SM [1]) λvR=>?_
 refine EN (DN (af (ad J5 (ac (AD ?_)))));refine PS ?_;refine au ?_
 exact aL ((k+1):(Nat)) (by omega) (by show 5- (k+1)<5-k;omega)
  SB
  (λ_ q=>by
   rw[jp,if_pos ⟨h15,rfl⟩]
   exact ak [1,0] rfl q)
 refine nx J7 (CN (aR (af (ad J5 (ac (AD ?_))))));refine PS ?_;refine au ?_
 exact aL ((k+1):(Nat)) (by omega) (by show 5- (k+1)<5-k;omega)
  SB
  (λ_ q=>by
   rw[jp,if_neg (by omega)];rw[aY]
   exact ak [0,0] rfl q)
 refine nx J3 (aa λ_ J8=>CN (aW (aA (aA (bq (WK [1] (bC rfl ?_)))))));obtain rfl:k=5:=by omega
 exact rfl
theorem nJ{δ:Type}(V:Env δ)(r:Nat)(s:MS δ)(v:ViewT)[OkR V.toDk s]:
 DT 64 #[(.pointer (some ⟨r,0,none⟩)),(.iface V.T V.ov),(.agg (ints v.flat).toArray)] T0 [cU V r s] (dG (λ_ H=>H=[cU V r (lj V.toDk s v)])):=by
 refine BD 23 Tryz.func64 rfl rfl rfl λw0 F hF=>sr λ_ J1=>XY (ints v.flat) λb5=>?_
 refine nx J1 (sr λ_ J2=>PS ?_);refine nx J2 (am ?_)
 refine bG (α:=(Nat)) (λk=>k≤5) (λk=>[(0,(.pointer (some ⟨r,0,none⟩))),(1,(.iface V.T V.ov)),(5,(.pointer (some ⟨b5,0,none⟩))),(7,(.int .i64 (((k:Nat):Int))))]) (λk=>[aj b5 (ints v.flat) 85,cU V r (iL V.toDk s (nT s.id (jt v) (λ_=>true) k))]) (λk=>5-k) 0
  (aP _) SB
  (λ_ q=>by
  rw[show nT s.id (jt v) (λ_=>true) 0=[]from rfl,qD]
  exact q) (λk hinv=>?_)
 obtain hk:=hinv;refine sr λ_ J3=>PS ?_
 refine ap ?_ ?_<;>intro h8;refine nx J3 (aa λ_ J4=>CY (qx J4 (aa λ_ J5=>am (sr λ_ J6=>P2 ?_))));refine nx J6 (sr λ_ J7=>P3 ?_);refine FA 0 dx aO ?_;refine LG 1 Y3 (.int .i64 (s.id)) ?_ (hc:=by exact λa_=>(cT _ rfl));refine PS ?_;refine ap ?_ ?_<;>intro h15;refine nx J7 (CY (ac (P3 ?_)));refine LW 0 eG bj an ?_;refine tp (ku MsgT.zero (MsgT.mk 7 0 RowT.zero 0 0 BallotT.zero BallotT.zero ChangeT.zero v) [(0,[Value.int .i64 7]),(8,ints v.flat)] bi bD (g:=MsgT.sg)) ?_;refine CZ jL (oX V r s (nT s.id (jt v) (λ_=>true) k) ((k:Nat):Int) (MsgT.mk 7 0 RowT.zero 0 0 BallotT.zero BallotT.zero ChangeT.zero v) h15) (SM [1]) λvR=>?_
 refine au (af (ad J5 (ac (AD ?_))));refine PS ?_;refine au ?_
 exact aL ((k+1):(Nat)) (by omega) (by show 5- (k+1)<5-k;omega)
  SB
  (λ_ q=>by
   rw[jp,if_pos ⟨h15,rfl⟩]
   exact ak [1,0] rfl q)
 refine nx J7 (CN (aR (af (ad J5 (ac (AD ?_))))));refine PS ?_;refine au ?_
 exact aL ((k+1):(Nat)) (by omega) (by show 5- (k+1)<5-k;omega)
  SB
  (λ_ q=>by
   rw[jp,if_neg (by omega)];rw[aY]
   exact ak [0,0] rfl q)
 refine nx J3 (aa λ_ J8=>CN (aW (aA (aA (bq (WK [1] (bC rfl ?_)))))));obtain rfl:k=5:=by omega
 exact rfl
end Go.Proofs.YtkhjnolhhidecaaGreatDoor
end
