/-
  Joined texts:what a statement's proof reaches.
-/
import Derived.Conc.LoneCalls
import Derived.Conc.LoneSelectN
import Derived.Test.YtkhjnolhhidecaaGreatDoorPWJ4
set_option maxHeartbeats 8000000
set_option maxRecDepth 100000
set_option linter.unusedSimpArgs false
set_option linter.unusedVariables false
section
namespace Go.Proofs.YtkhjnolhhidecaaGreatDoor
open Go Leg Codec Api
theorem Bm(rb:Nat)(v:Value)(bs:List UInt8):
 DT 103 #[(.pointer (some ⟨rb,0,none⟩))] (IsB v bs) [aj rb [v] 216] (oM 216 jc (λmb:MsgT×Bool=> .tuple #[.agg (ints mb.1.flat).toArray, .bool mb.2]) cM v bs rb):=by
 refine BD 85 Tryz.func103 rfl rfl rfl λw0 F hF=>sr λ_ J1=>XZ nf (ints MsgT.zero.flat) λb2=>?_
 refine PS ?_;refine nx J1 (sr λ_ J2=>PS ?_);refine CP jM (df rb v bs (10)) (SM [1]) (λ_ d _=>(hF).more d) (λcP HP hP=>?_) (λvR HR hR=>?_);obtain⟨vP,rfl,rfl,hpP⟩:=hP;refine ay (WK [0] (aT ?_));exact⟨_,rfl,rfl,by simp[cM,cg hpP, *]⟩;obtain⟨a1,r1,v1,rfl,rfl,hp1,ht1⟩:=hR;have hf1:=ht1 _ hF;refine tp (kR MsgT.zero (MsgT.mk a1 0 RowT.zero 0 0 BallotT.zero BallotT.zero ChangeT.zero ViewT.zero) [(0,[Value.int .i64 a1])] bj bE (g:=MsgT.sg)) ?_;refine XZ nf (ints MsgT.zero.flat) λb4=>?_
 refine SW 0 cx aH ?_;refine nx J2 (aa λ_ J3=>sr λ_ J4=>FA 0 bj aP ?_);refine LT 0 Y3 (.int .i64 (a1)) ?_ (hc:=by exact fk _ rfl);refine nx J4 (am (aa λ_ J5=>fC (α:=Unit) (λ_u=>True) (λ_u=>[(0,(.pointer (some ⟨rb,0,none⟩))),(2,(.pointer (some ⟨b2,0,none⟩))),(3,(.bool false)),(4,(.pointer (some ⟨b4,0,none⟩))),(9,(.int .i64 (a1))),(10,(.bool ((ez a1))))]) (λ_u=>[aj b4 (ints (MsgT.mk a1 0 RowT.zero 0 0 BallotT.zero BallotT.zero ChangeT.zero ViewT.zero).flat) 134,aj rb [v1] 216,aj b2 (ints MsgT.zero.flat) 134]) (λ_u hinv=>?_) (λtl5=>?_)));have _:=hinv;refine ad J5 (TC.cond rfl (λh10=>?_) (λh10=>?_));refine sr λ_ J6=>PS ?_
 refine CP jM (df rb v1 r1 (5)) (SM [1]) (λ_ d _=>(hf1).more d) (λcP HP hP=>?_) (λvR HR hR=>?_);obtain⟨vP,rfl,rfl,hpP⟩:=hP;refine ay (aQ (ay (WK [0] (aT ?_))));exact⟨_,rfl,rfl,by simp[cM,ax hp1,cg hpP,h10, *]⟩;obtain⟨a2,r2,v2,rfl,rfl,hp2,ht2⟩:=hR;have hf2:=ht2 _ hf1;refine FA 1 bj aP ?_;refine SS 1 aP (aH _) (MsgT.set_whose _ rfl _) ?_;refine nx J6 (sr λ_ J7=>PS ?_);refine CP Ke (uQ rb v2 r2) ID (λ_ d _=>(hf2).more d) (λcP HP hP=>?_) (λvR HR hR=>?_);obtain⟨vP,rfl,rfl,hpP⟩:=hP;refine ay (aQ (ay (WK [0] (aT ?_))));exact⟨_,rfl,rfl,by simp[cM,ax hp1,ax hp2,cg hpP,h10, *]⟩;obtain⟨a3,r3,v3,rfl,rfl,hp3,ht3⟩:=hR;have hf3:=ht3 _ hf2;refine FA 2 bj bg ?_;refine SP 1 bg ai aH MsgT.wp_row ?_;refine nx J7 (aa λ_ J8=>D1 1 bm ?_);refine LY 0 bj cx aH ?_;refine FD 1 2 bj bg ?_;refine ta 2 rfl (aN (vs:=ints a3.flat) rfl ek rfl bg rfl (λ_ h=>h.2.1) (ai a3) (m8 (MsgT.mk a1 a2 a3 0 0 BallotT.zero BallotT.zero ChangeT.zero ViewT.zero) 0 rfl (by decide) (whole (ai a3)))) ?_;refine AL 3 ?_;refine CE JU (kD a3 (Bh hp3)) ID ?_;refine EN (AL 4 ?_);refine SW 2 cx aH ?_;refine EN (PD 5 ?_);refine DN (ad J8 (ah (aI (ae (RT 2 [0] bj cx (aH _) ?_)))));exact⟨((MsgT.mk a1 a2 a3 0 0 BallotT.zero BallotT.zero ChangeT.zero ViewT.zero),(gi a3)),_,_,rfl,rfl,by simp[cM,pr,ax hp1,ax hp2,ax hp3,h10,MsgT.zero,RecT.zero, *],(ht1.trans (ht2.trans ht3))⟩;refine sr λ_ J9=>PS ?_
 refine ap ?_ ?_<;>intro h25;refine PS ?_;refine nx J9 (CY (ac (PS ?_)));refine CP qK (jL rb v1 r1) (SM [1]) (λ_ d _=>(hf1).more d) (λcP HP hP=>?_) (λvR HR hR=>?_);obtain⟨vP,rfl,rfl,hpP⟩:=hP;refine aQ (ay (WK [0] (aT ?_)));exact⟨_,rfl,rfl,by simp[cM,ez,fj,ax hp1,cg hpP,h10,h25, *]⟩;obtain⟨a2,r2,v2,rfl,rfl,hp2,ht2⟩:=hR;have hf2:=ht2 _ hf1;refine FA 176 bj aP ?_;refine SS 1 aP (aH _) (MsgT.set_version _ rfl _) ?_;refine au (af (ad J3 (sr λ_ J10=>LW 1 bj cx aH ?_)));refine SW 2 cx aH ?_;refine PS ?_;refine nx J10 (ah (RT 2 [0] bj cx (aH _) ?_));exact⟨((MsgT.mk a1 0 RowT.zero a2 0 BallotT.zero BallotT.zero ChangeT.zero ViewT.zero),true),_,_,rfl,rfl,by simp[cM,ez,fj,pr,ax hp1,ax hp2,h10,h25,MsgT.zero,RecT.zero, *],(ht1.trans ht2)⟩;refine PS ?_;refine nx J9 (CN (aa λ_ J11=>fC (α:=Unit) (λ_u=>True) (λ_u=>[(0,(.pointer (some ⟨rb,0,none⟩))),(2,(.pointer (some ⟨b2,0,none⟩))),(3,(.bool false)),(4,(.pointer (some ⟨b4,0,none⟩))),(9,(.int .i64 (a1))),(29,(.bool ((fj a1))))]) (λ_u=>[aj b4 (ints (MsgT.mk a1 0 RowT.zero 0 0 BallotT.zero BallotT.zero ChangeT.zero ViewT.zero).flat) 134,aj rb [v1] 216,aj b2 (ints MsgT.zero.flat) 134]) (λ_u hinv=>?_) (λtl11=>?_)));have _:=hinv;refine ad J11 (TC.cond rfl (λh29=>?_) (λh29=>?_));refine sr λ_ J12=>PS ?_
 refine CP qK (jL rb v1 r1) (SM [1]) (λ_ d _=>(hf1).more d) (λcP HP hP=>?_) (λvR HR hR=>?_);obtain⟨vP,rfl,rfl,hpP⟩:=hP;refine ay (aQ (ay (WK [0] (aT ?_))));exact⟨_,rfl,rfl,by simp[cM,ax hp1,cg hpP,h10,h25,h29, *]⟩;obtain⟨a2,r2,v2,rfl,rfl,hp2,ht2⟩:=hR;have hf2:=ht2 _ hf1;refine FA 177 bj aP ?_;refine SS 1 aP (aH _) (P9 _ rfl _) ?_;refine nx J12 (ac (PS ?_));refine CP Aj (kc rb v2 r2) ID (λ_ d _=>(hf2).more d) (λcP HP hP=>?_) (λvR HR hR=>?_);obtain⟨vP,rfl,rfl,hpP⟩:=hP;refine aQ (ay (WK [0] (aT ?_)));exact⟨_,rfl,rfl,by simp[cM,ax hp1,ax hp2,cg hpP,h10,h25,h29, *]⟩;obtain⟨a3,r3,v3,rfl,rfl,hp3,ht3⟩:=hR;have hf3:=ht3 _ hf2;refine FA 178 bj cK ?_;refine SP 1 cK aq aH P8 ?_;refine au (af (ad J3 (sr λ_ J13=>LW 1 bj cx aH ?_)));refine SW 2 cx aH ?_;refine PS ?_;refine nx J13 (ah (RT 2 [0] bj cx (aH _) ?_));exact⟨((MsgT.mk a1 0 RowT.zero 0 a2 a3 BallotT.zero ChangeT.zero ViewT.zero),true),_,_,rfl,rfl,by simp[cM,pr,ax hp1,ax hp2,ax hp3,h10,h25,h29,MsgT.zero,RecT.zero, *],(ht1.trans (ht2.trans ht3))⟩;refine sr λ_ J14=>PS ?_
 refine ap ?_ ?_<;>intro h39;refine PS ?_;refine nx J14 (CY (sr λ_ J15=>PS ?_));refine CP qK (jL rb v1 r1) (SM [1]) (λ_ d _=>(hf1).more d) (λcP HP hP=>?_) (λvR HR hR=>?_);obtain⟨vP,rfl,rfl,hpP⟩:=hP;refine ay (aQ (ay (WK [0] (aT ?_))));exact⟨_,rfl,rfl,by simp[cM,ez,fj,ax hp1,cg hpP,h10,h25,h29,h39, *]⟩;obtain⟨a2,r2,v2,rfl,rfl,hp2,ht2⟩:=hR;have hf2:=ht2 _ hf1;refine FA 177 bj aP ?_;refine SS 1 aP (aH _) (P9 _ rfl _) ?_;refine nx J15 (sr λ_ J16=>PS ?_);refine CP Aj (kc rb v2 r2) ID (λ_ d _=>(hf2).more d) (λcP HP hP=>?_) (λvR HR hR=>?_);obtain⟨vP,rfl,rfl,hpP⟩:=hP;refine ay (aQ (ay (WK [0] (aT ?_))));exact⟨_,rfl,rfl,by simp[cM,ez,fj,ax hp1,ax hp2,cg hpP,h10,h25,h29,h39, *]⟩;obtain⟨a3,r3,v3,rfl,rfl,hp3,ht3⟩:=hR;have hf3:=ht3 _ hf2;refine FA 178 bj cK ?_;refine SP 1 cK aq aH P8 ?_;refine nx J16 (sr λ_ J17=>PS ?_);refine CP Aj (kc rb v3 r3) ID (λ_ d _=>(hf3).more d) (λcP HP hP=>?_) (λvR HR hR=>?_);obtain⟨vP,rfl,rfl,hpP⟩:=hP;refine ay (aQ (ay (WK [0] (aT ?_))));exact⟨_,rfl,rfl,by simp[cM,ez,fj,ax hp1,ax hp2,ax hp3,cg hpP,h10,h25,h29,h39, *]⟩;obtain⟨a4,r4,v4,rfl,rfl,hp4,ht4⟩:=hR;have hf4:=ht4 _ hf3;refine FA 180 bj cK ?_;refine SP 1 cK aq aH MsgT.wp_had ?_;refine nx J17 (ac (PS ?_));refine CP Kc (py rb v4 r4) ID (λ_ d _=>(hf4).more d) (λcP HP hP=>?_) (λvR HR hR=>?_);obtain⟨vP,rfl,rfl,hpP⟩:=hP
 refine aQ (ay (WK [0] (aT ?_)));exact⟨_,rfl,rfl,by simp[cM,ez,fj,ax hp1,ax hp2,ax hp3,ax hp4,cg hpP,h10,h25,h29,h39, *]⟩;obtain⟨a5,r5,v5,rfl,rfl,hp5,ht5⟩:=hR;have hf5:=ht5 _ hf4;refine FA 182 bj fH ?_;refine SP 1 fH aJ aH P7 ?_;refine au (af (ad J3 (sr λ_ J18=>LW 1 bj cx aH ?_)));refine SW 2 cx aH ?_;refine PS ?_;refine nx J18 (ah (RT 2 [0] bj cx (aH _) ?_));exact⟨((MsgT.mk a1 0 RowT.zero 0 a2 a3 a4 a5 ViewT.zero),true),_,_,rfl,rfl,by simp[cM,ez,fj,pr,ax hp1,ax hp2,ax hp3,ax hp4,ax hp5,h10,h25,h29,h39,MsgT.zero,RecT.zero, *],(ht1.trans (ht2.trans (ht3.trans (ht4.trans ht5))))⟩;refine PS ?_;refine nx J14 (CN (sr λ_ J19=>PS ?_));refine ap ?_ ?_<;>intro h53;refine PS ?_;refine nx J19 (CY (sr λ_ J20=>PS ?_));refine CP qK (jL rb v1 r1) (SM [1]) (λ_ d _=>(hf1).more d) (λcP HP hP=>?_) (λvR HR hR=>?_);obtain⟨vP,rfl,rfl,hpP⟩:=hP;refine ay (aQ (ay (WK [0] (aT ?_))));exact⟨_,rfl,rfl,by simp[cM,ez,fj,ax hp1,cg hpP,h10,h25,h29,h39,h53, *]⟩;obtain⟨a2,r2,v2,rfl,rfl,hp2,ht2⟩:=hR;have hf2:=ht2 _ hf1;refine FA 177 bj aP ?_;refine SS 1 aP (aH _) (P9 _ rfl _) ?_;refine nx J20 (sr λ_ J21=>PS ?_);refine CP Aj (kc rb v2 r2) ID (λ_ d _=>(hf2).more d) (λcP HP hP=>?_) (λvR HR hR=>?_);obtain⟨vP,rfl,rfl,hpP⟩:=hP;refine ay (aQ (ay (WK [0] (aT ?_))));exact⟨_,rfl,rfl,by simp[cM,ez,fj,ax hp1,ax hp2,cg hpP,h10,h25,h29,h39,h53, *]⟩
 obtain⟨a3,r3,v3,rfl,rfl,hp3,ht3⟩:=hR;have hf3:=ht3 _ hf2;refine FA 178 bj cK ?_;refine SP 1 cK aq aH P8 ?_;refine nx J21 (ac (PS ?_));refine CP Kc (py rb v3 r3) ID (λ_ d _=>(hf3).more d) (λcP HP hP=>?_) (λvR HR hR=>?_);obtain⟨vP,rfl,rfl,hpP⟩:=hP;refine aQ (ay (WK [0] (aT ?_)));exact⟨_,rfl,rfl,by simp[cM,ez,fj,ax hp1,ax hp2,ax hp3,cg hpP,h10,h25,h29,h39,h53, *]⟩;obtain⟨a4,r4,v4,rfl,rfl,hp4,ht4⟩:=hR;have hf4:=ht4 _ hf3;refine FA 182 bj fH ?_;refine SP 1 fH aJ aH P7 ?_;refine au (af (ad J3 (sr λ_ J22=>LW 1 bj cx aH ?_)));refine SW 2 cx aH ?_;refine PS ?_;refine nx J22 (ah (RT 2 [0] bj cx (aH _) ?_));exact⟨((MsgT.mk a1 0 RowT.zero 0 a2 a3 BallotT.zero a4 ViewT.zero),true),_,_,rfl,rfl,by simp[cM,ez,fj,pr,ax hp1,ax hp2,ax hp3,ax hp4,h10,h25,h29,h39,h53,MsgT.zero,RecT.zero, *],(ht1.trans (ht2.trans (ht3.trans ht4)))⟩;refine PS ?_;refine nx J19 (CN (sr λ_ J23=>PS ?_));refine ap ?_ ?_<;>intro h64;refine PS ?_;refine nx J23 (CY (sr λ_ J24=>PS ?_));refine CP Kb (sw rb v1 r1) (SM [1]) (λ_ d _=>(hf1).more d) (λcP HP hP=>?_) (λvR HR hR=>?_);obtain⟨vP,rfl,rfl,hpP⟩:=hP;refine ay (aQ (ay (WK [0] (aT ?_))));exact⟨_,rfl,rfl,by simp[cM,ez,fj,ax hp1,cg hpP,h10,h25,h29,h39,h53,h64, *]⟩;obtain⟨a2,r2,v2,rfl,rfl,hp2,ht2⟩:=hR;have hf2:=ht2 _ hf1;refine FA 185 bj bl ?_;refine SP 1 bl ao aH MsgT.wp_view ?_;refine nx J24 (aa λ_ J25=>D1 1 bm ?_)
 refine LY 0 bj cx aH ?_;refine FD 1 185 bj bl ?_;refine ta 2 rfl (aN (vs:=ints a2.flat) rfl eF rfl bl rfl (λ_ h=>h.2.1) (ao a2) (wJ (MsgT.mk a1 0 RowT.zero 0 0 BallotT.zero BallotT.zero ChangeT.zero a2) 0 rfl (by decide) (whole (ao a2)))) ?_;refine AL 3 ?_;refine CE Ka (nH a2 (tc hp2)) ID ?_;refine EN (AL 4 ?_);refine SW 2 cx aH ?_;refine EN (PD 5 ?_);refine DN (ad J25 (ah (aI (ae (RT 2 [0] bj cx (aH _) ?_)))));exact⟨((MsgT.mk a1 0 RowT.zero 0 0 BallotT.zero BallotT.zero ChangeT.zero a2),(jH a2)),_,_,rfl,rfl,by simp[cM,ez,fj,pr,ax hp1,ax hp2,h10,h25,h29,h39,h53,h64,MsgT.zero,RecT.zero, *],(ht1.trans ht2)⟩;refine PS ?_;refine nx J23 (CN (sr λ_ J26=>PS ?_));refine ap ?_ ?_<;>intro h73;refine PS ?_;refine nx J26 (CY (sr λ_ J27=>PS ?_));refine CP jM (df rb v1 r1 (5)) (SM [1]) (λ_ d _=>(hf1).more d) (λcP HP hP=>?_) (λvR HR hR=>?_);obtain⟨vP,rfl,rfl,hpP⟩:=hP;refine ay (aQ (ay (WK [0] (aT ?_))));exact⟨_,rfl,rfl,by simp[cM,ez,fj,ax hp1,cg hpP,h10,h25,h29,h39,h53,h64,h73, *]⟩;obtain⟨a2,r2,v2,rfl,rfl,hp2,ht2⟩:=hR;have hf2:=ht2 _ hf1;refine FA 1 bj aP ?_;refine SS 1 aP (aH _) (MsgT.set_whose _ rfl _) ?_;refine nx J27 (sr λ_ J28=>PS ?_);refine CP Kb (sw rb v2 r2) ID (λ_ d _=>(hf2).more d) (λcP HP hP=>?_) (λvR HR hR=>?_);obtain⟨vP,rfl,rfl,hpP⟩:=hP;refine ay (aQ (ay (WK [0] (aT ?_))))
 exact⟨_,rfl,rfl,by simp[cM,ez,fj,ax hp1,ax hp2,cg hpP,h10,h25,h29,h39,h53,h64,h73, *]⟩;obtain⟨a3,r3,v3,rfl,rfl,hp3,ht3⟩:=hR;have hf3:=ht3 _ hf2;refine FA 185 bj bl ?_;refine SP 1 bl ao aH MsgT.wp_view ?_;refine nx J28 (aa λ_ J29=>D1 1 bm ?_);refine LY 0 bj cx aH ?_;refine FD 1 185 bj bl ?_;refine ta 2 rfl (aN (vs:=ints a3.flat) rfl eF rfl bl rfl (λ_ h=>h.2.1) (ao a3) (wJ (MsgT.mk a1 a2 RowT.zero 0 0 BallotT.zero BallotT.zero ChangeT.zero a3) 0 rfl (by decide) (whole (ao a3)))) ?_;refine AL 3 ?_;refine CE Ka (nH a3 (tc hp3)) ID ?_;refine EN (AL 4 ?_);refine SW 2 cx aH ?_;refine EN (PD 5 ?_);refine DN (ad J29 (ah (aI (ae (RT 2 [0] bj cx (aH _) ?_)))));exact⟨((MsgT.mk a1 a2 RowT.zero 0 0 BallotT.zero BallotT.zero ChangeT.zero a3),(jH a3)),_,_,rfl,rfl,by simp[cM,ez,fj,pr,ax hp1,ax hp2,ax hp3,h10,h25,h29,h39,h53,h64,h73,MsgT.zero,RecT.zero, *],(ht1.trans (ht2.trans ht3))⟩;refine PS ?_;refine nx J26 (CN (aR (af (ad J3 (sr λ_ J30=>LW 0 bj cx aH ?_)))));refine SW 2 cx aH ?_;refine PS ?_;refine nx J30 (ah (RT 2 [1] bj cx (aH _) ?_));exact⟨((MsgT.mk a1 0 RowT.zero 0 0 BallotT.zero BallotT.zero ChangeT.zero ViewT.zero),true),_,_,rfl,rfl,by simp[cM,pr,ax hp1,h10,h25,h29,h39,h53,h64,h73,MsgT.zero,RecT.zero, *],ht1⟩;refine sr λ_ J31=>P2 ?_
 refine ap ?_ ?_<;>intro h29;refine nx J31 (CY (aR ?_))
 exact aE
  (aX (aX (aX (aX (aX (bN rfl (by simp[fj, *]) SB))))))
  (λ_ s=>s)
  (tl11 (():Unit) trivial)
 refine nx J31 (CN (ac (PS ?_)));refine ap ?_ ?_<;>intro h31;refine PS ?_;refine au ?_
 exact aE
  (aX (aX (aX (aX (aX (bN rfl (by simp[fj, *]) SB))))))
  (λ_ s=>s)
  (tl11 (():Unit) trivial)
 refine PS ?_;refine au ?_
 exact aE
  (aX (aX (aX (aX (aX (bN rfl (by simp[fj, *]) SB))))))
  (λ_ s=>s)
  (tl11 (():Unit) trivial)
 refine sr λ_ J32=>P2 ?_
 refine ap ?_ ?_<;>intro h10;refine nx J32 (CY (aR ?_))
 exact aE
  (aX (aX (aX (aX (aX (bN rfl (by simp[ez, *]) SB))))))
  (λ_ s=>s)
  (tl5 (():Unit) trivial)
 refine nx J32 (CN (sr λ_ J33=>P2 ?_));refine ap ?_ ?_<;>intro h10;refine nx J33 (CY (aR ?_))
 exact aE
  (aX (aX (aX (aX (aX (bN rfl (by simp[ez, *]) SB))))))
  (λ_ s=>s)
  (tl5 (():Unit) trivial)
 refine nx J33 (CN (ac (PS ?_)));refine ap ?_ ?_<;>intro h13;refine PS ?_;refine au ?_
 exact aE
  (aX (aX (aX (aX (aX (bN rfl (by simp[ez, *]) SB))))))
  (λ_ s=>s)
  (tl5 (():Unit) trivial)
 refine PS ?_;refine au ?_
 exact aE
  (aX (aX (aX (aX (aX (bN rfl (by simp[ez, *]) SB))))))
  (λ_ s=>s)
  (tl5 (():Unit) trivial)
theorem Bl(rb:Nat)(v:Value)(bs:List UInt8):
 DT 90 #[(.pointer (some ⟨rb,0,none⟩))] (IsB v bs) [aj rb [v] 216] (oM 216 jc (λmb:RecT×Bool=> .tuple #[.agg (ints mb.1.flat).toArray, .bool mb.2]) dK v bs rb):=by
 refine BD 65 Tryz.func90 rfl rfl rfl λw0 F hF=>sr λ_ J1=>XZ I7 (ints RecT.zero.flat) λb2=>?_
 refine PS ?_;refine nx J1 (sr λ_ J2=>PS ?_);refine CP jM (df rb v bs (6)) (SM [1]) (λ_ d _=>(hF).more d) (λcP HP hP=>?_) (λvR HR hR=>?_);obtain⟨vP,rfl,rfl,hpP⟩:=hP;refine ay (WK [0] (aT ?_));exact⟨_,rfl,rfl,by simp[dK,ez,fj,cg hpP, *]⟩;obtain⟨a1,r1,v1,rfl,rfl,hp1,ht1⟩:=hR;have hf1:=ht1 _ hF;refine tp (kR RecT.zero (RecT.mk a1 0 RowT.zero 0 BallotT.zero ChangeT.zero ViewT.zero) [(0,[Value.int .i64 a1])] eG fD (g:=RecT.sg)) ?_;refine XZ I7 (ints RecT.zero.flat) λb4=>?_
 refine SW 0 gx bA ?_;refine nx J2 (aa λ_ J3=>sr λ_ J4=>FA 0 eG aP ?_);refine LT 0 Y3 (.int .i64 (a1)) ?_ (hc:=by exact lv _ rfl);refine nx J4 (am (sr λ_ J5=>PS ?_));refine ap ?_ ?_<;>intro h11;refine PS ?_;refine nx J5 (CY (sr λ_ J6=>PS ?_));refine CP Ke (uQ rb v1 r1) (SM [1]) (λ_ d _=>(hf1).more d) (λcP HP hP=>?_) (λvR HR hR=>?_);obtain⟨vP,rfl,rfl,hpP⟩:=hP;refine ay (aQ (ay (WK [0] (aT ?_))));exact⟨_,rfl,rfl,by simp[dK,ez,fj,ax hp1,cg hpP,h11, *]⟩;obtain⟨a2,r2,v2,rfl,rfl,hp2,ht2⟩:=hR;have hf2:=ht2 _ hf1;refine FA 2 eG bg ?_;refine SP 1 bg ai bA RecT.wp_row ?_;refine nx J6 (aa λ_ J7=>D1 1 bm ?_);refine LY 0 eG gx bA ?_;refine FD 1 2 eG bg ?_;refine ta 2 rfl (aN (vs:=ints a2.flat) rfl ek rfl bg rfl (λ_ h=>h.2.1) (ai a2) (sT (RecT.mk a1 0 a2 0 BallotT.zero ChangeT.zero ViewT.zero) 0 rfl (by decide) (whole (ai a2)))) ?_;refine AL 3 ?_;refine CE JU (kD a2 (Bh hp2)) ID ?_;refine EN (AL 4 ?_);refine SW 2 gx bA ?_;refine EN (PD 5 ?_);refine DN (ad J7 (ah (aI (ae (RT 2 [0] eG gx (bA _) ?_)))));exact⟨((RecT.mk a1 0 a2 0 BallotT.zero ChangeT.zero ViewT.zero),(gi a2)),_,_,rfl,rfl,by simp[dK,ez,fj,pr,ax hp1,ax hp2,h11,MsgT.zero,RecT.zero, *],(ht1.trans ht2)⟩;refine PS ?_;refine nx J5 (CN (sr λ_ J8=>PS ?_));refine ap ?_ ?_<;>intro h20;refine PS ?_;refine nx J8 (CY (sr λ_ J9=>PS ?_))
 refine CP jM (df rb v1 r1 (5)) (SM [1]) (λ_ d _=>(hf1).more d) (λcP HP hP=>?_) (λvR HR hR=>?_);obtain⟨vP,rfl,rfl,hpP⟩:=hP;refine ay (aQ (ay (WK [0] (aT ?_))));exact⟨_,rfl,rfl,by simp[dK,ez,fj,ax hp1,cg hpP,h11,h20, *]⟩;obtain⟨a2,r2,v2,rfl,rfl,hp2,ht2⟩:=hR;have hf2:=ht2 _ hf1;refine FA 1 eG aP ?_;refine SS 1 aP (bA _) (RecT.set_whose _ rfl _) ?_;refine nx J9 (sr λ_ J10=>PS ?_);refine CP Ke (uQ rb v2 r2) ID (λ_ d _=>(hf2).more d) (λcP HP hP=>?_) (λvR HR hR=>?_);obtain⟨vP,rfl,rfl,hpP⟩:=hP;refine ay (aQ (ay (WK [0] (aT ?_))));exact⟨_,rfl,rfl,by simp[dK,ez,fj,ax hp1,ax hp2,cg hpP,h11,h20, *]⟩;obtain⟨a3,r3,v3,rfl,rfl,hp3,ht3⟩:=hR;have hf3:=ht3 _ hf2;refine FA 2 eG bg ?_;refine SP 1 bg ai bA RecT.wp_row ?_;refine nx J10 (aa λ_ J11=>D1 1 bm ?_);refine LY 0 eG gx bA ?_;refine FD 1 2 eG bg ?_;refine ta 2 rfl (aN (vs:=ints a3.flat) rfl ek rfl bg rfl (λ_ h=>h.2.1) (ai a3) (sT (RecT.mk a1 a2 a3 0 BallotT.zero ChangeT.zero ViewT.zero) 0 rfl (by decide) (whole (ai a3)))) ?_;refine AL 3 ?_;refine CE JU (kD a3 (Bh hp3)) ID ?_;refine EN (AL 4 ?_);refine SW 2 gx bA ?_;refine EN (PD 5 ?_);refine DN (ad J11 (ah (aI (ae (RT 2 [0] eG gx (bA _) ?_)))));exact⟨((RecT.mk a1 a2 a3 0 BallotT.zero ChangeT.zero ViewT.zero),(gi a3)),_,_,rfl,rfl,by simp[dK,ez,fj,pr,ax hp1,ax hp2,ax hp3,h11,h20,MsgT.zero,RecT.zero, *],(ht1.trans (ht2.trans ht3))⟩;refine PS ?_
 refine nx J8 (CN (sr λ_ J12=>PS ?_));refine ap ?_ ?_<;>intro h32;refine PS ?_;refine nx J12 (CY (ac (PS ?_)));refine CP jM (df rb v1 r1 (5)) (SM [1]) (λ_ d _=>(hf1).more d) (λcP HP hP=>?_) (λvR HR hR=>?_);obtain⟨vP,rfl,rfl,hpP⟩:=hP;refine aQ (ay (WK [0] (aT ?_)));exact⟨_,rfl,rfl,by simp[dK,ez,fj,ax hp1,cg hpP,h11,h20,h32, *]⟩;obtain⟨a2,r2,v2,rfl,rfl,hp2,ht2⟩:=hR;have hf2:=ht2 _ hf1;refine FA 1 eG aP ?_;refine SS 1 aP (bA _) (RecT.set_whose _ rfl _) ?_;refine au (af (ad J3 (sr λ_ J13=>LW 1 eG gx bA ?_)));refine SW 2 gx bA ?_;refine PS ?_;refine nx J13 (ah (RT 2 [0] eG gx (bA _) ?_));exact⟨((RecT.mk a1 a2 RowT.zero 0 BallotT.zero ChangeT.zero ViewT.zero),true),_,_,rfl,rfl,by simp[dK,ez,fj,pr,ax hp1,ax hp2,h11,h20,h32,MsgT.zero,RecT.zero, *],(ht1.trans ht2)⟩;refine PS ?_;refine nx J12 (CN (sr λ_ J14=>PS ?_));refine ap ?_ ?_<;>intro h37;refine PS ?_;refine nx J14 (CY (sr λ_ J15=>PS ?_));refine CP qK (jL rb v1 r1) (SM [1]) (λ_ d _=>(hf1).more d) (λcP HP hP=>?_) (λvR HR hR=>?_);obtain⟨vP,rfl,rfl,hpP⟩:=hP;refine ay (aQ (ay (WK [0] (aT ?_))));exact⟨_,rfl,rfl,by simp[dK,ez,fj,ax hp1,cg hpP,h11,h20,h32,h37, *]⟩;obtain⟨a2,r2,v2,rfl,rfl,hp2,ht2⟩:=hR;have hf2:=ht2 _ hf1;refine FA 176 eG aP ?_;refine SS 1 aP (bA _) (RecT.set_epoch _ rfl _) ?_;refine nx J15 (ac (PS ?_))
 refine CP Aj (kc rb v2 r2) ID (λ_ d _=>(hf2).more d) (λcP HP hP=>?_) (λvR HR hR=>?_);obtain⟨vP,rfl,rfl,hpP⟩:=hP;refine aQ (ay (WK [0] (aT ?_)));exact⟨_,rfl,rfl,by simp[dK,ez,fj,ax hp1,ax hp2,cg hpP,h11,h20,h32,h37, *]⟩;obtain⟨a3,r3,v3,rfl,rfl,hp3,ht3⟩:=hR;have hf3:=ht3 _ hf2;refine FA 177 eG cK ?_;refine SP 1 cK aq bA RecT.wp_ballot ?_;refine au (af (ad J3 (sr λ_ J16=>LW 1 eG gx bA ?_)));refine SW 2 gx bA ?_;refine PS ?_;refine nx J16 (ah (RT 2 [0] eG gx (bA _) ?_));exact⟨((RecT.mk a1 0 RowT.zero a2 a3 ChangeT.zero ViewT.zero),true),_,_,rfl,rfl,by simp[dK,ez,fj,pr,ax hp1,ax hp2,ax hp3,h11,h20,h32,h37,MsgT.zero,RecT.zero, *],(ht1.trans (ht2.trans ht3))⟩;refine PS ?_;refine nx J14 (CN (sr λ_ J17=>PS ?_));refine ap ?_ ?_<;>intro h45;refine PS ?_;refine nx J17 (CY (sr λ_ J18=>PS ?_));refine CP qK (jL rb v1 r1) (SM [1]) (λ_ d _=>(hf1).more d) (λcP HP hP=>?_) (λvR HR hR=>?_);obtain⟨vP,rfl,rfl,hpP⟩:=hP;refine ay (aQ (ay (WK [0] (aT ?_))));exact⟨_,rfl,rfl,by simp[dK,ez,fj,ax hp1,cg hpP,h11,h20,h32,h37,h45, *]⟩;obtain⟨a2,r2,v2,rfl,rfl,hp2,ht2⟩:=hR;have hf2:=ht2 _ hf1;refine FA 176 eG aP ?_;refine SS 1 aP (bA _) (RecT.set_epoch _ rfl _) ?_;refine nx J18 (sr λ_ J19=>PS ?_);refine CP Aj (kc rb v2 r2) ID (λ_ d _=>(hf2).more d) (λcP HP hP=>?_) (λvR HR hR=>?_);obtain⟨vP,rfl,rfl,hpP⟩:=hP;refine ay (aQ (ay (WK [0] (aT ?_))))
 exact⟨_,rfl,rfl,by simp[dK,ez,fj,ax hp1,ax hp2,cg hpP,h11,h20,h32,h37,h45, *]⟩;obtain⟨a3,r3,v3,rfl,rfl,hp3,ht3⟩:=hR;have hf3:=ht3 _ hf2;refine FA 177 eG cK ?_;refine SP 1 cK aq bA RecT.wp_ballot ?_;refine nx J19 (ac (PS ?_));refine CP Kc (py rb v3 r3) ID (λ_ d _=>(hf3).more d) (λcP HP hP=>?_) (λvR HR hR=>?_);obtain⟨vP,rfl,rfl,hpP⟩:=hP;refine aQ (ay (WK [0] (aT ?_)));exact⟨_,rfl,rfl,by simp[dK,ez,fj,ax hp1,ax hp2,ax hp3,cg hpP,h11,h20,h32,h37,h45, *]⟩;obtain⟨a4,r4,v4,rfl,rfl,hp4,ht4⟩:=hR;have hf4:=ht4 _ hf3;refine FA 179 eG fH ?_;refine SP 1 fH aJ bA RecT.wp_change ?_;refine au (af (ad J3 (sr λ_ J20=>LW 1 eG gx bA ?_)));refine SW 2 gx bA ?_;refine PS ?_;refine nx J20 (ah (RT 2 [0] eG gx (bA _) ?_));exact⟨((RecT.mk a1 0 RowT.zero a2 a3 a4 ViewT.zero),true),_,_,rfl,rfl,by simp[dK,ez,fj,pr,ax hp1,ax hp2,ax hp3,ax hp4,h11,h20,h32,h37,h45,MsgT.zero,RecT.zero, *],(ht1.trans (ht2.trans (ht3.trans ht4)))⟩;refine PS ?_;refine nx J17 (CN (sr λ_ J21=>PS ?_));refine ap ?_ ?_<;>intro h56;refine PS ?_;refine nx J21 (CY (sr λ_ J22=>PS ?_));refine CP Kb (sw rb v1 r1) (SM [1]) (λ_ d _=>(hf1).more d) (λcP HP hP=>?_) (λvR HR hR=>?_);obtain⟨vP,rfl,rfl,hpP⟩:=hP;refine ay (aQ (ay (WK [0] (aT ?_))));exact⟨_,rfl,rfl,by simp[dK,ez,fj,ax hp1,cg hpP,h11,h20,h32,h37,h45,h56, *]⟩;obtain⟨a2,r2,v2,rfl,rfl,hp2,ht2⟩:=hR;have hf2:=ht2 _ hf1
 refine FA 182 eG bl ?_;refine SP 1 bl ao bA RecT.wp_view ?_;refine nx J22 (aa λ_ J23=>D1 1 bm ?_);refine LY 0 eG gx bA ?_;refine FD 1 182 eG bl ?_;refine ta 2 rfl (aN (vs:=ints a2.flat) rfl eF rfl bl rfl (λ_ h=>h.2.1) (ao a2) (Ro (RecT.mk a1 0 RowT.zero 0 BallotT.zero ChangeT.zero a2) 0 rfl (by decide) (whole (ao a2)))) ?_;refine AL 3 ?_;refine CE Ka (nH a2 (tc hp2)) ID ?_;refine EN (AL 4 ?_);refine SW 2 gx bA ?_;refine EN (PD 5 ?_);refine DN (ad J23 (ah (aI (ae (RT 2 [0] eG gx (bA _) ?_)))));exact⟨((RecT.mk a1 0 RowT.zero 0 BallotT.zero ChangeT.zero a2),(jH a2)),_,_,rfl,rfl,by simp[dK,ez,fj,pr,ax hp1,ax hp2,h11,h20,h32,h37,h45,h56,MsgT.zero,RecT.zero, *],(ht1.trans ht2)⟩;refine PS ?_;refine nx J21 (CN (aR (af (ad J3 (sr λ_ J24=>LW 0 eG gx bA ?_)))));refine SW 2 gx bA ?_;refine PS ?_;refine nx J24 (ah (RT 2 [1] eG gx (bA _) ?_));exact⟨((RecT.mk a1 0 RowT.zero 0 BallotT.zero ChangeT.zero ViewT.zero),true),_,_,rfl,rfl,by simp[dK,ez,fj,pr,ax hp1,h11,h20,h32,h37,h45,h56,MsgT.zero,RecT.zero, *],ht1⟩
theorem FI(rb mb gb:Nat)(v:Value)(bs:List UInt8)(m0:MsgT)(g0:Bool):
 DT 102 #[(.pointer (some ⟨rb,0,none⟩)),(.pointer (some ⟨mb,0,none⟩)),(.pointer (some ⟨gb,0,none⟩))] (IsB v bs) [aj rb [v] 216,aj mb (ints m0.flat) 134,aj gb [(.bool (g0))] 4] (wG (λ_ H=>∃x' r a,H=aj rb [x'] 216::[aj mb (ints a.1.flat) 134,aj gb [.bool a.2] 4]∧Tail v bs x' r∧cM bs=some (a,r)) (λc H=>c=jc∧∃(x':Value) (_:Unit),H=aj rb [x'] 216::[aj mb (ints m0.flat) 134,aj gb [.bool g0] 4]∧cM bs=none)):=by
 refine BD 9 Tryz.func102 rfl rfl rfl λw0 F hF=>ac (PS ?_)
 refine CP PI (Bm rb v bs) ID (λ_ d _=>(hF).more d) (λcP HP hP=>?_) (λvR HR hR=>?_);obtain⟨vP,rfl,rfl,hpP⟩:=hP;exact WK [0,0,0] (aT ⟨rfl,_,(),rfl,hpP⟩);obtain⟨a1,r1,v1,rfl,rfl,hp1,ht1⟩:=hR;refine P3 ?_;refine SW 1 cx aH ?_;refine S0 2 lW ?_;exact au (WK [0,0,0] (bC rfl ⟨_,_,_,rfl,ht1,hp1⟩))
theorem El(x:Value)(bs:List UInt8):
 DT 59 #[x] (IsB x bs) [] (RI (.tuple #[.agg (ints (jy bs).1.flat).toArray, .int .i64 (jy bs).2]) []):=by
 refine Leg.Does.body (vs:=[x]) (n:=18) Tryz.func59 rfl rfl rfl (λw0 F hF=>?_);refine sr λ_ J1=>?_
 refine q6 (ab rfl) rfl rfl rfl nf (λb2=>?_);change TL _ _ _ _ _ _ _ _ _ [aj b2 (ints MsgT.zero.flat) 134];refine qg ?_;refine nx J1 ?_;clear J1;refine sr λ_ J2=>?_
 refine q6 (ab rfl) rfl rfl rfl nf (λb4=>?_);change TL _ _ _ _ _ _ _ _ _ [aj b4 (ints MsgT.zero.flat) 134,aj b2 (ints MsgT.zero.flat) 134];refine nx J2 ?_;clear J2;refine sr λ_ J3=>?_
 refine q6 (ab rfl) rfl rfl rfl z4 (λb5=>?_);refine bJ (i:=0) (ab rfl) rfl rfl rfl rfl rfl lW rfl rfl (lb rfl) rfl rfl ?_;refine nx J3 ?_;clear J3;refine sr λ_ J4=>?_
 refine mv ?_;refine tp (RB rfl rfl) ?_;refine lU (ab rfl) rfl rfl rfl OU rfl (zY (bs:=bs) (C:=[aj b4 (ints MsgT.zero.flat) 134,aj b5 [(.bool false)] 4]) (caps:=[(.pointer (some ⟨b4,0,none⟩)),(.pointer (some ⟨b5,0,none⟩))]) (A:=λa:MsgT×Bool=>[aj b4 (ints a.1.flat) 134,aj b5 [.bool a.2] 4]) (G:=λ_:Unit=>[aj b4 (ints MsgT.zero.flat) 134,aj b5 [(.bool false)] 4]) (φ:=λa r=>cM bs=some (a,r)) (ψ:=λ_=>cM bs=none) (λ_ h=>h) (λ_ _ h d=>h.more d) PJ (λrb=>FI rb b4 b5 x bs MsgT.zero false)) (λ_ s=>aD [1,0] rfl s) (λ_ d _=>(hF).more d) (λvR HR hR=>?_);rcases hR with⟨r,⟨m,g⟩,rfl,rfl,hs⟩| ⟨_,rfl,rfl,hs⟩
 refine ap (λh9=>?_) (λh9=>?_);refine qg ?_;refine nx J4 ?_;clear J4;refine aa λ_ J5=>?_
 refine sr λ_ J6=>?_
 refine mv ?_;refine tp (pd (r:=false) rfl rfl rfl) ?_;refine mv ?_;refine tq (fN (v:=(.bool (g))) rfl Y4 rfl rfl (fE 1 rfl rfl) rfl) ?_;refine bh (λh13=>?_) (λh13=>?_);refine tq (pd (r:=false) rfl rfl rfl) ?_;refine tp (zp rfl rfl rfl) ?_;refine nx J6 ?_;clear J6;refine G8 rfl ?_;refine aR ?_;refine ad J5 ?_;clear J5;refine sr λ_ J7=>?_
 refine tp (aN (vs:=ints m.flat) rfl bj rfl cx rfl (fE 0 rfl rfl) (aH m) (whole (aH m))) ?_;refine bX (vs:=ints m.flat) (i:=2) (ab rfl) rfl rfl rfl rfl rfl (by rw[(aH m)];exact cx) (bw _) rfl rfl (by have h0:=(aH MsgT.zero);have h1:=(aH m);omega) (cz ((aH MsgT.zero).trans (aH m).symm)) rfl ?_;refine qg ?_;refine nx J7 ?_;clear J7;refine ah ?_;refine mN (H':=[]) rfl rfl rfl bj rfl cx (fE 2 rfl rfl) (aH m) (λ_ s=>ak [] rfl s) ?_;exact⟨by simp[jy, *],rfl⟩;refine tq (pd (r:=true) rfl rfl rfl) ?_;refine tp (zp rfl rfl rfl) ?_;refine nx J6 ?_;clear J6;refine oi rfl ?_;refine sr λ_ J8=>?_
 refine tp (kM (cells:=(ints MsgT.zero.flat).toArray) rfl rfl (by as_aux_lemma=>kernel_rfl)) ?_;refine bX (vs:=ints MsgT.zero.flat) (i:=2) (ab rfl) rfl rfl rfl rfl rfl (by rw[(aH MsgT.zero)];exact cx) (bw _) rfl rfl (by have h0:=(aH MsgT.zero);have h1:=(aH MsgT.zero);omega) (cz ((aH MsgT.zero).trans (aH MsgT.zero).symm)) rfl ?_;refine qg ?_;refine nx J8 ?_;clear J8;refine ah ?_;refine ae ?_;clear J5;refine mN (H':=[]) rfl rfl rfl bj rfl cx (fE 2 rfl rfl) (aH MsgT.zero) (λ_ s=>ak [] rfl s) ?_;exact⟨by simp[jy, *],rfl⟩;refine qg ?_;refine nx J4 ?_;clear J4;refine aa λ_ J9=>?_
 refine sr λ_ J10=>?_
 refine mv ?_;refine tp (pd (r:=true) rfl rfl rfl) ?_;refine mv ?_;refine qZ (b:=true) rfl rfl rfl rfl (lb rfl) ?_;refine qZ (b:=true) rfl rfl rfl rfl (lb rfl) ?_;refine tp (zp rfl rfl rfl) ?_;refine nx J10 ?_;clear J10;refine oi rfl ?_;refine sr λ_ J11=>?_
 refine tp (kM (cells:=(ints MsgT.zero.flat).toArray) rfl rfl (by as_aux_lemma=>kernel_rfl)) ?_;refine bX (vs:=ints MsgT.zero.flat) (i:=2) (ab rfl) rfl rfl rfl rfl rfl (by rw[(aH MsgT.zero)];exact cx) (bw _) rfl rfl (by have h0:=(aH MsgT.zero);have h1:=(aH MsgT.zero);omega) (cz ((aH MsgT.zero).trans (aH MsgT.zero).symm)) rfl ?_;refine qg ?_;refine nx J11 ?_;clear J11;refine ah ?_;refine ae ?_;clear J9;refine mN (H':=[]) rfl rfl rfl bj rfl cx (fE 2 rfl rfl) (aH MsgT.zero) (λ_ s=>ak [] rfl s) ?_;exact⟨by simp[jy, *],rfl⟩;refine qg ?_;refine nx J4 ?_;clear J4;refine aa λ_ J12=>?_
 refine sr λ_ J13=>?_
 refine mv ?_;refine tp (pd (r:=true) rfl rfl rfl) ?_;refine mv ?_;refine qZ (b:=true) rfl rfl rfl rfl (lb rfl) ?_;refine qZ (b:=true) rfl rfl rfl rfl (lb rfl) ?_;refine tp (zp rfl rfl rfl) ?_;refine nx J13 ?_;clear J13;refine oi rfl ?_;refine sr λ_ J14=>?_
 refine tp (kM (cells:=(ints MsgT.zero.flat).toArray) rfl rfl (by as_aux_lemma=>kernel_rfl)) ?_;refine bX (vs:=ints MsgT.zero.flat) (i:=2) (ab rfl) rfl rfl rfl rfl rfl (by rw[(aH MsgT.zero)];exact cx) (bw _) rfl rfl (by have h0:=(aH MsgT.zero);have h1:=(aH MsgT.zero);omega) (cz ((aH MsgT.zero).trans (aH MsgT.zero).symm)) rfl ?_;refine qg ?_;refine nx J14 ?_;clear J14;refine ah ?_;refine ae ?_;clear J12;refine mN (H':=[]) rfl rfl rfl bj rfl cx (fE 2 rfl rfl) (aH MsgT.zero) (λ_ s=>ak [] rfl s) ?_;exact⟨by simp[jy, *],rfl⟩
theorem HQ(rb mb gb:Nat)(v:Value)(bs:List UInt8)(m0:RecT)(g0:Bool):
 DT 89 #[(.pointer (some ⟨rb,0,none⟩)),(.pointer (some ⟨mb,0,none⟩)),(.pointer (some ⟨gb,0,none⟩))] (IsB v bs) [aj rb [v] 216,aj mb (ints m0.flat) 118,aj gb [(.bool (g0))] 4] (wG (λ_ H=>∃x' r a,H=aj rb [x'] 216::[aj mb (ints a.1.flat) 118,aj gb [.bool a.2] 4]∧Tail v bs x' r∧dK bs=some (a,r)) (λc H=>c=jc∧∃(x':Value) (_:Unit),H=aj rb [x'] 216::[aj mb (ints m0.flat) 118,aj gb [.bool g0] 4]∧dK bs=none)):=by
 refine BD 9 Tryz.func89 rfl rfl rfl λw0 F hF=>ac (PS ?_)
 refine CP QH (Bl rb v bs) ID (λ_ d _=>(hF).more d) (λcP HP hP=>?_) (λvR HR hR=>?_);obtain⟨vP,rfl,rfl,hpP⟩:=hP;exact WK [0,0,0] (aT ⟨rfl,_,(),rfl,hpP⟩);obtain⟨a1,r1,v1,rfl,rfl,hp1,ht1⟩:=hR;refine P3 ?_;refine SW 1 gx bA ?_;refine S0 2 lW ?_;exact au (WK [0,0,0] (bC rfl ⟨_,_,_,rfl,ht1,hp1⟩))
theorem wt(x:Value)(bs:List UInt8):
 DT 46 #[x] (IsB x bs) [] (RI (.tuple #[.agg (ints (o8 bs).1.flat).toArray, .int .i64 (o8 bs).2]) []):=by
 refine Leg.Does.body (vs:=[x]) (n:=18) Tryz.func46 rfl rfl rfl (λw0 F hF=>?_);refine sr λ_ J1=>?_
 refine q6 (ab rfl) rfl rfl rfl I7 (λb2=>?_);change TL _ _ _ _ _ _ _ _ _ [aj b2 (ints RecT.zero.flat) 118];refine qg ?_;refine nx J1 ?_;clear J1;refine sr λ_ J2=>?_
 refine q6 (ab rfl) rfl rfl rfl I7 (λb4=>?_);change TL _ _ _ _ _ _ _ _ _ [aj b4 (ints RecT.zero.flat) 118,aj b2 (ints RecT.zero.flat) 118];refine nx J2 ?_;clear J2;refine sr λ_ J3=>?_
 refine q6 (ab rfl) rfl rfl rfl z4 (λb5=>?_);refine bJ (i:=0) (ab rfl) rfl rfl rfl rfl rfl lW rfl rfl (lb rfl) rfl rfl ?_;refine nx J3 ?_;clear J3;refine sr λ_ J4=>?_
 refine mv ?_;refine tp (RB rfl rfl) ?_;refine lU (ab rfl) rfl rfl rfl OU rfl (zY (bs:=bs) (C:=[aj b4 (ints RecT.zero.flat) 118,aj b5 [(.bool false)] 4]) (caps:=[(.pointer (some ⟨b4,0,none⟩)),(.pointer (some ⟨b5,0,none⟩))]) (A:=λa:RecT×Bool=>[aj b4 (ints a.1.flat) 118,aj b5 [.bool a.2] 4]) (G:=λ_:Unit=>[aj b4 (ints RecT.zero.flat) 118,aj b5 [(.bool false)] 4]) (φ:=λa r=>dK bs=some (a,r)) (ψ:=λ_=>dK bs=none) (λ_ h=>h) (λ_ _ h d=>h.more d) QI (λrb=>HQ rb b4 b5 x bs RecT.zero false)) (λ_ s=>aD [1,0] rfl s) (λ_ d _=>(hF).more d) (λvR HR hR=>?_);rcases hR with⟨r,⟨m,g⟩,rfl,rfl,hs⟩| ⟨_,rfl,rfl,hs⟩
 refine ap (λh9=>?_) (λh9=>?_);refine qg ?_;refine nx J4 ?_;clear J4;refine aa λ_ J5=>?_
 refine sr λ_ J6=>?_
 refine mv ?_;refine tp (pd (r:=false) rfl rfl rfl) ?_;refine mv ?_;refine tq (fN (v:=(.bool (g))) rfl Y4 rfl rfl (fE 1 rfl rfl) rfl) ?_;refine bh (λh13=>?_) (λh13=>?_);refine tq (pd (r:=false) rfl rfl rfl) ?_;refine tp (zp rfl rfl rfl) ?_;refine nx J6 ?_;clear J6;refine G8 rfl ?_;refine aR ?_;refine ad J5 ?_;clear J5;refine sr λ_ J7=>?_
 refine tp (aN (vs:=ints m.flat) rfl eG rfl gx rfl (fE 0 rfl rfl) (bA m) (whole (bA m))) ?_;refine bX (vs:=ints m.flat) (i:=2) (ab rfl) rfl rfl rfl rfl rfl (by rw[(bA m)];exact gx) (bw _) rfl rfl (by have h0:=(bA RecT.zero);have h1:=(bA m);omega) (cz ((bA RecT.zero).trans (bA m).symm)) rfl ?_;refine qg ?_;refine nx J7 ?_;clear J7;refine ah ?_;refine mN (H':=[]) rfl rfl rfl eG rfl gx (fE 2 rfl rfl) (bA m) (λ_ s=>ak [] rfl s) ?_;exact⟨by simp[o8, *],rfl⟩;refine tq (pd (r:=true) rfl rfl rfl) ?_;refine tp (zp rfl rfl rfl) ?_;refine nx J6 ?_;clear J6;refine oi rfl ?_;refine sr λ_ J8=>?_
 refine tp (kM (cells:=(ints RecT.zero.flat).toArray) rfl rfl (by as_aux_lemma=>kernel_rfl)) ?_;refine bX (vs:=ints RecT.zero.flat) (i:=2) (ab rfl) rfl rfl rfl rfl rfl (by rw[(bA RecT.zero)];exact gx) (bw _) rfl rfl (by have h0:=(bA RecT.zero);have h1:=(bA RecT.zero);omega) (cz ((bA RecT.zero).trans (bA RecT.zero).symm)) rfl ?_;refine qg ?_;refine nx J8 ?_;clear J8;refine ah ?_;refine ae ?_;clear J5;refine mN (H':=[]) rfl rfl rfl eG rfl gx (fE 2 rfl rfl) (bA RecT.zero) (λ_ s=>ak [] rfl s) ?_;exact⟨by simp[o8, *],rfl⟩;refine qg ?_;refine nx J4 ?_;clear J4;refine aa λ_ J9=>?_
 refine sr λ_ J10=>?_
 refine mv ?_;refine tp (pd (r:=true) rfl rfl rfl) ?_;refine mv ?_;refine qZ (b:=true) rfl rfl rfl rfl (lb rfl) ?_;refine qZ (b:=true) rfl rfl rfl rfl (lb rfl) ?_;refine tp (zp rfl rfl rfl) ?_;refine nx J10 ?_;clear J10;refine oi rfl ?_;refine sr λ_ J11=>?_
 refine tp (kM (cells:=(ints RecT.zero.flat).toArray) rfl rfl (by as_aux_lemma=>kernel_rfl)) ?_;refine bX (vs:=ints RecT.zero.flat) (i:=2) (ab rfl) rfl rfl rfl rfl rfl (by rw[(bA RecT.zero)];exact gx) (bw _) rfl rfl (by have h0:=(bA RecT.zero);have h1:=(bA RecT.zero);omega) (cz ((bA RecT.zero).trans (bA RecT.zero).symm)) rfl ?_;refine qg ?_;refine nx J11 ?_;clear J11;refine ah ?_;refine ae ?_;clear J9;refine mN (H':=[]) rfl rfl rfl eG rfl gx (fE 2 rfl rfl) (bA RecT.zero) (λ_ s=>ak [] rfl s) ?_;exact⟨by simp[o8, *],rfl⟩;refine qg ?_;refine nx J4 ?_;clear J4;refine aa λ_ J12=>?_
 refine sr λ_ J13=>?_
 refine mv ?_;refine tp (pd (r:=true) rfl rfl rfl) ?_;refine mv ?_;refine qZ (b:=true) rfl rfl rfl rfl (lb rfl) ?_;refine qZ (b:=true) rfl rfl rfl rfl (lb rfl) ?_;refine tp (zp rfl rfl rfl) ?_;refine nx J13 ?_;clear J13;refine oi rfl ?_;refine sr λ_ J14=>?_
 refine tp (kM (cells:=(ints RecT.zero.flat).toArray) rfl rfl (by as_aux_lemma=>kernel_rfl)) ?_;refine bX (vs:=ints RecT.zero.flat) (i:=2) (ab rfl) rfl rfl rfl rfl rfl (by rw[(bA RecT.zero)];exact gx) (bw _) rfl rfl (by have h0:=(bA RecT.zero);have h1:=(bA RecT.zero);omega) (cz ((bA RecT.zero).trans (bA RecT.zero).symm)) rfl ?_;refine qg ?_;refine nx J14 ?_;clear J14;refine ah ?_;refine ae ?_;clear J12;refine mN (H':=[]) rfl rfl rfl eG rfl gx (fE 2 rfl rfl) (bA RecT.zero) (λ_ s=>ak [] rfl s) ?_;exact⟨by simp[o8, *],rfl⟩
end Go.Proofs.YtkhjnolhhidecaaGreatDoor
end

section
namespace Leg
open Go Codec Api
def WX(P:Program)(ops:Array Oper)(Q:QQ)(is:List Nat)(a:Act)(w:World):Prop:=
 ∀(b:Frame) (k:List Item) (cs:List Frame),∃e a' w',Q e a' w'∧Arrives P (lone (b.at a (.inRegion ops is::k)) cs w) b k cs e a' w'
theorem WX.nil{P:Program}{ops:Array Oper}{Q:QQ}{a:Act}{w:World}(h:Q .normal a w):WX P ops Q [] a w:=
 λ_ _ _=>⟨.normal,a,w,h, .one step_region_end⟩
theorem WX.region{P:Program}{id:Nat}{ops:Array Oper}{Q:QQ}{a:Act}{w:World}(h:WX P ops Q (List.range ops.size) a w):(Code.region id ops false).wp P Q a w:=
 λb k cs=>let ⟨e,a',w',q,r⟩:=h b k cs;⟨e,a',w',q, .of_steps (.one step_region) r⟩
section
variable {P:Program} {ops:Array Oper} {Q:QQ} {is:List Nat} {a:Act} {w:World} {i:Nat} {o:Oper}
theorem G6(b:Frame)(k:List Item)(ho:ops[i]?=some o)(a:Act)(v:Value):(b.at a (.inRegion ops (i::is)::k)).finish v=b.at (a.put o.dst v) (.inRegion ops is::k):=by rw[Frame.finish_at,ho];rfl
theorem WX.value{v:Value}{w1:World}(ho:ops[i]?=some o)(hw:Region.wanted o (yielded ops a.tmps)=true)(hr:(execOp a.eval o).run P w= .ok (.value v) w1)(h:WX P ops Q is (a.put o.dst v) w1):WX P ops Q (i::is) a w:=λb k cs=>by
 obtain⟨e,a',w',q,r⟩:=h b k cs;refine⟨e,a',w',q, .of_steps (.one (step_lone_go ?_)) r⟩;rw[stepG_op ho hw,←G6 b k ho];simp[stepG.apply,hr]
theorem WX.comm{v:Value}{w1 w2:World}{cases:Array CommCase}{blocking:Bool}{shape:CommShape}(ho:ops[i]?=some o)(hw:Region.wanted o (yielded ops a.tmps)=true)(hr:(execOp a.eval o).run P w= .ok (.comm cases blocking shape) w1)
 (hs: ∀fr cs es,stepG P true (Conc.G fr cs) w= .comm (Conc.G fr cs) cases blocking shape w1 es→step P (Conc.solo (Conc.G fr cs) w)= .next (Conc.solo (Conc.G (fr.finish v) cs) w2)) (h:WX P ops Q is (a.put o.dst v) w2):WX P ops Q (i::is) a w:=λb k cs=>by
 obtain⟨e,a',w',q,r⟩:=h b k cs;have h1:=stepG_op (P:=P) (b:=b) (k:=k) (cs:=cs) (w:=w) (rest:=is) ho hw
 have h2: ∃es,stepG P true (Conc.G (b.at a (.inRegion ops (i::is)::k)) cs) w= .comm (Conc.G (b.at a (.inRegion ops (i::is)::k)) cs) cases blocking shape w1 es:=by
  unfold Conc.G;rw[h1];simp only[stepG.apply,Sem.runT_eq,hr];exact⟨_,rfl⟩
 obtain⟨es,h2⟩:=h2;have h3:=hs _ _ _ h2;rw[G6 b k ho]at h3;exact⟨e,a',w',q, .of_steps (.one h3) r⟩
abbrev On:= @WX.comm
end
end Leg
namespace Leg
open Go Codec Api
section
variable (P:Program) (w0:World) (F:Hl) (n:Nat)
def TX(ops:Array Oper)(Q:QQ)(is:List Nat)(D:List Deferred)(L:List (Nat×Value))(H:List HP):Prop:=∀a w,Fr n D L a→Same w0 w→Sat H F w→WX P ops Q is a w
end
section
variable {P:Program} {w0:World} {F:Hl} {n:Nat} {ops:Array Oper} {Q:QQ} {is:List Nat} {D:List Deferred} {L:List (Nat×Value)} {H:List HP} {i d:Nat} {o:Oper}
theorem TC.regionX{id:Nat}{l:List Oper}(h:TX P w0 F n l.toArray Q (List.range l.length) D L H):TC P w0 F n (.region id l.toArray false) Q D L H:=
 λa w f s m=>WX.region (by simpa using h a w f s m)
abbrev zk:= @TC.regionX
theorem TX.nil(h:TE w0 F n Q .normal D L H):TX P w0 F n ops Q [] D L H:=λa w f s m=>WX.nil (h a w f s m)
abbrev MJ:= @TX.nil
theorem TX.v{v:Value}(ho:ops[i]?=some o)(hw:Want n D ops o L)(hd:o.dst=some d)(hn:Nat.blt d n=true)(h1:PV P n D L (Sat H F) o v)(h:TX P w0 F n ops Q is D ((d,v)::L) H):TX P w0 F n ops Q (i::is) D L H:=λa w f s m=>by
 refine WX.value ho (hw a f) (h1 a w f m) ?_;rw[hd];exact h _ _ (f.put (lb hn) _) s m
abbrev uy:= @TX.v
end
end Leg
namespace Leg
open Go Codec Api Go.Conc
section
variable {P:Program} {w0:World} {F:Hl} {n:Nat} {ops:Array Oper} {Q:QQ} {is:List Nat} {D:List Deferred} {L:List (Nat×Value)} {H:List HP} {i d:Nat} {o:Oper}
theorem Sat.chan{w:World}{c cap s r:Nat}{vs:List Value}(m:Sat H F w)(k:Nat)(hk:Nat.blt k H.length=true)(e:H.getD k (λ_=>True)=eD c cap vs s r):w.heap[c]?=some (.chan cap vs.toArray false s r false):=by
 obtain⟨h,d,e',x⟩:=m;obtain⟨h1,h2,d',rfl,a,_⟩:=eI k (lb hk) x;rw[e]at a
 have:hp w c=some (.chan cap vs.toArray false s r false):=by
  rw[e',jQ];exact hJ (by rw[show h1=sg c _ from a];simp[sg])
 exact this
theorem Sat.setChan{w:World}{c cap s r s' r':Nat}{vs vs':List Value}(m:Sat H F w)(k:Nat)(hk:Nat.blt k H.length=true)(e:H.getD k (λ_=>True)=eD c cap vs s r):Sat (H.set k (eD c cap vs' s' r')) F (w.setChan c cap vs'.toArray false s' r' false):=by
 have hc:=m.chan k hk e
 have hlt:c<w.heap.size:=by
  by_cases q:c<w.heap.size
  · exact q
  · rw[Array.getElem?_eq_none (by omega)]at hc;cases hc
 exact m.write k (lb hk) e (heap_setChan w c cap vs'.toArray false s' r' false hlt) (λj hj=>by simp[World.setChan,Array.getElem?_setIfInBounds,Ne.symm hj])
theorem Same.setChan{w w':World}(s:Same w w')(c cap:Nat)(b:Array Value)(cl:Bool)(x y:Nat)(t:Bool):Same w (w'.setChan c cap b cl x y t):=s.trans ⟨rfl,rfl,rfl,by simp[World.setChan]⟩
theorem tF{x:Operand}{so:Option Operand}{e:TypeId}{z:Value}{blocking:Bool}(ho:o.op= .select #[⟨x,so,e⟩] blocking)(hz:(P.info? e).map (·.zero)=some (some z))(ev:Operand→Value)(w:World):
 (execOp ev o).run P w= .ok (.comm #[{chan:=ev x,send:=so.map ev,zero:=z}] blocking .select) w:=by
 simp[execOp,ho,Sem.run_bind,oV hz]
theorem TX.sendRoom{x y:Operand}{e c cap s r:Nat}{z v:Value}{vs:List Value}(k:Nat)(ho:ops[i]?=some o)(hw:Want n D ops o L)(hop:o.op= .select #[⟨x,some y,e⟩] false)(hd:o.dst=some d)(hn:Nat.blt d n=true)(hz:(P.info? e).map (·.zero)=some (some z))
 (hx:cS L x=some (.chan (some c))) (hy:cS L y=some v) (hk:Nat.blt k H.length=true) (hH:H.getD k (λ_=>True)=eD c cap vs s r) (hroom:vs.length<cap)
 (h:TX P w0 F n ops Q is D ((d, .tuple #[.int .i64 0, .bool false])::L) (H.set k (eD c cap (vs++[v]) (s+1) r))):TX P w0 F n ops Q (i::is) D L H:=λa w f sm m=>by
 have hc:=m.chan k hk hH;have hr:=tF (P:=P) hop hz a.eval w;rw[f.eval hx]at hr;simp only[Option.map_some,f.eval hy]at hr;refine On (v:= .tuple #[.int .i64 0, .bool false]) (w2:=w.setChan c cap (vs++[v]).toArray false (s+1) r false) ho (hw a f) hr (λfr cs es hs=>?_) ?_
 · have:=step_lone_sel_send_room (k:=0) hs rfl (λj c' hj hjc=>by cases j with|zero=>exact absurd rfl hj|succ j=>simp at hjc) hc (by simpa using hroom)
   rw[this];simp[commResult,goInt]
 · rw[hd]
   exact h _ _ (f.put (lb hn) _) (sm.setChan ..) (m.setChan k hk hH)
theorem TX.sendFull{x y:Operand}{e c cap s r:Nat}{z v:Value}{vs:List Value}(k:Nat)(ho:ops[i]?=some o)(hw:Want n D ops o L)(hop:o.op= .select #[⟨x,some y,e⟩] false)(hd:o.dst=some d)(hn:Nat.blt d n=true)(hz:(P.info? e).map (·.zero)=some (some z))
 (hx:cS L x=some (.chan (some c))) (hy:cS L y=some v) (hk:Nat.blt k H.length=true) (hH:H.getD k (λ_=>True)=eD c cap vs s r) (hfull:cap≤vs.length)
 (h:TX P w0 F n ops Q is D ((d, .tuple #[.int .i64 (-1), .bool false])::L) H):TX P w0 F n ops Q (i::is) D L H:=λa w f sm m=>by
 have hc:=m.chan k hk hH;have hr:=tF (P:=P) hop hz a.eval w;rw[f.eval hx]at hr;simp only[Option.map_some,f.eval hy]at hr;refine On (v:= .tuple #[.int .i64 (-1), .bool false]) (w2:=w) ho (hw a f) hr (λfr cs es hs=>?_) ?_
 · have:=step_lone_sel_default hs (λcc hcc=>by
    obtain rfl:cc=scase c v z:=by simpa [scase]using hcc
    exact noWay_send hc (by simpa using hfull))
   rw[this];simp[commResult,goInt]
 · rw[hd]
   exact h _ _ (f.put (lb hn) _) sm m
theorem TX.recvBuf{x:Operand}{e c cap s r:Nat}{z v:Value}{vs:List Value}(k:Nat)(ho:ops[i]?=some o)(hw:Want n D ops o L)(hop:o.op= .select #[⟨x,none,e⟩] false)(hd:o.dst=some d)(hn:Nat.blt d n=true)(hz:(P.info? e).map (·.zero)=some (some z))
 (hx:cS L x=some (.chan (some c))) (hk:Nat.blt k H.length=true) (hH:H.getD k (λ_=>True)=eD c cap (v::vs) s r)
 (h:TX P w0 F n ops Q is D ((d, .tuple #[.int .i64 0, .bool true,v])::L) (H.set k (eD c cap vs s (r+1)))):TX P w0 F n ops Q (i::is) D L H:=λa w f sm m=>by
 have hc:=m.chan k hk hH;have hr:=tF (P:=P) hop hz a.eval w;rw[f.eval hx]at hr;simp only[Option.map_none]at hr;refine On (v:= .tuple #[.int .i64 0, .bool true,v]) (w2:=w.setChan c cap vs.toArray false s (r+1) false) ho (hw a f) hr (λfr cs es hs=>?_) ?_
 · have:=step_lone_sel_recv_buf (k:=0) hs rfl (λj c' hj hjc=>by cases j with|zero=>exact absurd rfl hj|succ j=>simp at hjc) hc (by simp)
   rw[this];simp[commResult,goInt]
 · rw[hd]
   exact h _ _ (f.put (lb hn) _) (sm.setChan ..) (m.setChan k hk hH)
theorem TX.recvNone{x:Operand}{e c cap s r:Nat}{z:Value}(k:Nat)(ho:ops[i]?=some o)(hw:Want n D ops o L)(hop:o.op= .select #[⟨x,none,e⟩] false)(hd:o.dst=some d)(hn:Nat.blt d n=true)(hz:(P.info? e).map (·.zero)=some (some z))
 (hx:cS L x=some (.chan (some c))) (hk:Nat.blt k H.length=true) (hH:H.getD k (λ_=>True)=eD c cap [] s r)
 (h:TX P w0 F n ops Q is D ((d, .tuple #[.int .i64 (-1), .bool false,z])::L) H):TX P w0 F n ops Q (i::is) D L H:=λa w f sm m=>by
 have hc:=m.chan k hk hH;have hr:=tF (P:=P) hop hz a.eval w;rw[f.eval hx]at hr;simp only[Option.map_none]at hr;refine On (v:= .tuple #[.int .i64 (-1), .bool false,z]) (w2:=w) ho (hw a f) hr (λfr cs es hs=>?_) ?_
 · have:=step_lone_sel_default hs (λcc hcc=>by
    obtain rfl:cc=rcase c z:=by simpa [rcase]using hcc
    exact noWay_recv hc)
   rw[this];simp[commResult,goInt]
 · rw[hd]
   exact h _ _ (f.put (lb hn) _) sm m
end
end Leg
namespace Leg
open Go Codec Api Go.Conc
section
variable {P:Program} {w0:World} {F:Hl} {n:Nat} {ops:Array Oper} {Q:QQ} {D:List Deferred} {L:List (Nat×Value)} {H:List HP} {d:Nat} {o:Oper}
theorem PV.lenChan{t e:TypeId}{dir:ChanDir}{x:Operand}{c cap s r:Nat}{vs:List Value}(k:Nat)(ho:o.op= .call {callee:= .builtin .len,args:=#[x],argTypes:=#[t]})(ht:P.underlying t=some (.chan dir e))(hx:cS L x=some (.chan (some c)))
 (hk:Nat.blt k H.length=true) (hH:H.getD k (λ_=>True)=eD c cap vs s r):PV P n D L (Sat H F) o (.int .i64 ((vs.length:Nat):Int)):=λa w f m=>by
 have hl:=Conc.run_len_chan (P:=P) (w:=w) (dir:=dir) (e:=e) t o.type ht (m.chan k hk hH);simp[execOp,ho,resolve,f.eval hx,invoke,builtin,hl,goInt]
theorem PV.capChan{t e:TypeId}{dir:ChanDir}{x:Operand}{c cap s r:Nat}{vs:List Value}(k:Nat)(ho:o.op= .call {callee:= .builtin .cap,args:=#[x],argTypes:=#[t]})(ht:P.underlying t=some (.chan dir e))(hx:cS L x=some (.chan (some c)))
 (hk:Nat.blt k H.length=true) (hH:H.getD k (λ_=>True)=eD c cap vs s r):PV P n D L (Sat H F) o (.int .i64 ((cap:Nat):Int)):=λa w f m=>by
 have hl:=Conc.run_cap_chan (P:=P) (w:=w) (dir:=dir) (e:=e) t o.type ht (m.chan k hk hH);simp[execOp,ho,resolve,f.eval hx,invoke,builtin,hl,goInt]
end
abbrev iv(T U b:Nat)(ls:List (List UInt8)):HP:=pack (λq:Nat×List Value×Nat×Nat=>[aj b [.chan (some q.1)] T,eD q.1 8 q.2.1 q.2.2.1 q.2.2.2,eU q.2.1 ls U])
def rX(T U:Nat)(bs:List Nat)(W:List (List (List UInt8)))(k:Nat):HP:=if k%6=0 then(λ_=>True)else iv T U (bs.getD k 0) (W.getD k [])
def p9(T U:Nat)(bs:List Nat)(W:List (List (List UInt8))):List HP:=(List.range 25).map (rX T U bs W)
def fa(T U:Nat)(bs:List Nat)(W:List (List (List UInt8))):HP:=bS (p9 T U bs W)
def fZ(T U:Nat)(bs:List Nat)(W:List (List (List UInt8)))(k:Nat):HP:=bS ((p9 T U bs W).eraseIdx k)
def dS(bs:List Nat):List Value:=(List.range 25).map λk=>if k%6=0 then .pointer none else .pointer (some ⟨bs.getD k 0,0,none⟩)
theorem Dt(bs:List Nat){k:Nat}(h:k<25):(dS bs)[k]?=some (if k%6=0 then .pointer none else .pointer (some ⟨bs.getD k 0,0,none⟩)):=by unfold dS;simp[h]
theorem Ad(bs:List Nat):(dS bs).length=25:=by simp[dS]
abbrev eS(NT T U n:Nat)(W:List (List (List UInt8))):HP:=pack (λbs:List Nat=>[aj n (dS bs) NT,fa T U bs W])
section
variable {T U:Nat} {bs:List Nat} {W:List (List (List UInt8))} {k:Nat} {H:List HP} {h:Hl}
theorem Ew:(p9 T U bs W).length=25:=by simp[p9]
theorem yz(hk:k<25)(s:bS (fa T U bs W::H) h):bS (rX T U bs W k::fZ T U bs W k::H) h:=by
 have s1:bS (p9 T U bs W++H) h:=(cj _ _).2 s;have e:(p9 T U bs W).getD k (λ_=>True)=rX T U bs W k:=by simp[p9,List.getD_eq_getElem?_getD,hk]
 have p:=nR (λ_=>True) (p9 T U bs W) k (by rw[Ew];exact hk);rw[e]at p;have s2:=eM (p.append_right H) s1;exact cR s2 (λ_ a=>a) λ_ b=>(cj _ _).1 b
theorem wi{W':List (List (List UInt8))}(hk:k<25)(hW: ∀j,j≠k→W'.getD j []=W.getD j [])(s:bS (rX T U bs W' k::fZ T U bs W k::H) h):bS (fa T U bs W'::H) h:=by
 have e0:(p9 T U bs W').eraseIdx k=(p9 T U bs W).eraseIdx k:=by
  refine List.ext_getElem? λj=>?_
  rw[List.getElem?_eraseIdx,List.getElem?_eraseIdx]
  have: ∀i,i≠k→(p9 T U bs W')[i]?=(p9 T U bs W)[i]?:=λi hi=>by
   simp only[p9,List.getElem?_map];cases q:(List.range 25)[i]?with
   |none=>rfl
   |some m=>
    have hm:m=i:=by
     by_cases hi25:i<25
     · simp[hi25]at q;exact q.symm
     · simp[hi25]at q
    subst hm;simp only[Option.map_some,rX,hW m hi]
  split
  · exact this j (by omega)
  · exact this (j+1) (by omega)
 have e:(p9 T U bs W').getD k (λ_=>True)=rX T U bs W' k:=by simp[p9,List.getD_eq_getElem?_getD,hk]
 have p:=nR (λ_=>True) (p9 T U bs W') k (by rw[Ew];exact hk);rw[e,e0]at p;have s2:bS ((rX T U bs W' k::(p9 T U bs W).eraseIdx k)++H) h:=cR s (λ_ a=>a) λ_ b=>(cj _ _).2 b
 exact(cj _ _).1 (eM (p.symm.append_right H) s2)
end
def bF(from' to':Int):Nat:=from'.toNat*5+to'.toNat
def hZ(w:Int):Bool:=decide (0≤w∧w<5)
theorem AU{f t:Int}(hf:hZ f=true)(ht:hZ t=true):bF f t<25:=by
 have h1:0≤f∧f<5:=of_decide_eq_true hf;have h2:0≤t∧t<5:=of_decide_eq_true ht;unfold bF;omega
theorem uG{f t:Int}(hf:hZ f=true)(ht:hZ t=true):bF f t%6=0↔f=t:=by
 have h1:0≤f∧f<5:=of_decide_eq_true hf;have h2:0≤t∧t<5:=of_decide_eq_true ht;unfold bF;omega
end Leg
end

section
namespace Wal
open Go Leg Codec Api Dsk
end Wal
namespace Leg
open Go Codec Api
end Leg
namespace Leg
open Go Codec Api
theorem rz{us:List Value}{ls:List (List UInt8)}{e:Nat}{H:List HP}{F:Hl}{w:World}(i:Nat)(hi:Nat.blt i H.length=true)(hH:H.getD i (λ_=>True)=eU us ls e)(m:Sat H F w):us.length=ls.length∧∀u∈us,u.oneCell'=true:=by
 obtain⟨h,d,e',x⟩:=m;obtain⟨h1,h2,d',rfl,a,_⟩:=eI i (lb hi) x;rw[hH]at a;refine⟨a.1,λu hu=>?_⟩;obtain⟨j,hj,rfl⟩:=gR hu;obtain⟨u,e1,k1,k2,dk,rfl,a3⟩:=yy us ls e _ a.1 a.2 j (by rw[←a.1];exact hj);rw[List.getElem?_eq_getElem hj]at e1;injection e1 with e1
 rw[e1];exact(Cz a3 (λb o q=>q):IsB u _ k1).one
section
variable {P:Program} {n:Nat} {D:List Deferred} {L:List (Nat×Value)} {S:World→Prop} {o:Oper}
end
end Leg
namespace Wal
open Go Leg Codec Api Dsk
end Wal
namespace Leg
open Go Codec Api
section
variable {P:Program} {n:Nat} {D:List Deferred} {L:List (Nat×Value)} {S:World→Prop} {o:Oper}
end
theorem IS{us:List Value}{ls:List (List UInt8)}{e:Nat}{u:Value}{l:List UInt8}{H:List HP}{h:Hl}(s:bS (eU (u::us) (l::ls) e::H) h):bS (ik u l e::eU us ls e::H) h:=by
 obtain⟨h1,h2,d,rfl,⟨hl,a⟩,b⟩:=s;obtain⟨g1,g2,d',rfl,a1,a2⟩:=a;exact nO.1 ⟨_,h2,d,rfl,⟨g1,g2,d',rfl,a1,⟨by simpa using hl,a2⟩⟩,b⟩
def Br(ls:List (List UInt8))(bs:List UInt8):List (List UInt8):=if ls.length<8 then ls++[bs]else ls
def dA(f t:Int):Bool:=hZ f&&hZ t&& !decide (f=t)
def pE(W:List (List (List UInt8)))(f t:Int)(bs:List UInt8):List (List (List UInt8)):=if dA f t then W.set (bF f t) (Br (W.getD (bF f t) []) bs)else W
theorem ji{f t:Int}(h:dA f t=true):bF f t<25∧¬bF f t%6=0:=by
 unfold dA at h;rw[an,an]at h;refine⟨AU h.1.1 h.1.2,λq=>?_⟩;have:=(uG h.1.1 h.1.2).1 q;rw[this]at h;simp at h
theorem rA{T U:Nat}{bs:List Nat}{W:List (List (List UInt8))}{k:Nat}(h: ¬k%6=0):rX T U bs W k=iv T U (bs.getD k 0) (W.getD k []):=by unfold rX;rw[if_neg h]
theorem oP{T U:Nat}{bs:List Nat}{W:List (List (List UInt8))}{f t:Int}(hv:dA f t=true){H:List HP}{h:Hl}(s:bS (fa T U bs W::H) h):bS (iv T U (bs.getD (bF f t) 0) (W.getD (bF f t) [])::fZ T U bs W (bF f t)::H) h:=by
 obtain⟨h1,h2⟩:=ji hv;have:=yz h1 s
 rwa [rA h2]at this
theorem uF{T U:Nat}{bs:List Nat}{W:List (List (List UInt8))}{f t:Int}{ls:List (List UInt8)}(hv:dA f t=true)(hW:W.length=25){H:List HP}{h:Hl}(s:bS (iv T U (bs.getD (bF f t) 0) ls::fZ T U bs W (bF f t)::H) h):bS (fa T U bs (W.set (bF f t) ls)::H) h:=by
 obtain⟨h1,h2⟩:=ji hv;refine wi (W:=W) h1 (λj hj=>?_) ?_
 · rw[List.getD_eq_getElem?_getD,List.getD_eq_getElem?_getD,List.getElem?_set_ne (λe=>hj e.symm)]
 · rw[rA h2,show(W.set (bF f t) ls).getD (bF f t) []=ls by rw[List.getD_eq_getElem?_getD,List.getElem?_set_self (by omega)];rfl]
   exact s
end Leg
namespace Leg
open Go Codec Api
def b8(w:Int):UInt8:=Wal.r8 w
theorem wR(w:Int):IntKind.u8.wrap w=(((b8 w).toNat:Nat):Int):=Wal.r8_wrap w
end Leg
end

section
namespace Go.Proofs.YtkhjnolhhidecaaGreatDoor
open Go Leg Codec Api Dsk Wal
theorem uq(b c s r:Nat)(us:List Value)(ls:List (List UInt8)):
 DT 55 #[(.pointer (some ⟨b,0,none⟩))] T0 [aj b [(.chan (some c))] 169,eD c 8 (us) (s) (r),eU (us) (ls) 5] (RI (.int .i64 ((ls.length:Nat):Int)) [aj b [(.chan (some c))] 169,eD c 8 (us) (s) (r),eU (us) (ls) 5]):=by
 refine BD 8 Tryz.func55 rfl rfl rfl λw0 F hF=>sr λ_ J1=>PS ?_
 refine nx J1 (sr λ_ J2=>zj (p:=us.length=ls.length) (λw m=>(rz 2 rfl rfl m).1) (λhul=>P2 ?_));refine FA 0 Ez vB ?_;refine LA 0 wD ?_;refine tp (PV.lenChan 1 rfl wD rfl rfl rfl) ?_;refine PS ?_;refine nx J2 (ah (WK [0,0,0] (aw rfl rfl ?_)));exact⟨by rw[hul],rfl⟩
theorem jV(b:Nat)(ls:List (List UInt8)):DT 55 #[.pointer (some ⟨b,0,none⟩)] T0 [iv 169 5 b ls] (RI (.int .i64 ((ls.length:Nat):Int)) [iv 169 5 b ls]):=
 Leg.Does.pack (B:=[]) λq=>Leg.Does.fold (uq b q.1 q.2.2.1 q.2.2.2 q.2.1 ls) λe H hp=>by
  cases e with
  |returned v=>
   obtain⟨rfl,rfl⟩:=hp;exact⟨_,λ_ s=>bz (p:=λq:Nat×List Value×Nat×Nat=>[aj b [.chan (some q.1)] 169,eD q.1 8 q.2.1 q.2.2.1 q.2.2.2,eU q.2.1 ls 5]) (H:=[]) q s,rfl,rfl⟩
  |panicked c=>exact hp.elim
  |outgrown=>exact hp.elim
theorem B3(b c s r:Nat)(us:List Value)(ls:List (List UInt8))(x:Value)(bs:List UInt8)(hb:bs.length≤1000000):
 DT 99 #[(.pointer (some ⟨b,0,none⟩)),x] (IsW x bs) [aj b [(.chan (some c))] 169,eD c 8 (us) (s) (r),eU (us) (ls) 5] (dF (λv H=>(ls.length<8∧v= .bool true∧∃u,H=[aj b [(.chan (some c))] 169,eD c 8 (us++[u]) (s+1) r,eU us ls 5,cI u bs 5])∨(¬ls.length<8∧v= .bool false∧H=[aj b [(.chan (some c))] 169,eD c 8 (us) (s) (r),eU (us) (ls) 5]))):=by
 refine Leg.Does.body (vs:=[(.pointer (some ⟨b,0,none⟩)),x]) (n:=15) Tryz.func99 rfl rfl rfl (λw0 F hF=>?_);refine sr λ_ J1=>?_
 refine qg ?_;refine nx J1 ?_;refine aa λ_ J2=>?_
 refine sr λ_ J3=>?_
 refine zj (p:=us.length=ls.length) (λw m=>(rz 2 rfl rfl m).1) (λhul=>?_);refine mv ?_;refine tp (gW rfl rfl) ?_;refine tp (bc (r:=0) rfl Ez rfl vB rfl rfl) ?_;refine tp (fN (v:=(.chan (some c))) rfl wD rfl rfl (fE 0 rfl rfl) rfl) ?_;refine nx J3 ?_;refine ac ?_;refine EE (ab rfl) rfl rfl rfl fQ ky (λv9=>?_);change TL _ _ _ _ _ _ _ _ _ [cI v9 ([]) 5,aj b [(.chan (some c))] 169,eD c 8 (us) (s) (r),eU (us) (ls) 5];refine mv ?_;refine bY (k:=0) (news:=dX (bs)) (nn':=(bs:List UInt8).length) (xs':=dX (bs)) (ab rfl) rfl rfl rfl fQ uB rfl rfl rfl rfl rfl rfl (λ_ _=>hF.src (λ_ h=>fF h)) (fe _) (by simp only[maxLen,az];omega) (by simp only[az];omega) (by simp) (ba _) (λv11 ov11=>?_);change TL _ _ _ _ _ _ _ _ _ [cI v11 (bs) 5,aj b [(.chan (some c))] 169,eD c 8 (us) (s) (r),eU (us) (ls) 5];refine nx J2 ?_;refine aa λ_ J4=>?_
 refine zk ?_;change TX _ _ _ _ _ _ [0,1,2] _ _ _
 by_cases hroom:us.length<8
 refine TX.sendRoom 2 rfl (ab rfl) rfl rfl rfl Ol rfl rfl rfl rfl hroom ?_;change TX _ _ _ _ _ _ _ _ _ [cI v11 (bs) 5,aj b [(.chan (some c))] 169,eD c 8 (us++[v11]) (s+1) (r),eU (us) (ls) 5];refine uy rfl (ab rfl) rfl rfl (mP (vs:=[(.int .i64 0),(.bool false)]) rfl rfl rfl) ?_;refine uy rfl (ab rfl) rfl rfl (P6 rfl rfl rfl) ?_;refine MJ ?_;refine ad J4 ?_;refine am ?_;refine oi rfl ?_;refine sr λ_ J5=>?_
 refine qg ?_;refine nx J5 ?_;refine ah ?_;refine aI ?_;refine aE (dN _) (λ_ s=>ak [1,1,1,0] rfl s) ?_;refine aw rfl rfl ?_;exact Or.inl ⟨by omega,rfl,_,rfl⟩;refine TX.sendFull 2 rfl (ab rfl) rfl rfl rfl Ol rfl rfl rfl rfl (by omega) ?_;refine uy rfl (ab rfl) rfl rfl (mP (vs:=[(.int .i64 (-1)),(.bool false)]) rfl rfl rfl) ?_;refine uy rfl (ab rfl) rfl rfl (P6 rfl rfl rfl) ?_;refine MJ ?_;refine ad J4 ?_;refine am ?_;refine G8 rfl ?_;refine sr λ_ J6=>?_
 refine qg ?_;refine nx J6 ?_;refine ah ?_;refine aI ?_;refine aE (dN _) (λ_ s=>ak [1,1,1] rfl s) ?_;refine aw rfl rfl ?_;exact Or.inr ⟨by omega,rfl,rfl⟩
theorem wk(b:Nat)(ls:List (List UInt8))(x:Value)(bs:List UInt8)(hb:bs.length≤1000000):DT 99 #[.pointer (some ⟨b,0,none⟩),x] (IsW x bs) [iv 169 5 b ls] (RI (.bool (decide (ls.length<8))) [iv 169 5 b (Br ls bs)]):=
 Leg.Does.pack (B:=[]) λq=>Leg.Does.fold (B3 b q.1 q.2.2.1 q.2.2.2 q.2.1 ls x bs hb) λe H hp=>by
  cases e with
  |returned v=>
   unfold Br;rcases hp with⟨h8,rfl,u,rfl⟩| ⟨h8,rfl,rfl⟩
   · refine⟨[iv 169 5 b (ls++[bs])],λ_ s=>?_,by rw[decide_eq_true h8],by rw[if_pos h8]⟩
     have s1:=Bc 3 rfl rfl s;have s2:=aD [2,2] rfl s1;have s3:=vn s2;exact bz (p:=λq:Nat×List Value×Nat×Nat=>[aj b [.chan (some q.1)] 169,eD q.1 8 q.2.1 q.2.2.1 q.2.2.2,eU q.2.1 (ls++[bs]) 5]) (H:=[]) (q.1,q.2.1++[u],q.2.2.1+1,q.2.2.2) (aD [1,1,0] rfl s3)
   · exact⟨[iv 169 5 b ls],λ_ s=>bz (p:=λq:Nat×List Value×Nat×Nat=>[aj b [.chan (some q.1)] 169,eD q.1 8 q.2.1 q.2.2.1 q.2.2.2,eU q.2.1 ls 5]) (H:=[]) q s,by rw[decide_eq_false h8],by rw[if_neg h8]⟩
  |panicked c=>exact hp.elim
  |outgrown=>exact hp.elim
theorem zg(b c s r:Nat)(us:List Value)(ls:List (List UInt8)):
 DT 100 #[(.pointer (some ⟨b,0,none⟩))] T0 [aj b [(.chan (some c))] 169,eD c 8 (us) (s) (r),eU (us) (ls) 5] (dF (λv H=>(ls=[]∧v= .tuple #[.slice none 0 0, .bool false]∧H=[aj b [(.chan (some c))] 169,eD c 8 [] s r,eU [] ls 5])∨(∃u us' f ls',ls=f::ls'∧v= .tuple #[u, .bool true]∧H=[aj b [(.chan (some c))] 169,eD c 8 us' s (r+1),eU (u::us') (f::ls') 5]))):=by
 refine BD 14 Tryz.func100 rfl rfl rfl λw0 F hF=>sr λ_ J1=>P2 ?_
 refine nx J1 (sr λ_ J2=>zj (p:=us.length=ls.length) (λw m=>(rz 2 rfl rfl m).1) (λhul=>P2 ?_));refine FA 0 Ez vB ?_;refine LA 0 wD ?_;refine nx J2 (aa λ_ J3=>zk ?_);rcases us with _| ⟨u,us⟩
 refine TX.recvNone 1 rfl (ab rfl) rfl rfl rfl Ol rfl rfl rfl (uy rfl (ab rfl) rfl rfl (mP (vs:=[(.int .i64 (-1)),(.bool false),(.slice none 0 0)]) rfl rfl rfl) (uy rfl (ab rfl) rfl rfl (P6 rfl rfl rfl) (MJ (ad J3 (am (CN (sr λ_ J4=>P2 ?_)))))));exact nx J4 (ah (aI (WK [0,0,0] (iC rfl rfl rfl (Or.inl ⟨List.eq_nil_of_length_eq_zero hul.symm,rfl,rfl⟩)))));rcases ls with _| ⟨f,ls⟩
 · cases hul
 refine TX.recvBuf 1 rfl (ab rfl) rfl rfl rfl Ol rfl rfl rfl (uy rfl (ab rfl) rfl rfl (mP (vs:=[(.int .i64 0),(.bool true),u]) rfl rfl rfl) (uy rfl (ab rfl) rfl rfl (P6 rfl rfl rfl) (MJ (ad J3 (am (CY (sr λ_ J5=>P2 ?_)))))));refine nx J5 (sr λ_ J6=>P3 ?_);exact nx J6 (ah (aI (WK [0,0,0] (iC rfl rfl rfl (Or.inr ⟨u,us,f,ls,rfl,rfl,rfl⟩)))))
theorem uo(b:Nat)(ls:List (List UInt8)):DT 100 #[.pointer (some ⟨b,0,none⟩)] T0 [iv 169 5 b ls] (dF (λv H=>(ls=[]∧v= .tuple #[.slice none 0 0, .bool false]∧H=[iv 169 5 b []])∨(∃u f ls',ls=f::ls'∧v= .tuple #[u, .bool true]∧H=[iv 169 5 b ls',ik u f 5]))):=
 Leg.Does.pack (B:=[]) λq=>Leg.Does.fold (zg b q.1 q.2.2.1 q.2.2.2 q.2.1 ls) λe H hp=>by
  cases e with
  |returned v=>
   rcases hp with⟨rfl,rfl,rfl⟩| ⟨u,us',f,ls',rfl,rfl,rfl⟩
   · exact⟨[iv 169 5 b []],λ_ s=>bz (p:=λq:Nat×List Value×Nat×Nat=>[aj b [.chan (some q.1)] 169,eD q.1 8 q.2.1 q.2.2.1 q.2.2.2,eU q.2.1 [] 5]) (H:=[]) (q.1,[],q.2.2.1,q.2.2.2) s,Or.inl ⟨rfl,rfl,rfl⟩⟩
   · refine⟨[iv 169 5 b ls',ik u f 5],λ_ s=>?_,Or.inr ⟨u,f,ls',rfl,rfl,rfl⟩⟩
     have s1:=aD [2] rfl s;have s2:=IS s1;exact bz (p:=λq:Nat×List Value×Nat×Nat=>[aj b [.chan (some q.1)] 169,eD q.1 8 q.2.1 q.2.2.1 q.2.2.2,eU q.2.1 ls' 5]) (H:=[ik u f 5]) (q.1,us',q.2.2.1,q.2.2.2+1) (aD [2,2,1,0] rfl s2)
  |panicked c=>exact hp.elim
  |outgrown=>exact hp.elim
theorem B4:
 DT 42 #[(.int .i64 8)] T0 [] (dF (λv H=>∃b c,v= .pointer (some ⟨b,0,none⟩)∧H=[aj b [(.chan (some c))] 169,eD c 8 [] 0 0])):=by
 refine BD 9 Tryz.func42 rfl rfl rfl λw0 F hF=>sr λ_ J1=>PS ?_
 refine nx J1 (sr λ_ J2=>PS ?_);refine tp (n6 (v':=(.int .i64 8)) (zq rfl rfl rfl) rfl) ?_;refine tp (n6 (v':=(.int .i64 8)) (PV.minI rfl rfl rfl) rfl) ?_;refine TL.makeChan (k:=8) (bytes:=24) (ab rfl) rfl rfl rfl wD (by kernel_rfl) rfl (by omega) (by omega) (λc6=>BV #[(.chan (some c6))] ?_);refine XB λb8=>?_
 refine PS ?_;exact nx J2 (ah (WK [0,0] (aw rfl rfl ⟨b8,c6,rfl,rfl⟩)))
theorem Ev:DT 42 #[.int .i64 8] T0 [] (dF (λv H=>∃b,v= .pointer (some ⟨b,0,none⟩)∧H=[iv 169 5 b []])):=
 Leg.Does.fold B4 λe H hp=>by
  cases e with
  |returned v=>
   obtain⟨b,c,rfl,rfl⟩:=hp;exact⟨[iv 169 5 b []],λ_ s=>bz (p:=λq:Nat×List Value×Nat×Nat=>[aj b [.chan (some q.1)] 169,eD q.1 8 q.2.1 q.2.2.1 q.2.2.2,eU q.2.1 [] 5]) (H:=[]) (c,[],0,0) (aD [1,1,0] rfl (AM s)),b,rfl,rfl⟩
  |panicked c=>exact hp.elim
  |outgrown=>exact hp.elim
theorem pW(w:Int):
 DT 98 #[(.int .i64 (w))] T0 [] (RI (.bool (hZ w)) []):=by
 refine BD 9 Tryz.func98 rfl rfl rfl λw0 F hF=>sr λ_ J1=>PS ?_
 refine nx J1 (sr λ_ J2=>P2 ?_);refine ap ?_ ?_<;>intro h4
 iterate 5 refine PS ?_
 refine nx J2 (ah (WK [] (aw rfl rfl ?_)));exact⟨congrArg Value.bool (by unfold hZ;simp only[decide_eq_decide];omega),rfl⟩;refine PS ?_;refine UF ?_;refine UF ?_;refine P2 ?_;refine nx J2 (ah (WK [] (aw rfl rfl ?_)));exact⟨congrArg Value.bool (by unfold hZ;symm;exact decide_eq_false (by omega)),rfl⟩
theorem nG(n:Nat)(bs:List Nat)(from' to':Int):
 DT 54 #[(.pointer (some ⟨n,0,none⟩)),(.int .i64 (from')),(.int .i64 (to'))] T0 [aj n (dS bs) 106] (dF (λv H=>((dA from' to'=true∧v= .pointer (some ⟨(bs.getD (bF from' to') 0),0,none⟩))∨(dA from' to'=false∧v= .pointer none))∧H=[aj n (dS bs) 106])):=by
 refine BD 23 Tryz.func54 rfl rfl rfl λw0 F hF=>sr λ_ J1=>PS ?_
 refine nx J1 (aa λ_ J2=>sr λ_ J3=>PS ?_);refine CE OR (pW from') ID ?_;refine bh ?_ ?_<;>intro h8;have hf:0≤from'∧from'<5:=of_decide_eq_true h8
 refine PS ?_;refine P2 ?_;refine CE OR (pW to') ID ?_;refine bh ?_ ?_<;>intro h12;have ht:0≤to'∧to'<5:=of_decide_eq_true h12;refine PS ?_;refine PS ?_;refine nx J3 (CN (qx J2 (sr λ_ J4=>P4 ?_)));refine FA 0 Tryz.underlying106 Gs ?_;refine IX (((from').toNat)*5) MH Cx ?_;refine IX (((from').toNat)*5+(to').toNat) K0 Gt ?_;refine LT 0 yF (if bF from' to'%6=0 then .pointer none else .pointer (some ⟨(bs.getD (bF from' to') 0),0,none⟩)) ?_ (hc:=by exact Dt bs (k:=bF from' to') (by unfold bF;omega));refine PS ?_;refine nx J4 (ah (WK [0] (aw rfl rfl ⟨?_,rfl⟩)))
 by_cases hd:from'=to'
 · rw[if_pos ((uG h8 h12).2 hd)]
   exact Or.inr ⟨by unfold dA;rw[decide_eq_true hd];simp,rfl⟩
 · rw[if_neg (λq=>hd ((uG h8 h12).1 q))]
   exact Or.inl ⟨by unfold dA;rw[h8,h12,decide_eq_false hd];rfl,rfl⟩
 refine PS ?_;refine PS ?_;refine nx J3 (CY (sr λ_ J5=>PS ?_));refine nx J5 (ah (ae (WK [0] (aw rfl rfl ?_))));exact⟨Or.inr ⟨by unfold dA;rw[h12];simp,rfl⟩,rfl⟩;refine PS ?_;refine PS ?_
 iterate 3 refine UT ?_
 refine PS ?_;refine nx J3 (CY (sr λ_ J6=>PS ?_));refine nx J6 (ah (ae (WK [0] (aw rfl rfl ?_))));exact⟨Or.inr ⟨by unfold dA;rw[h8];simp,rfl⟩,rfl⟩
def tS(W:List (List (List UInt8)))(f t:Int):Bool:=dA f t&&decide ((W.getD (bF f t) []).length<8)
theorem y3(n:Nat)(bs:List Nat)(W:List (List (List UInt8)))(from' to':Int)(x:Value)(by':List UInt8)(hb:by'.length≤1000000)(hW:W.length=25):
 DT 209 #[(.pointer (some ⟨n,0,none⟩)),(.int .i64 (from')),(.int .i64 (to')),x] (IsW x by') [aj n (dS bs) 106,fa 169 5 bs W] (RI (.bool (tS W from' to')) [aj n (dS bs) 106,fa 169 5 bs (pE W from' to' by')]):=by
 refine BD 21 Tryz.func209 rfl rfl rfl λw0 F hF=>sr λ_ J1=>PS ?_
 refine nx J1 (sr λ_ J2=>P3 ?_);refine CR Fx (nG n bs from' to') ID λvR HR hR=>?_
 obtain⟨hw,rfl⟩:=hR;rcases hw with⟨hv,rfl⟩| ⟨hv,rfl⟩
 refine PS ?_;refine nx J2 (sr λ_ J3=>PS ?_);refine tp (gm rfl yF rfl rfl) ?_;refine P3 ?_;refine ct (H':=[iv 169 5 (bs.getD (bF from' to') 0) (W.getD (bF from' to') []),fZ 169 5 bs W (bF from' to'),aj n (dS bs) 106]) (λ_ s=>oP hv (aD [1] rfl s)) (CF NC (wk (bs.getD (bF from' to') 0) (W.getD (bF from' to') []) x by' hb) ID (λ_ d _=>Qb hF d) ?_);refine P2 ?_;refine nx J3 (ah (aE (H':=[aj n (dS bs) 106,fa 169 5 bs (pE W from' to' by')]) (dN _) (λ_ s=>by unfold pE;rw[if_pos hv];exact aD [1,0] rfl (uF hv hW (aD [0,0,0] rfl s))) (aw rfl rfl ?_)));exact⟨by unfold tS;rw[hv];rfl,rfl⟩;refine PS ?_;refine nx J2 (sr λ_ J4=>PS ?_);refine tp (jC rfl yF rfl rfl) ?_;refine PS ?_
 iterate 3 refine UF ?_
 refine P2 ?_;refine nx J4 (ah (WK [0,0] (aw rfl rfl ?_)));exact⟨by unfold tS;rw[hv];rfl,by unfold pE;rw[hv];rfl⟩
theorem Bx(n:Nat)(W:List (List (List UInt8)))(from' to':Int)(x:Value)(by':List UInt8)(hb:by'.length≤1000000)(hW:W.length=25):DT 209 #[.pointer (some ⟨n,0,none⟩), .int .i64 from', .int .i64 to',x] (IsW x by') [eS 106 169 5 n W] (RI (.bool (tS W from' to')) [eS 106 169 5 n (pE W from' to' by')]):=
 Leg.Does.pack (B:=[]) λbs=>Leg.Does.fold (y3 n bs W from' to' x by' hb hW) λe H hp=>by
  cases e with
  |returned v=>
   obtain⟨rfl,rfl⟩:=hp;exact⟨_,λ_ s=>bz (p:=λbs:List Nat=>[aj n (dS bs) 106,fa 169 5 bs (pE W from' to' by')]) (H:=[]) bs s,rfl,rfl⟩
  |panicked c=>exact hp.elim
  |outgrown=>exact hp.elim
def jS(f t:Int)(bs:List UInt8):List UInt8:=qF ([b8 f,b8 t]++bs)
theorem FT(from' to':Int)(x:Value)(by':List UInt8)(hb:by'.length≤100000):
 DT 213 #[(.int .i64 (from')),(.int .i64 (to')),x] (IsW x by') [] (dF (λv H=>∃u,v=u∧H=[cI u (jS from' to' by') 5])):=by
 refine BD 23 Tryz.func213 rfl rfl rfl λw0 F hF=>sr λ_ J1=>PS ?_
 refine nx J1 (sr λ_ J2=>PS ?_);refine tp (dO rfl fQ rfl hF.len) ?_;refine AD ?_;refine TL.makeB (0) (2+by'.length) (ab rfl) rfl rfl rfl fQ uB rfl rfl rfl (by omega) (by omega) (by omega) (λb11=>ct (H':=[cI (.slice (some ⟨b11,0,none⟩) 0 (2+by'.length)) ([]) 5]) (λ_ s=>tD 0 rfl rfl (by omega) (by simp only[maxLen];omega) (by simp[dX]) rfl s) (PS ?_));refine nx J2 (sr λ_ J3=>P2 ?_);refine tp (cE (r:=(((b8 from').toNat:Nat):Int)) rfl Y3 Y5 rfl (wR _)) ?_;refine PS ?_;refine tp (cE (r:=(((b8 to').toNat:Nat):Int)) rfl Y3 Y5 rfl (wR _)) ?_;refine aM (cells:=#[(.int .u8 ((((b8 from').toNat:Nat):Int))),(.int .u8 ((((b8 to').toNat:Nat):Int)))]) (ab rfl) rfl rfl rfl fQ uB rfl rfl rfl (by as_aux_lemma=>kernel_rfl) (λb17=>bY (k:=1) (news:=dX ([(b8 from'),(b8 to')])) (nn':=([(b8 from'),(b8 to')]:List UInt8).length) (xs':=dX ([(b8 from'),(b8 to')])) (ab rfl) rfl rfl rfl fQ uB rfl rfl rfl rfl rfl rfl (λ_ _=>gp rfl (RO 0) rfl) (fe [(b8 from'),(b8 to')]) (by simp only[maxLen,az,av];omega) (by simp only[az,av];omega) (by simp<;>omega) (ba _) (λv18 ov18=>PS ?_));refine nx J3 (sr λ_ J4=>P2 ?_)
 refine bY (k:=1) (news:=dX (by')) (nn':=([(b8 from'),(b8 to')]++by':List UInt8).length) (xs':=dX ([(b8 from'),(b8 to')]++by')) (ab rfl) rfl rfl rfl fQ uB rfl rfl rfl rfl rfl rfl (λ_ _=>hF.src (λ_ h=>fF h)) (fe _) (by simp only[maxLen,ag,av,az];omega) (by simp only[ag,av,az];omega) (by simp<;>omega) (gF _ _).symm (λv21 ov21=>CQ MP (vC v21 ([(b8 from'),(b8 to')]++by') (by simp only[ag,av,az];omega)) ID (λg d s=>Lc (tY 1 rfl rfl g d s)) λvR HR hR=>?_);have hR:=hR;subst hR;refine PS ?_;exact nx J4 (ah (WK [0] (aw rfl rfl ⟨_,rfl,rfl⟩)))
theorem sK(f t:Int)(bs:List UInt8):(jS f t bs).length=bs.length+6:=by
 unfold jS;rw[lJ];simp only[ag,av,az];omega
theorem y9(n:Nat)(W:List (List (List UInt8)))(from' to':Int)(x:Value)(by':List UInt8)(hb:by'.length≤3000)(hW:W.length=25):
 DT 211 #[(.pointer (some ⟨n,0,none⟩)),(.int .i64 (from')),(.int .i64 (to')),x] (IsW x by') [eS 106 169 5 n (W)] (RI (.bool (tS W from' to')) [eS 106 169 5 n (pE W from' to' (jS from' to' by'))]):=by
 refine BD 24 Tryz.func211 rfl rfl rfl λw0 F hF=>?_
 have hfl:(jS from' to' by').length≤1000000:=by rw[sK];omega
 refine sr λ_ J1=>PS ?_
 refine nx J1 (aa λ_ J2=>sr λ_ J3=>PS ?_);refine tp (gB rfl KY rfl rfl) ?_;refine P2 ?_;refine tq (dO rfl fQ rfl hF.len) ?_;refine PS ?_;refine ap ?_ ?_<;>intro h14
 · exact absurd h14 (by omega)
 refine PS ?_;refine nx J3 (CN (qx J2 (sr λ_ J4=>?_)))
 iterate 6 refine PS ?_
 refine CQ O8 (FT from' to' x by' (by omega)) ID (λ_ d _=>Qb hF d) λvR HR hR=>?_
 obtain⟨_,rfl,rfl⟩:=hR;revert vR;intro uf;refine CF Pd (Bx n W from' to' uf (jS from' to' by') hfl hW) (SM [1]) (λg d s=>Lc (tY 0 rfl rfl g d s)) ?_;refine PS ?_;exact nx J4 (ah (WK [0] (aw rfl rfl ⟨rfl,rfl⟩)))
theorem za(from' to':Int)(x:Value)(by':List UInt8)(h0:0<by'.length)(hb:by'.length≤100000):
 DT 101 #[(.int .i64 (from')),(.int .i64 (to')),x] (IsW x (jS from' to' by')) [] (dF (λv H=>∃u,v= .tuple #[u, .bool true]∧H=[ik u by' 5])):=by
 refine BD 40 Tryz.func101 rfl rfl rfl λw0 F hF=>?_
 have hfl:(jS from' to' by').length≤1000000000:=by rw[sK];omega
 refine sr λ_ J1=>P2 ?_
 refine nx J1 (sr λ_ J2=>PS ?_);refine CQ M0 (zG x (jS from' to' by') hfl) ID (λ_ d _=>Qb hF d) λvR HR hR=>?_
 rcases hR with⟨ht',_,_⟩| ⟨t,u,ht',rfl,rfl⟩
 · exact absurd ht' (by unfold jS;rw[sj];simp)
 obtain rfl:t=([b8 from',b8 to']++by'):=by unfold jS at ht';rw[sj]at ht';exact(bI ht').symm
 refine jY 0 rfl rfl (by simp) (λg cap hv hcap=>?_);have hv2:u= .slice (some ⟨g,0,none⟩) (by'.length+2) cap:=hv;refine P4 ?_;refine PS ?_;refine nx J2 (aa λ_ J3=>sr λ_ J4=>PS ?_);refine PS ?_;refine P2 ?_;refine tq (dO rfl fQ rfl (by rw[hv2];exact⟨_,_,rfl⟩)) ?_;refine PS ?_;refine ap ?_ ?_<;>intro h20
 · exact absurd h20 (by omega)
 refine P3 ?_;refine tq (bo (r:=0) hv2 rfl fQ ky rfl rfl (by omega) (by omega) rfl) ?_;refine tq (cm (v:=(.int .u8 ((((b8 from').toNat:Nat):Int)))) rfl Y5 rfl rfl (gN 0 rfl hv rfl) (sc (l:=([b8 from',b8 to']++by')) (j:=0) (by simp))) ?_;refine PS ?_;refine tq (cE (r:=(((b8 from').toNat:Nat):Int)) rfl Y3 Y5 rfl (wR _)) ?_;refine PS ?_;refine ap ?_ ?_<;>intro h28
 · exact absurd rfl h28
 refine P3 ?_;refine tq (bo (r:=1) hv2 rfl fQ ky rfl rfl (by omega) (by omega) rfl) ?_;refine tq (cm (v:=(.int .u8 ((((b8 to').toNat:Nat):Int)))) rfl Y5 rfl rfl (gN 0 rfl hv rfl) (sc (l:=([b8 from',b8 to']++by')) (j:=1) (by simp))) ?_;refine PS ?_;refine tq (cE (r:=(((b8 to').toNat:Nat):Int)) rfl Y3 Y5 rfl (wR _)) ?_;refine PS ?_;refine ap ?_ ?_<;>intro h36
 · exact absurd rfl h36
 refine PS ?_;refine nx J4 (CN (qx J3 (sr λ_ J5=>PS ?_)));refine tp (n6 (PV.sliceL (a:=some ⟨g,0,none⟩) (len:=by'.length+2) (cap:=cap) (lo:=2) rfl fQ ky (by rw[←hv2];rfl) rfl rfl (by omega)) (congrArg (λq=>kH q 2 (by'.length+2)) hv2.symm)) ?_;refine P2 ?_;exact nx J5 (ah (aE (H':=[ik (kH u 2 (by'.length+2)) by' 5]) (dN _) (λ_ s=>xu 0 rfl rfl hv (by omega) (by simp) (by simp;omega) (by simp) s) (iC rfl rfl rfl ⟨_,rfl,rfl⟩)))
theorem yb(n:Nat)(bs:List Nat)(W:List (List (List UInt8)))(from' to':Int)(by':List UInt8)(ls:List (List UInt8))(hv:dA from' to'=true)(hW:W.length=25)(hk:W.getD (bF from' to') []=jS from' to' by'::ls)(h0:0<by'.length)(hb:by'.length≤100000):
 DT 58 #[(.pointer (some ⟨n,0,none⟩)),(.int .i64 (from')),(.int .i64 (to'))] T0 [aj n (dS bs) 106,fa 169 5 bs (W)] (dF (λv H=>∃u,v= .tuple #[u, .bool true]∧H=[aj n (dS bs) 106,fa 169 5 bs (W.set (bF from' to') ls),ik u by' 5])):=by
 refine BD 32 Tryz.func58 rfl rfl rfl λw0 F hF=>sr λ_ J1=>P2 ?_
 refine nx J1 (aa λ_ J2=>sr λ_ J3=>PS ?_);refine tp (gB rfl KY rfl rfl) ?_;refine nx J3 (CN (qx J2 (sr λ_ J4=>P3 ?_)));refine CR Fx (nG n bs from' to') ID λvR HR hR=>?_
 obtain⟨hw,rfl⟩:=hR;obtain⟨_,rfl⟩:dA from' to'=true∧vR= .pointer (some ⟨(bs.getD (bF from' to') 0),0,none⟩):=hw.resolve_right (λq=>by rw[hv]at q;cases q.1)
 refine PS ?_;refine nx J4 (aa λ_ J5=>sr λ_ J6=>PS ?_);refine tp (gB rfl yF rfl rfl) ?_;refine nx J6 (CN (qx J5 (sr λ_ J7=>PS ?_)));refine ct (H':=[iv 169 5 (bs.getD (bF from' to') 0) (W.getD (bF from' to') []),fZ 169 5 bs W (bF from' to'),aj n (dS bs) 106]) (λ_ s=>oP hv (aD [1] rfl s)) (CR M8 (uo (bs.getD (bF from' to') 0) (W.getD (bF from' to') [])) ID λvR HR hR=>?_);rcases hR with⟨he,_,_⟩| ⟨u,f,ls',he,rfl,rfl⟩
 · rw[he]at hk;cases hk
 rw[hk]at he;obtain⟨rfl,rfl⟩:=List.cons.inj he;refine P4 ?_;refine PS ?_;refine nx J7 (aa λ_ J8=>sr λ_ J9=>PS ?_);refine PS ?_;refine nx J9 (CN (qx J8 (sr λ_ J10=>P3 ?_)));refine CQ PK (za from' to' u by' h0 hb) ID (λg d s=>Lc (BG 1 rfl rfl g d s)) λvR HR hR=>?_
 obtain⟨uv,rfl,rfl⟩:=hR;refine P4 ?_;exact nx J10 (ah (aE (H':=[aj n (dS bs) 106,fa 169 5 bs (W.set (bF from' to') ls),ik uv by' 5]) (dN _) (λ_ s=>aD [1,0] rfl (uF hv hW (ak [1,2,2,0] rfl s))) (iC rfl rfl rfl ⟨_,rfl,rfl⟩)))
theorem rR(n:Nat)(W:List (List (List UInt8)))(from' to':Int)(by':List UInt8)(ls:List (List UInt8))(hv:dA from' to'=true)(hW:W.length=25)(hk:W.getD (bF from' to') []=jS from' to' by'::ls)(h0:0<by'.length)(hb:by'.length≤100000):DT 58 #[.pointer (some ⟨n,0,none⟩), .int .i64 from', .int .i64 to'] T0 [eS 106 169 5 n W] (dF (λv H=>∃u,v= .tuple #[u, .bool true]∧H=[eS 106 169 5 n (W.set (bF from' to') ls),ik u by' 5])):=
 Leg.Does.pack (B:=[]) λbs=>Leg.Does.fold (yb n bs W from' to' by' ls hv hW hk h0 hb) λe H hp=>by
  cases e with
  |returned v=>
   obtain⟨u,rfl,rfl⟩:=hp;exact⟨[eS 106 169 5 n (W.set (bF from' to') ls),ik u by' 5],λ_ s=>bz (p:=λbs:List Nat=>[aj n (dS bs) 106,fa 169 5 bs (W.set (bF from' to') ls)]) (H:=[ik u by' 5]) bs s,u,rfl,rfl⟩
  |panicked c=>exact hp.elim
  |outgrown=>exact hp.elim
end Go.Proofs.YtkhjnolhhidecaaGreatDoor
end

section
namespace Leg
open Go Codec Api
section
variable {P:Program} {n:Nat} {D:List Deferred} {L:List (Nat×Value)} {S:World→Prop} {o:Oper}
theorem PV.ptrNeIf{c:Prop}[Decidable c]{t t':TypeId}{x y:Operand}{a:Addr}(ho:o.op= .binOp .neq t x y t')(ht:P.underlying t=some (.pointer (P.pointee t)))(hx:cS L x=some (if c then .pointer none else .pointer (some a)))(hy:cS L y=some (.pointer none)):PV P n D L S o (.bool (!decide c)):=by
 by_cases h:c
 · rw[if_pos h]at hx;rw[decide_eq_true h];exact jC ho ht hx hy
 · rw[if_neg h]at hx;rw[decide_eq_false h];exact gm ho ht hx hy
end
abbrev JM(bs:List Nat)(k:Nat):Value:=if k%6=0 then .pointer none else .pointer (some ⟨bs.getD k 0,0,none⟩)
def tL(bs:List Nat)(i:Nat):List Value:=(List.range 5).map λj=>JM bs (i*5+j)
theorem oW(bs:List Nat)(i:Nat):(tL bs i).length=5:=by simp[tL]
theorem JD(bs:List Nat)(i:Nat): ∀v∈tL bs i,v.oneCell'=true:=by
 intro v hv;simp only[tL,gP]at hv;obtain⟨j,_,rfl⟩:=hv;show(if _ then _ else _:Value).oneCell'=true;split<;>rfl
theorem GD(bs:List Nat)(i:Nat){j:Nat}(h:j<5):(tL bs i)[j]?=some (JM bs (i*5+j)):=by simp[tL,h]
theorem JE(bs:List Nat){i:Nat}(h:i<5):((dS bs).drop (i*5)).take 5=tL bs i:=by
 refine List.ext_getElem? λj=>?_
 by_cases hj:j<5
 · rw[List.getElem?_take_of_lt hj,List.getElem?_drop,Dt bs (by omega),GD bs i hj]
 · rw[List.getElem?_eq_none (by rw[bB];omega),List.getElem?_eq_none (by rw[oW];omega)]
def mH(W:List (List (List UInt8)))(k:Nat):Nat:=((List.range k).map λq=>if q%6=0 then 0 else(W.getD q []).length).sum
theorem sF(W:List (List (List UInt8)))(k:Nat):mH W (k+1)=mH W k+(if k%6=0 then 0 else(W.getD k []).length):=by simp[mH,cQ]
def mD(bs:List Nat):List Value:=(List.range 25).map λq=>if q%6=0∨bs.length≤q then .pointer none else .pointer (some ⟨bs.getD q 0,0,none⟩)
theorem Ae(bs:List Nat):(mD bs).length=25:=by simp[mD]
theorem H0{bs:List Nat}{b:Nat}(h:bs.length<25)(hd: ¬bs.length%6=0):(mD bs).set bs.length (.pointer (some ⟨b,0,none⟩))=mD (bs++[b]):=by
 refine List.ext_getElem? λj=>?_
 by_cases hj:j=bs.length
 · subst hj
   rw[List.getElem?_set_self (by rw[Ae];exact h)];simp[mD,h,hd,List.getD_eq_getElem?_getD]
 · rw[List.getElem?_set_ne (λe=>hj e.symm)]
   simp only[mD,List.getElem?_map];cases hr:(List.range 25)[j]?with
   |none=>rfl
   |some q=>
    have hq:q=j:=by
     by_cases h25:j<25
     · simp[h25]at hr;exact hr.symm
     · simp[h25]at hr
    subst hq;simp only[Option.map_some,ag,av,az];congr 1
    by_cases hlt:q<bs.length
    · simp[show ¬bs.length≤q by omega,show ¬bs.length+1≤q by omega,List.getElem?_append_left hlt]
    · simp[show bs.length≤q by omega,show bs.length+1≤q by omega]
theorem Fp{bs:List Nat}{b:Nat}(hd:bs.length%6=0):mD (bs++[b])=mD bs:=by
 unfold mD;refine ff λq hq=>?_
 rw[ag,g9]
 by_cases hq6:q%6=0
 · simp[hq6]
 · by_cases hlt:q<bs.length
   · simp[hq6,show ¬bs.length≤q by omega,show ¬bs.length+1≤q by omega,List.getElem?_append_left hlt]
   · have: ¬q=bs.length:=λe=>hq6 (by rw[e];exact hd)
     simp[show bs.length≤q by omega,show bs.length+1≤q by omega]
theorem H3{bs:List Nat}(h:bs.length=25):mD bs=dS bs:=by
 unfold mD dS;refine ff λq hq=>?_
 rw[eY]at hq;simp[show ¬bs.length≤q by omega]
def pN(T U:Nat)(bs:List Nat)(q:Nat):HP:=if q%6=0 then(λ_=>True)else iv T U (bs.getD q 0) []
def lh(T U:Nat)(bs:List Nat):HP:=bS ((List.range bs.length).map (pN T U bs))
theorem Gf(T U:Nat){H:List HP}{h:Hl}(s:bS H h):bS (lh T U []::H) h:=⟨em,h,EJ h,(rV h).symm,trivial,s⟩
theorem Gg(T U:Nat)(bs:List Nat)(b:Nat):(List.range bs.length).map (pN T U (bs++[b]))=(List.range bs.length).map (pN T U bs):=
 ff λq hq=>by
  rw[eY]at hq;unfold pN;rw[show(bs++[b]).getD q 0=bs.getD q 0 by simp[List.getElem?_append_left hq]]
theorem wj(T U:Nat)(bs:List Nat)(b:Nat){H:List HP}{h:Hl}(s:bS (pN T U (bs++[b]) bs.length::lh T U bs::H) h):bS (lh T U (bs++[b])::H) h:=by
 have e:(List.range (bs++[b]).length).map (pN T U (bs++[b]))=(List.range bs.length).map (pN T U bs)++[pN T U (bs++[b]) bs.length]:=by
  rw[ag,g9,cQ,eZ,Gg];rfl
 obtain⟨h1,h2,d,rfl,a,b'⟩:=s;have s2:bS ((pN T U (bs++[b]) bs.length::(List.range bs.length).map (pN T U bs))++H) (jn h1 h2):=⟨h1,h2,d,rfl,a,(cj _ _).2 b'⟩;have p:((pN T U (bs++[b]) bs.length::(List.range bs.length).map (pN T U bs))++H).Perm (((List.range bs.length).map (pN T U bs)++[pN T U (bs++[b]) bs.length])++H):=(List.perm_append_comm (l₁:=[pN T U (bs++[b]) bs.length])).append_right H;have s3:=eM p s2;rw[←e]at s3;exact(cj _ _).1 s3
theorem Eu(T U:Nat)(bs:List Nat)(hd:bs.length%6=0){H:List HP}{h:Hl}(s:bS (lh T U bs::H) h):bS (lh T U (bs++[0])::H) h:=by
 refine wj T U bs 0 ⟨em,h,EJ h,(rV h).symm,?_,s⟩;unfold pN;rw[if_pos hd];trivial
theorem Gh{T U:Nat}{bs:List Nat}(h:bs.length=25):lh T U bs=fa T U bs (List.replicate 25 []):=by
 unfold lh fa p9;rw[h];refine congrArg bS ?_;refine ff λq hq=>?_
 rw[eY]at hq;unfold pN rX;rw[show(List.replicate 25 ([]:List (List UInt8))).getD q []=[]by rw[List.getD_eq_getElem?_getD,List.getElem?_replicate,if_pos hq];rfl]
theorem KO{T U:Nat}{bs:List Nat}{W:List (List (List UInt8))}{k:Nat}(h6: ¬k%6=0)(hk:k<25){H:List HP}{h:Hl}(s:bS (fa T U bs W::H) h):bS (iv T U (bs.getD k 0) (W.getD k [])::fZ T U bs W k::H) h:=by
 have:=yz hk s
 rwa [rA h6]at this
theorem KM{T U:Nat}{bs:List Nat}{W:List (List (List UInt8))}{k:Nat}(h6: ¬k%6=0)(hk:k<25){H:List HP}{h:Hl}(s:bS (iv T U (bs.getD k 0) (W.getD k [])::fZ T U bs W k::H) h):bS (fa T U bs W::H) h:=by
 refine wi (W:=W) hk (λ_ _=>rfl) ?_;rw[rA h6];exact s
end Leg
end

section
namespace Go.Proofs.YtkhjnolhhidecaaGreatDoor
open Go Leg Codec Api Dsk Wal
theorem By(n:Nat)(bs:List Nat)(W:List (List (List UInt8)))(hsm: ∀k,k<25→mH W k+(W.getD k []).length≤1000000000):
 DT 30 #[(.pointer (some ⟨n,0,none⟩))] T0 [aj n (dS bs) 106,fa 169 5 bs (W)] (RI (.int .i64 ((mH W 25:Nat):Int)) [aj n (dS bs) 106,fa 169 5 bs W]):=by
 refine BD 28 Tryz.func30 rfl rfl rfl λw0 F hF=>sr λ_ J1=>PS ?_
 refine nx J1 (sr λ_ J2=>PS ?_);refine nx J2 (aa λ_ J3=>sr λ_ J4=>P2 ?_);refine FA 0 Tryz.underlying106 Gs ?_;refine tp (aN (vs:=dS bs) rfl MH rfl Gs rfl (RO 0) (Ad bs) (xa (Ad bs))) ?_;refine PS ?_;refine nx J4 (am ?_)
 refine bH (α:=(Nat)) (λi=>i≤5) (λi=>[(2,(.int .i64 0)),(3,(.int .i64 (((mH W (i*5):Nat):Int)))),(11,(.agg (dS bs).toArray)),(12,(.int .i64 (((i:Nat):Int))))]) (λi=>[aj n (dS bs) 106,fa 169 5 bs (W)]) (λi=>5-i) 0
  (aO _) SB
  (λ_ s=>s) (λi hinv=>?_)
 obtain hi:=hinv;refine sr λ_ J5=>PS ?_
 refine ap ?_ ?_<;>intro h13;refine nx J5 (aa λ_ J6=>CY (qx J6 (aa λ_ J7=>am (sr λ_ J8=>tp (RD (cs:=dS bs) (vs:=tL bs i) (r:=i*5) rfl MH K0 rfl Cx rfl rfl (by omega) (by omega) (by omega) (JE bs (by omega))) ?_))));refine XA Qv λb5=>?_
 refine bX (vs:=tL bs i) (i:=0) (ab rfl) rfl rfl rfl rfl rfl (by rw[oW bs i];exact Cx) (JD bs i) rfl rfl (by rw[oW bs i];exact aK _) (jE (Eq.trans (rfl:_=5) (by rw[oW bs i]:(tL bs i).length=5).symm)) rfl (nx J8 (sr λ_ J9=>tp (aN (vs:=tL bs i) rfl K0 rfl Cx rfl (RO 0) (oW bs i) (xa (oW bs i))) ?_));refine PS ?_;refine nx J9 (am ?_)
 refine bH (α:=(Nat)) (λj=>j≤5) (λj=>[(2,(.int .i64 0)),(3,(.int .i64 (((mH W (i*5+j):Nat):Int)))),(11,(.agg (dS bs).toArray)),(12,(.int .i64 (((i:Nat):Int)))),(15,(.agg (tL bs i).toArray)),(16,(.int .i64 (((j:Nat):Int))))]) (λj=>[aj n (dS bs) 106,fa 169 5 bs (W)]) (λj=>5-j) 0
  (aO _) SB
  (λ_ s=>ak [1,1] rfl s) (λj hinv=>?_)
 obtain hj:=hinv;refine sr λ_ J10=>PS ?_
 refine ap ?_ ?_<;>intro h17;refine nx J10 (aa λ_ J11=>CY (qx J11 (aa λ_ J12=>am (sr λ_ J13=>tp (jg (cs:=tL bs i) (v:=JM bs (i*5+j)) (r:=j) rfl K0 yF rfl Gt rfl rfl (by omega) (by omega) (by omega) (GD bs i (by omega))) ?_))));refine PS ?_;refine nx J13 (sr λ_ J14=>PS ?_);refine tp (PV.ptrNeIf rfl yF rfl rfl) ?_;refine bh ?_ ?_<;>intro h20;have h20: ¬((i*5+j)%6=0):=by simpa using h20
 refine TL.weak (L':=[(2,(.int .i64 0)),(3,(.int .i64 (((mH W (i*5+j):Nat):Int)))),(7,(.pointer (some ⟨(bs.getD (i*5+j) 0),0,none⟩))),(11,(.agg (dS bs).toArray)),(12,(.int .i64 (((i:Nat):Int)))),(15,(.agg (tL bs i).toArray)),(16,(.int .i64 (((j:Nat):Int)))),(17,(.bool true)),(18,(JM bs (i*5+j))),(19,(JM bs (i*5+j))),(20,(.bool true))]) (bN rfl rfl (bN rfl rfl (bN rfl (if_neg h20) (bN rfl rfl (bN rfl rfl (bN rfl rfl (bN rfl rfl (bN rfl rfl (bN rfl rfl (bN rfl rfl (bN rfl rfl SB))))))))))) (λ_ s=>s) (ct (H':=[iv 169 5 (bs.getD (i*5+j) 0) (W.getD (i*5+j) []),fZ 169 5 bs W (i*5+j),aj n (dS bs) 106]) (λ_ s=>KO h20 (by omega) (aD [1] rfl s)) (nx J14 (CY (ac (P2 ?_)))));refine CE DG (jV (bs.getD (i*5+j) 0) (W.getD (i*5+j) [])) ID ?_;refine tp (bD (r:=((mH W (i*5+j)+(W.getD (i*5+j) []).length:Nat):Int)) rfl rfl rfl (by rw[←Int.natCast_add];exact bL (by omega) (by have:=hsm (i*5+j) (by omega);omega))) ?_;refine PS ?_;refine au (af (ad J12 (ac (AD ?_))));refine PS ?_;refine au ?_
 exact aL ((j+1):(Nat)) (by omega) (by show 5- (j+1)<5-j;omega)
  (aX (bN rfl (by rw[show mH W (i*5+(j+1))=mH W (i*5+j)+(W.getD (i*5+j) []).length from by rw[←n7,sF,if_neg h20]]) SB))
  (λ_ s=>aD [1,0] rfl (KM h20 (by omega) (ak [0,0,0] rfl s)))
 refine nx J14 (CN (aR (af (ad J12 (ac (AD ?_))))));refine PS ?_;refine au ?_
 exact aL ((j+1):(Nat)) (by omega) (by show 5- (j+1)<5-j;omega)
  (aX (bN rfl (by rw[show mH W (i*5+(j+1))=mH W (i*5+j)from by rw[←n7,sF,if_pos (by simpa using h20),zv]]) SB))
  (λ_ s=>s)
 refine nx J10 (aa λ_ J15=>CN (aW (aA (aA (bu (af (ad J7 (ac (AD ?_)))))))));refine PS ?_;refine au ?_
 exact aL ((i+1):(Nat)) (by omega) (by show 5- (i+1)<5-i;omega)
  (aX (bN rfl (by rw[show(i+1)*5=i*5+j by omega]) SB))
  (λ_ s=>s)
 refine nx J5 (aa λ_ J16=>CN (aW (aA (aA (bu (ad J3 (sr λ_ J17=>P2 ?_)))))));refine nx J17 (ah (WK [0,0] (aw rfl rfl ?_)));exact⟨by rw[show i*5=25 by omega],rfl⟩
theorem DL(n:Nat)(W:List (List (List UInt8)))(hsm: ∀k,k<25→mH W k+(W.getD k []).length≤1000000000):DT 30 #[.pointer (some ⟨n,0,none⟩)] T0 [eS 106 169 5 n W] (RI (.int .i64 ((mH W 25:Nat):Int)) [eS 106 169 5 n W]):=
 Leg.Does.pack (B:=[]) λbs=>Leg.Does.fold (By n bs W hsm) λe H hp=>by
  cases e with
  |returned v=>
   obtain⟨rfl,rfl⟩:=hp;exact⟨[eS 106 169 5 n W],λ_ s=>bz (p:=λbs:List Nat=>[aj n (dS bs) 106,fa 169 5 bs W]) (H:=[]) bs s,rfl,rfl⟩
  |panicked c=>exact hp.elim
  |outgrown=>exact hp.elim
theorem KP{T U:Nat}{bs:List Nat}{b:Nat}(h: ¬bs.length%6=0):pN T U (bs++[b]) bs.length=iv T U b []:=by
 unfold pN;rw[if_neg h,List.getD_eq_getElem?_getD,List.getElem?_append_right (aK _),zu];rfl
theorem Gi{T U:Nat}{bs:List Nat}{b:Nat}(hl: ¬bs.length%6=0){H:List HP}{h:Hl}(s:bS (iv T U b []::lh T U bs::H) h):bS (lh T U (bs++[b])::H) h:=wj T U bs b (by rw[KP hl];exact s)
theorem DK:
 DT 19 #[] T0 [] (dF (λv H=>∃n,v= .pointer (some ⟨n,0,none⟩)∧H=[eS 106 169 5 n (List.replicate 25 [])])):=by
 refine Leg.Does.body (vs:=[]) (n:=26) Tryz.func19 rfl rfl rfl (λw0 F hF=>?_);refine sr λ_ J1=>?_
 refine qg ?_;refine nx J1 ?_;refine sr λ_ J2=>?_
 refine tp (kM (cells:=#[(.pointer none),(.pointer none),(.pointer none),(.pointer none),(.pointer none),(.pointer none),(.pointer none),(.pointer none),(.pointer none),(.pointer none),(.pointer none),(.pointer none),(.pointer none),(.pointer none),(.pointer none),(.pointer none),(.pointer none),(.pointer none),(.pointer none),(.pointer none),(.pointer none),(.pointer none),(.pointer none),(.pointer none),(.pointer none)]) rfl rfl (by as_aux_lemma=>kernel_rfl)) ?_;refine TL.box (ab rfl) rfl rfl rfl rfl (λb5=>?_);change TL _ _ _ _ _ _ _ _ _ [aj b5 [(.pointer none),(.pointer none),(.pointer none),(.pointer none),(.pointer none),(.pointer none),(.pointer none),(.pointer none),(.pointer none),(.pointer none),(.pointer none),(.pointer none),(.pointer none),(.pointer none),(.pointer none),(.pointer none),(.pointer none),(.pointer none),(.pointer none),(.pointer none),(.pointer none),(.pointer none),(.pointer none),(.pointer none),(.pointer none)] 106];refine qg ?_;refine nx J2 ?_;refine aa λ_ J3=>?_
 refine sr λ_ J4=>?_
 refine mv ?_;refine nx J4 ?_;refine am ?_
 refine bH (α:=(Nat)×(List Nat)) (λ⟨i,bs⟩=>i≤5∧bs.length=i*5) (λ⟨i,bs⟩=>[(0,(.pointer none)),(1,(.pointer (some ⟨b5,0,none⟩))),(6,(.int .i64 (((i:Nat):Int))))]) (λ⟨i,bs⟩=>[aj b5 (mD (bs)) 106,lh 169 5 (bs)]) (λ⟨i,bs⟩=>5-i) (0,[])
  ⟨aO _,rfl⟩ (aX (aX (bN rfl (by congr 1) (Oq _))))
  (λ_ s=>aD [1,0] rfl (Gf 169 5 s)) (λ⟨i,bs⟩ hinv=>?_)
 obtain⟨hi,hbs⟩:=hinv;refine sr λ_ J5=>?_
 refine tp (PV.lss rfl rfl rfl) ?_;refine ap (λh7=>?_) (λh7=>?_);refine nx J5 ?_;refine aa λ_ J6=>?_
 refine oi rfl ?_;refine aR ?_;refine ad J6 ?_;refine aa λ_ J7=>?_
 refine am ?_;refine sr λ_ J8=>?_
 refine mv ?_;refine qg ?_;refine nx J8 ?_;refine sr λ_ J9=>?_
 refine mv ?_;refine nx J9 ?_;refine am ?_
 refine bH (α:=(Nat)×(List Nat)) (λ⟨j,bs2⟩=>j≤5∧bs2.length=i*5+j) (λ⟨j,bs2⟩=>[(0,(.pointer none)),(1,(.pointer (some ⟨b5,0,none⟩))),(2,(.int .i64 (((i:Nat):Int)))),(6,(.int .i64 (((i:Nat):Int)))),(9,(.int .i64 (((j:Nat):Int))))]) (λ⟨j,bs2⟩=>[aj b5 (mD (bs2)) 106,lh 169 5 (bs2)]) (λ⟨j,bs2⟩=>5-j) (0,bs)
  ⟨aO _,hbs⟩ (aX (aX (aX (aX (bN rfl (by congr 1) (Oq _))))))
  (λ_ s=>s) (λ⟨j,bs2⟩ hinv=>?_)
 obtain⟨hj,hbl⟩:=hinv;refine sr λ_ J10=>?_
 refine tp (PV.lss rfl rfl rfl) ?_;refine ap (λh10=>?_) (λh10=>?_);refine nx J10 ?_;refine aa λ_ J11=>?_
 refine oi rfl ?_;refine aR ?_;refine ad J11 ?_;refine aa λ_ J12=>?_
 refine am ?_;refine sr λ_ J13=>?_
 refine mv ?_;refine qg ?_;refine nx J13 ?_;refine sr λ_ J14=>?_
 refine mv ?_;refine mv ?_;refine tp (PV.neq rfl rfl rfl) ?_;refine ap (λh14=>?_) (λh14=>?_);refine nx J14 ?_;refine oi rfl ?_;refine sQ (λw=>Frm F w∧True) dh rfl (λ_ s=>⟨fF s,trivial⟩) ?_;refine ta 0 rfl (kA rfl rfl) ?_;refine ta 1 rfl (kA rfl rfl) ?_;refine ta 2 rfl (kA rfl rfl) ?_;refine ta 4 rfl (gW rfl rfl) ?_;refine ta 5 rfl (bc (r:=0) rfl Tryz.underlying106 rfl Gs rfl rfl) ?_;refine ta 6 rfl (q8 (r:=i*5) rfl MH Cx rfl rfl (by omega) (by omega) (by omega)) ?_;refine dd [3] (by kernel_rfl) rfl ?_;refine aF rfl ?_ ?_;refine lU (A:=[]) (ab rfl) rfl rfl rfl QW rfl (Ev) (λ_ s=>s) (λ_ _ _=>trivial) (λvR HR hR=>?_);obtain⟨bx,rfl,rfl⟩:=hR;change TL _ _ _ _ _ _ _ _ _ [iv 169 5 bx [],aj b5 (mD (bs2)) 106,lh 169 5 (bs2)];refine au ?_;refine wn (λ_ s=>⟨fF s,trivial⟩) ?_;refine ta 7 rfl (q8 (r:=i*5+j) rfl K0 Gt rfl rfl (by omega) (by omega) (by omega)) ?_;refine dd [8] (by kernel_rfl) rfl ?_;refine aF rfl ?_ ?_;refine bJ (i:=1) (H':=[iv 169 5 bx [],aj b5 (mD (bs2++[bx])) 106,lh 169 5 (bs2)]) (ab rfl) rfl rfl rfl rfl rfl Gt rfl rfl (by rw[Ae];omega) (by rw[show i*5+j=bs2.length by omega];exact H0 (by omega) (by omega)) rfl ?_;refine au ?_;refine wn (λ_ s=>⟨fF s,trivial⟩) ?_;refine TD.done (by kernel_rfl) ?_;refine af ?_;refine ad J12 ?_;refine ac ?_;refine tp (bD rfl rfl rfl (bL (by omega) (by omega))) ?_;refine mv ?_;refine au ?_
 exact aL ((j+1,bs2++[bx]):(Nat)×(List Nat)) ⟨by omega,by rw[ag,g9];omega⟩ (by show 5- (j+1)<5-j;omega)
  (aX (aX (aX (aX (bN rfl (by simp) (Oq _))))))
  (λ_ s=>show bS [aj b5 (mD (bs2++[bx])) 106,lh 169 5 (bs2++[bx])] _ from aD [1,0] rfl (Gi (by omega) (ak [0,1,0] rfl s)))
 exact bQ;exact bQ;refine nx J14 ?_;refine G8 rfl ?_;refine aR ?_;refine af ?_;refine ad J12 ?_;refine ac ?_;refine tp (bD rfl rfl rfl (bL (by omega) (by omega))) ?_;refine mv ?_;refine au ?_
 exact aL ((j+1,bs2++[0]):(Nat)×(List Nat)) ⟨by omega,by rw[ag,g9];omega⟩ (by show 5- (j+1)<5-j;omega)
  (aX (aX (aX (aX (bN rfl (by simp) (Oq _))))))
  (λ_ s=>show bS [aj b5 (mD (bs2++[0])) 106,lh 169 5 (bs2++[0])] _ by rw[Fp (by omega)];exact aD [1,0] rfl (Eu 169 5 bs2 (by omega) (aD [1,0] rfl s)))
 refine nx J10 ?_;refine aa λ_ J15=>?_
 refine G8 rfl ?_;refine aW ?_;refine aA ?_;refine aA ?_;refine bu ?_;refine af ?_;refine ad J7 ?_;refine ac ?_;refine tp (bD rfl rfl rfl (bL (by omega) (by omega))) ?_;refine mv ?_;refine au ?_
 exact aL ((i+1,bs2):(Nat)×(List Nat)) ⟨by omega,by omega⟩ (by show 5- (i+1)<5-i;omega)
  (aX (aX (bN rfl (by simp) (Oq _))))
  (λ_ s=>s)
 refine nx J5 ?_;refine aa λ_ J16=>?_
 refine G8 rfl ?_;refine aW ?_;refine aA ?_;refine aA ?_;refine bu ?_;refine ad J3 ?_;refine sr λ_ J17=>?_
 refine mv ?_;refine qg ?_;refine nx J17 ?_;refine ah ?_;refine aE (H':=[eS 106 169 5 b5 (List.replicate 25 [])]) (dN _) (λ_ s=>bz (p:=λbs:List Nat=>[aj b5 (dS bs) 106,fa 169 5 bs (List.replicate 25 [])]) (H:=[]) bs (by rw[←H3 (by omega),←Gh (by omega)];exact s)) ?_;refine aw rfl rfl ?_;exact⟨b5,rfl,rfl⟩
end Go.Proofs.YtkhjnolhhidecaaGreatDoor
end

section
namespace Leg
open Go Codec Api
def fh(n:Nat)(D M P:Nat→Value):List Value:= .pointer (some ⟨n,0,none⟩)::((List.range 5).map D++((List.range 5).map M++(List.range 5).map P))
section
variable (n:Nat) (D M P:Nat→Value) {i:Nat}
theorem sL:(fh n D M P).length=16:=by simp[fh]
theorem BU:(fh n D M P)[0]?=some (.pointer (some ⟨n,0,none⟩)):=rfl
theorem F9(h:i<5):(fh n D M P)[1+i]?=some (D i):=by
 rw[m7,fh,List.getElem?_cons_succ,List.getElem?_append_left (by simpa using h)];simp[h]
theorem yu(h:i<5):(fh n D M P)[6+i]?=some (M i):=by
 rw[show 6+i=(5+i)+1 by omega,fh,List.getElem?_cons_succ,List.getElem?_append_right (by simp),List.getElem?_append_left (by simp;omega)];simp[h]
theorem PR(h:i<5):(fh n D M P)[11+i]?=some (P i):=by
 rw[show 11+i=(10+i)+1 by omega,fh,List.getElem?_cons_succ,List.getElem?_append_right (by simp;omega),List.getElem?_append_right (by simp;omega)];simp only[cn,Lb];rw[show 10+i-5-5=i by omega];simp[h]
end
def ou{α:Type}(f:Nat→α)(i:Nat)(v:α):Nat→α:=λj=>if j=i then v else f j
theorem mp{α:Type}(f:Nat→α)(i:Nat)(v:α):ou f i v i=v:=if_pos rfl
theorem qt{α:Type}(f:Nat→α){i j:Nat}(v:α)(h:j≠i):ou f i v j=f j:=if_neg h
theorem BE{α:Type}(f:Nat→α){i k:Nat}(h:i<k)(v:α):((List.range k).map f).set i v=(List.range k).map (ou f i v):=by
 refine List.ext_getElem? λj=>?_
 by_cases hj:j=i
 · subst hj
   rw[List.getElem?_set_self (by simpa using h)];simp[h,mp]
 · rw[List.getElem?_set_ne (λe=>hj e.symm)]
   by_cases hk:j<k
   · simp[hk,qt f v hj]
   · simp[hk]
section
variable (n:Nat) (D M P:Nat→Value) {i:Nat} (v:Value)
theorem MA(h:i<5):(fh n D M P).set (1+i) v=fh n (ou D i v) M P:=by
 rw[m7,fh,cf,re _ _ (by simpa using h),BE D h];rfl
theorem wP(h:i<5):(fh n D M P).set (6+i) v=fh n D (ou M i v) P:=by
 rw[show 6+i=(5+i)+1 by omega,fh,cf,g8 _ _ (by simp),re _ _ (by simp;omega)];simp only[cn,Lb];rw[show 5+i-5=i by omega,BE M h];rfl
theorem G4(h:i<5):(fh n D M P).set (11+i) v=fh n D M (ou P i v):=by
 rw[show 11+i=(10+i)+1 by omega,fh,cf,g8 _ _ (by simp;omega),g8 _ _ (by simp;omega)];simp only[cn,Lb];rw[show 10+i-5-5=i by omega,BE P h];rfl
end
abbrev OL(c i:Nat):Value:= .agg #[.pointer (some ⟨c,0,none⟩), .int .i64 ((i:Nat):Int)]
end Leg
namespace Go.Proofs.YtkhjnolhhidecaaGreatDoor
open Go Leg Codec Api Dsk Wal
section
variable {CT NT BT U c n d i:Nat} {D M P:Nat→Value} {W:List (List (List UInt8))} {recs:List (List UInt8)} {l:List SaidT} {H:List HP} {h:Hl}
end
end Go.Proofs.YtkhjnolhhidecaaGreatDoor
end

section
namespace Api
open Go Leg Codec Dsk Wal
structure MS(δ:Type) where
 id:Int
 view:ViewT
 own:RowT
 mirror:MirT
 acc:AccT
 round:Int
 vote:Option VoteT
 book:BookT
 busy:Bool
 kept:Int
 waits:Int
 ops:Int
 replies:List ReplyT
 told:Vector Int 5
 last:Vector RowT 5
 e:δ
 o:List SaidT
structure Adr where
 lg:Nat
 vo:Value
 rs:Value
structure Dk(δ:Type) where
 pt:δ→List UInt8→δ×Int
 dn:δ→Bool
 ok:δ→Prop
 sure: ∀(e:δ) (bs:List UInt8),ok e→bs.length≤3000→ok (pt e bs).1
variable {δ:Type}
abbrev MS.rep(s:MS δ)(a:Adr):RepT:=⟨s.id, .pointer (some ⟨a.lg,0,none⟩),s.view,s.own,s.mirror,s.acc,s.round,a.vo,s.book,s.busy,s.kept,s.waits,s.ops,a.rs,s.told,s.last⟩
def MS.setView(s:MS δ)(v:ViewT):MS δ:= {s with view:=v}
def MS.setOwn(s:MS δ)(v:RowT):MS δ:= {s with own:=v}
def MS.setAcc(s:MS δ)(v:AccT):MS δ:= {s with acc:=v}
def MS.setRound(s:MS δ)(v:Int):MS δ:= {s with round:=v}
def MS.setBusy(s:MS δ)(v:Bool):MS δ:= {s with busy:=v}
def MS.setKept(s:MS δ)(v:Int):MS δ:= {s with kept:=v}
def MS.setWaits(s:MS δ)(v:Int):MS δ:= {s with waits:=v}
def MS.setOps(s:MS δ)(v:Int):MS δ:= {s with ops:=v}
def MS.setTold(s:MS δ)(v:Vector Int 5):MS δ:= {s with told:=v}
def MS.setLast(s:MS δ)(v:Vector RowT 5):MS δ:= {s with last:=v}
def Adr.nil:Adr:=⟨0, .pointer none, .slice none 0 0⟩
def cX(w:Int):Int:=IntKind.i64.wrap (1*2^min w.toNat IntKind.i64.bits)
def DR(a b:BallotT):Bool:=if a.round≠b.round then decide (a.round<b.round)else decide (a.who<b.who)
def AN(a:AccT)(ep:Int)(b:BallotT):Bool:=decide (ep≠a.epoch)||(decide (b.round<1)||DR b a.vow)
def cd(a:AccT)(ep:Int)(b:BallotT):AccT×Bool:=if AN a ep b then(a,false)else({a with vow:=b},true)
def ib(a:AccT)(ep:Int)(b:BallotT)(c:ChangeT):AccT×Bool:=if AN a ep b then(a,false)else({a with vow:=b,had:=b,change:=c},true)
def l3(bits:Int)(k:Nat):List Int:=((List.range k).filter λi:Nat=>IT bits ((i:Nat):Int)).map λi:Nat=>((i:Nat):Int)
def Fe(bits:Int):List Int:=l3 bits 5
def Na(part all:Int):Bool:=decide (2* (((Fe (rF .i64 part all)).length:Nat):Int)>(((Fe all).length:Nat):Int))
def im(v:ViewT)(bits:Int):Bool:=Na bits v.members
def jv(v:ViewT)(b:BallotT)(c:ChangeT):VoteT:= {VoteT.zero with view:=v,ballot:=b,change:=c}
def oF(v:VoteT)(who:Int)(b:BallotT):Bool:=decide (b.flat=v.ballot.flat)&&jt v.view who
def w6(v:VoteT)(who:Int)(had:BallotT)(c:ChangeT):VoteT:=
 if decide (0<had.round)&&DR v.best had then {v with vowed:=iS .i64 v.vowed (cX who),best:=had,change:=c}else {v with vowed:=iS .i64 v.vowed (cX who)}
def fi(v:VoteT)(who:Int)(b had:BallotT)(c:ChangeT):VoteT×Bool:=
 if v.putting|| !oF v who b then(v,false)else({w6 v who had c with putting:=im v.view (iS .i64 v.vowed (cX who))},im v.view (iS .i64 v.vowed (cX who)))
def ia(v:VoteT)(who:Int)(b:BallotT):VoteT×Bool:=
 if !v.putting|| !oF v who b then(v,false)else({v with took:=iS .i64 v.took (cX who)},im v.view (iS .i64 v.took (cX who)))
def setHeir(x:RowT)(who v:Int)(l:Vector CellT 4):RowT:=if h:cJ who=true then {x with heir:=x.heir.set who.toNat v (da h),left:=x.left.set who.toNat l (da h)}else x
def va(x:RowT)(who:Int):Vector CellT 4:=if h:cJ who=true then x.left[who.toNat]'(da h)else RowT.zero.cells
def nr(who:Int)(dead:RowT)(x:RowT)(i:Nat):RowT:=if((i:Nat):Int)≠who∧0<heirAt dead ((i:Nat):Int)∧heirAt x ((i:Nat):Int)=0 then setHeir x ((i:Nat):Int) (heirAt dead ((i:Nat):Int)) (va dead ((i:Nat):Int))else x
def inhTo(x:RowT)(who:Int)(dead:RowT)(k:Nat):RowT:=(List.range k).foldl (nr who dead) (setHeir x who (fA (dead.version+1)) dead.cells)
def cL(x:RowT)(who:Int)(dead:RowT):RowT×Int:=
 if !cJ who then(.zero,5)else if 0<heirAt x who then(.zero,8)else({inhTo x who dead 5 with version:=fA ((inhTo x who dead 5).version+1)},0)
def kr(s:MS δ)(who:Int):Int:=if h:cJ who=true then s.told[who.toNat]'(da h)else 0
def lastAt(s:MS δ)(who:Int):RowT:=if h:cJ who=true then s.last[who.toNat]'(da h)else .zero
def uM{α:Type}(v:Vector α 5)(w:Int)(x:α):Vector α 5:=if h:cJ w=true then v.set w.toNat x (da h)else v
def mI(s:MS δ)(who:Int)(y:RowT):MS δ:= {s with last:=if kr s who=0∨(lastAt s who).version<y.version then uM s.last who y else s.last}
def toldS(s:MS δ)(from' who:Int)(y:RowT):MS δ:= {mI s who y with told:=uM s.told who (iS .i64 (kr s who) (cX from'))}
def qv(s:MS δ)(who w:Int):Bool:=decide ((kr s who).fdiv (2^min w.toNat IntKind.i64.bits)%2=1)
def BM(s:MS δ)(i:Nat):Bool:=decide (mK s.view ((i:Nat):Int)=some s.id)&&decide (heirAt s.own ((i:Nat):Int)≤0)
def iz(s:MS δ)(k:Nat):List Int:=((List.range k).filter (BM s)).map λi:Nat=>((i:Nat):Int)
def bG(s:MS δ):List Int:=iz s 5
def toldAll(s:MS δ):Bool:=(bG s).all λi=>(iE i).all λw=>qv s i w
def mZ(s:MS δ)(l:List Int):RowT:=l.foldl (λx i=>if 0<heirAt x i then x else(cL x i (lastAt s i)).1) s.own
def ju(v:ViewT):MsgT:= {MsgT.zero with kind:=7,view:=v}
def ni(i:Int)(v:ViewT):MsgT:= {MsgT.zero with kind:=8,whose:=i,view:=v}
def fM(ep:Int)(b:BallotT):MsgT:= {MsgT.zero with kind:=3,epoch:=ep,ballot:=b}
def kd(ep:Int)(b had:BallotT)(c:ChangeT):MsgT:= {MsgT.zero with kind:=4,epoch:=ep,ballot:=b,had:=had,change:=c}
def iX(ep:Int)(b:BallotT)(c:ChangeT):MsgT:= {MsgT.zero with kind:=5,epoch:=ep,ballot:=b,change:=c}
def jj(ep:Int)(b:BallotT):MsgT:= {MsgT.zero with kind:=6,epoch:=ep,ballot:=b}
def gf(ep:Int)(b:BallotT):RecT:= {RecT.zero with kind:=3,epoch:=ep,ballot:=b}
def ng(ep:Int)(b:BallotT)(c:ChangeT):RecT:= {RecT.zero with kind:=4,epoch:=ep,ballot:=b,change:=c}
def dC(s:MS δ)(n:Int):MS δ:= {s with round:=n}
def li(s:MS δ)(v:VoteT):MS δ:= {s with vote:=some v}
def uu(s:MS δ)(a:AccT):MS δ:= {s with acc:=a}
variable (K:Dk δ)
def iM(s:MS δ)(l:List SaidT):MS δ:= {s with o:=if K.dn s.e then s.o else s.o++l}
def yU(s:MS δ)(to':Int)(m:MsgT):MS δ:=iM K s [⟨to',m⟩]
theorem qC(s:MS δ):iM K s []=s:=by
 unfold iM;rw[aY,ite_self]
theorem Jx(s:MS δ)(a b:List SaidT):iM K (iM K s a) b=iM K s (a++b):=by
 unfold iM
 by_cases h:K.dn s.e=true<;>simp[h]
def kC(f:MS δ→MS δ)(s:MS δ)(to':Int)(m:MsgT):MS δ:=if to'=s.id then f s else yU K s to' m
def dR(s:MS δ)(r:RecT):MS δ:= {s with e:=(K.pt s.e (lc r)).1}
def mC(s:MS δ)(r:RecT):Int:=(K.pt s.e (lc r)).2
def dw(s:MS δ)(op err val:Int):MS δ:= {s with replies:=s.replies++[⟨op,err,val⟩]}
def eW(s:MS δ):MS δ:=iM K s (ox (s.rep .nil))
def nS(id:Int)(m:MsgT)(p:Nat→Bool)(k:Nat):List SaidT:=((List.range k).filter λi:Nat=> !decide (((i:Nat):Int)=id)&&p i).map λi:Nat=>⟨((i:Nat):Int),m⟩
theorem jq(id:Int)(m:MsgT)(p:Nat→Bool)(k:Nat):nS id m p (k+1)=nS id m p k++(if((k:Nat):Int)≠id∧p k=true then [⟨((k:Nat):Int),m⟩]else []):=by
 unfold nS;rw[cQ,List.filter_append,eZ]
 by_cases h:((k:Nat):Int)=id<;>by_cases h2:p k=true<;>simp[h,h2]
def j9(s:MS δ)(y:RowT):MS δ:=iM K s (nS s.id (pC s.id y) (λ_=>true) 5)
def ll(s:MS δ)(v:ViewT):MS δ:=iM K s (nS s.id (ju v) (λ_=>true) 5)
def pX(s:MS δ)(x:RowT)(op:Int):MS δ:= {s with own:=x,busy:=true,kept:=0,waits:=op}
def dH(s:MS δ)(x:RowT)(op:Int):MS δ×Int:=if mC K s (gY x)≠0 then(dR K s (gY x),mC K s (gY x))else(eW K (pX (dR K s (gY x)) x op),0)
def ln(s:MS δ):MS δ:=if s.busy||decide ((bG s).length=0)then s else if toldAll s then(dH K s (mZ s (bG s)) 0).1 else s
def gT(s:MS δ):MS δ:= {s with busy:=false,book:=(dE s.book s.id s.own).1}
def lB(s:MS δ):MS δ:= {s with replies:=if 0<s.waits then s.replies++[⟨s.waits,0,0⟩]else s.replies,waits:=if 0<s.waits then 0 else s.waits}
theorem zC{s:MS δ}(h:0<s.waits):lB s= {dw s s.waits 0 0 with waits:=0}:=by unfold lB;rw[if_pos h,if_pos h];rfl
theorem zD{s:MS δ}(h: ¬0<s.waits):lB s=s:=by unfold lB;rw[if_neg h,if_neg h]
def kI(s:MS δ):MS δ:=ln K (j9 K (lB (gT s)) s.own)
def kx(s:MS δ)(from' ver:Int):Bool:=s.busy&&(decide (ver=s.own.version)&&decide (from'∈iE s.id))
def rS(s:MS δ):Bool:=(iE s.id).all λw=> !vp s.kept w
def keptM(s:MS δ)(from':Int):MS δ:= {s with kept:=iS .i64 s.kept (cX from')}
def du(s:MS δ)(from':Int)(m:MsgT):MS δ:=if kx s from' m.version then(if rS (keptM s from')then kI K (keptM s from')else keptM s from')else s
def yB(s:MS δ)(w:Int)(y:RowT):MS δ:= {s with book:=(dE s.book w y).1}
def il(s:MS δ)(w:Int)(y:RowT):MS δ:= {s with mirror:=(iH s.mirror w y).1}
def gJ(s:MS δ)(from':Int)(m:MsgT):MS δ:=
 if m.whose≠from'∨fg s.mirror m.whose=true then s
 else if iP s.mirror m.whose m.row then(if mC K s (k9 m.whose m.row)≠0 then dR K s (k9 m.whose m.row)else yU K (il (dR K s (k9 m.whose m.row)) m.whose m.row) from' (pI (mirRow (il (dR K s (k9 m.whose m.row)) m.whose m.row).mirror m.whose).version))
 else yU K s from' (pI (mirRow s.mirror m.whose).version)
def dB(s:MS δ)(from':Int)(m:MsgT):MS δ:=ln K (if from'∈iE m.whose then toldS s from' m.whose m.row else s)
def ld(s:MS δ)(w:Int):MS δ:= {s with mirror:=jl s.mirror w}
def eB(s:MS δ)(from' w:Int):MS δ:=
 let back:=λs:MS δ=>kC K (λs=>dB K s s.id (eV w (mirRow s.mirror w))) s from' (eV w (mirRow s.mirror w))
 if mK s.view w≠some from' then s
 else if fg s.mirror w then back s
 else if mC K s (ka w)≠0 then dR K s (ka w)else back (ld (dR K s (ka w)) w)
def gH(s:MS δ)(i w:Int):MS δ:=if qv s i w then s else kC K (λs=>eB K s s.id i) s w (ni i s.view)
def mf(s:MS δ)(i:Int):MS δ:=gH K (gH K s i ((i+1)%5)) i ((i+2)%5)
def gk(l:List Int)(s:MS δ):MS δ:=l.foldl (mf K) s
def n4(s:MS δ):MS δ:=gk K (bG s) s
def lP(s:MS δ)(v:ViewT):MS δ:= {s with view:=v,acc:= {AccT.zero with epoch:=v.epoch},vote:=none,round:=0}
def ja(s:MS δ)(v:ViewT):Bool:=decide (s.view.epoch<v.epoch)&&decide (mC K s (j7 v)=0)
def gA(s:MS δ)(v:ViewT):MS δ:=if v.epoch≤s.view.epoch then s else if mC K s (j7 v)≠0 then dR K s (j7 v)else n4 K (lP (dR K s (j7 v)) v)
def iL(s:MS δ)(from':Int)(m:MsgT):MS δ:=eB K (gA K s m.view) from' m.whose
def je(s:MS δ)(c:ChangeT):MS δ:=if(dM s.view c).2≠0 then s else if ja K s (dM s.view c).1 then ll K (gA K s (dM s.view c).1) (dM s.view c).1 else gA K s (dM s.view c).1
def eA(f:MS δ→MS δ)(s:MS δ)(from':Int)(m:MsgT):MS δ:=
 if m.epoch<s.view.epoch then(if m.kind=3∨m.kind=5 then yU K s from' (ju s.view)else s)
 else if s.view.epoch<m.epoch∨jt s.view s.id=false then s
 else f (dC s (max s.round m.ballot.round))
def km(from':Int)(m:MsgT)(s:MS δ):MS δ:=match s.vote with
 |none=>s
 |some vt=>if(ia vt from' m.ballot).2 then je K (li s (ia vt from' m.ballot).1) vt.change else(li s (ia vt from' m.ballot).1)
def mV(s:MS δ)(from':Int)(m:MsgT):MS δ:=eA K (km K from' m) s from' m
def jI(from':Int)(m:MsgT)(s:MS δ):MS δ:=kC K (λs=>mV K s s.id (jj m.epoch m.ballot)) s from' (jj m.epoch m.ballot)
def mz(from':Int)(m:MsgT)(s:MS δ):MS δ:=
 if(dM s.view m.change).2≠0 then s else if(ib s.acc m.epoch m.ballot m.change).2=false then s
 else if(ib s.acc m.epoch m.ballot m.change).1.flat≠s.acc.flat then(if mC K s (ng m.epoch m.ballot m.change)≠0 then dR K s (ng m.epoch m.ballot m.change)else jI K from' m (uu (dR K s (ng m.epoch m.ballot m.change)) (ib s.acc m.epoch m.ballot m.change).1))
 else jI K from' m s
def nL(s:MS δ)(from':Int)(m:MsgT):MS δ:=eA K (mz K from' m) s from' m
def iZ(s:MS δ)(m:MsgT):MS δ:=iM K s (nS s.id m (λi=>jt s.view ((i:Nat):Int)) 5)
def gZ(f:MS δ→MsgT→MS δ)(s:MS δ)(m:MsgT):MS δ:=if jt s.view s.id then f (iZ K s m) m else iZ K s m
def iN(s:MS δ)(vt:VoteT):MS δ:=gZ K (λs m=>nL K s s.id m) s (iX s.view.epoch vt.ballot vt.change)
def oh(from':Int)(m:MsgT)(s:MS δ):MS δ:=match s.vote with
 |none=>s
 |some vt=>if(fi vt from' m.ballot m.had m.change).2 then iN K (li s (fi vt from' m.ballot m.had m.change).1) (fi vt from' m.ballot m.had m.change).1 else(li s (fi vt from' m.ballot m.had m.change).1)
def mW(s:MS δ)(from':Int)(m:MsgT):MS δ:=eA K (oh K from' m) s from' m
def jX(from':Int)(m:MsgT)(a:AccT)(s:MS δ):MS δ:=kC K (λs=>mW K s s.id (kd m.epoch m.ballot a.had a.change)) s from' (kd m.epoch m.ballot a.had a.change)
def nd(from':Int)(m:MsgT)(s:MS δ):MS δ:=
 if(cd s.acc m.epoch m.ballot).2=false then s
 else if(cd s.acc m.epoch m.ballot).1.vow.flat≠s.acc.vow.flat then(if mC K s (gf m.epoch m.ballot)≠0 then dR K s (gf m.epoch m.ballot)else jX K from' m (cd s.acc m.epoch m.ballot).1 (uu (dR K s (gf m.epoch m.ballot)) (cd s.acc m.epoch m.ballot).1))
 else jX K from' m (cd s.acc m.epoch m.ballot).1 s
def nM(s:MS δ)(from':Int)(m:MsgT):MS δ:=eA K (nd K from' m) s from' m
def jJ(s:MS δ)(vt:VoteT):MS δ:=gZ K (λs m=>nM K s s.id m) s (fM s.view.epoch vt.ballot)
def lK(s:MS δ)(vt:VoteT):MS δ:=if vt.putting then iN K s vt else jJ K s vt
def cZ(s:MS δ):BallotT:=⟨fA (s.round+1),s.id⟩
def m3(s:MS δ)(c:ChangeT):MS δ:=li (dC (uu (dR K s (gf s.view.epoch (cZ s))) (cd s.acc s.view.epoch (cZ s)).1) (cZ s).round) (jv s.view (cZ s) c)
def bO(s:MS δ)(c:ChangeT):MS δ×Int:=
 if(cd s.acc s.view.epoch (cZ s)).2=false then(s,6)else if mC K s (gf s.view.epoch (cZ s))≠0 then(dR K s (gf s.view.epoch (cZ s)),mC K s (gf s.view.epoch (cZ s)))else(m3 K s c,0)
def fx(s:MS δ)(c:ChangeT):Int:=if(dM s.view c).2=0∧s.vote.isSome=true then 8 else(dM s.view c).2
def dv(s:MS δ)(op:Int)(c:ChangeT):MS δ×Int:=
 if fx s c≠0 then(dw s op (fx s c) 0,fx s c)
 else if(bO K s c).2≠0 then(dw (bO K s c).1 op (bO K s c).2 0,(bO K s c).2)
 else(lK K (dw (bO K s c).1 op 0 0) (jv s.view (cZ s) c),0)
def cG(s:MS δ)(o:OpT):RowT×Int×Int:=kE (s.rep .nil) o
def opsS(s:MS δ):MS δ:= {s with ops:=fA (s.ops+1)}
def ly(s:MS δ)(o:OpT):MS δ×Int:=
 if(cG s o).2.2≠0∨o.kind=3 then(dw s s.ops (cG s o).2.2 (cG s o).2.1,(cG s o).2.2)
 else if(dH K s (cG s o).1 s.ops).2≠0 then(dw (dH K s (cG s o).1 s.ops).1 s.ops (dH K s (cG s o).1 s.ops).2 0,(dH K s (cG s o).1 s.ops).2)
 else((dH K s (cG s o).1 s.ops).1,0)
def bK(s:MS δ)(o:OpT):MS δ×Int:=if jt s.view s.id&&decide (o.kind=4)then dv K (opsS s) (opsS s).ops o.change else ly K (opsS s) o
def fO(s:MS δ)(from':Int)(m:MsgT):MS δ:=
 if m.kind=0 then gJ K s from' m else if m.kind=1 then du K s from' m else if m.kind=2 then yB s m.whose m.row
 else if m.kind=7 then gA K s m.view else if m.kind=8 then iL K s from' m else if m.kind=9 then dB K s from' m
 else if m.kind=3 then nM K s from' m else if m.kind=4 then mW K s from' m else if m.kind=5 then nL K s from' m else if m.kind=6 then mV K s from' m else s
def bP(s:MS δ):MS δ:=n4 K (ln K (if s.busy=true then eW K s else s))
def cb(s:MS δ):MS δ:=if 1<s.view.epoch then ll K s s.view else s
def fB(s:MS δ):MS δ:=if 0< (cB s.book s.id).version then j9 K s (cB s.book s.id)else s
def pT(s:MS δ):MS δ:=match s.vote with
 |none=>s
 |some vt=>if(dM s.view vt.change).2=0 then(if(bO K s vt.change).2=0 then lK K (bO K s vt.change).1 (jv s.view (cZ s) vt.change)else(bO K s vt.change).1)else s
def gU(s:MS δ):MS δ:=if jt (cb K (bP K s)).view (cb K (bP K s)).id then pT K (fB K (cb K (bP K s)))else cb K (bP K s)
def ko(s:MS δ)(m:RecT):MS δ:=
 if m.kind=0 then {s with own:=m.row,busy:=true,kept:=0}
 else if m.kind=1 then il s m.whose m.row
 else if m.kind=2 then ld s m.whose
 else if m.kind=3 then {s with acc:= {s.acc with vow:=m.ballot},round:=max s.round m.ballot.round}
 else if m.kind=4 then {s with acc:= {s.acc with vow:=m.ballot,had:=m.ballot,change:=m.change},round:=max s.round m.ballot.round}
 else if m.kind=5 then lP s m.view
 else s
def my:List (List UInt8)→MS δ→Option (MS δ)
 | [],s=>some s
 |b::bs,s=>if(o8 b).2≠0 then none else my bs (ko s (o8 b).1)
def B9(id:Int)(e:δ):MS δ:=⟨id, .zero, .zero, .zero, .zero,0,none, .zero,false,0,0,0,[], #v[0,0,0,0,0], #v[RowT.zero,RowT.zero,RowT.zero,RowT.zero,RowT.zero],e,[]⟩
def ww(id:Int)(e:δ):MS δ:=lP (B9 id e) firstV
theorem HT{ls:List (List UInt8)}{k:Nat}{s:MS δ}(h:k<ls.length)(g:(o8 ls[k]).2≠0):my (ls.drop k) s=none:=by
 rw[dP h,my,if_pos g]
theorem JH{ls:List (List UInt8)}{k:Nat}{s:MS δ}(h:k<ls.length)(g: ¬(o8 ls[k]).2≠0):my (ls.drop k) s=my (ls.drop (k+1)) (ko s (o8 ls[k]).1):=by
 rw[dP h,my,if_neg g]
end Api
end

section
namespace Api
open Go Leg Codec Dsk Wal
theorem yn(m:RecT):(lc m).length≤3000:=by
 have h1:=jd m.row;have h2:=aZ m.ballot.flat;have h4:=aZ m.change.flat;have h5:=aZ m.view.flat;have h6:=aZ [m.kind,m.whose];have h8:=aZ [m.kind,m.epoch];have h9:=aZ [m.kind];simp only[BallotT.flat,ChangeT.flat,ViewT.flat,av,az,aB]at h2 h4 h5 h6 h8 h9;unfold lc
 repeat' split
 all_goals first|omega| (simp only[ag,BallotT.flat,ChangeT.flat,ViewT.flat,az];omega)
abbrev wT(n:Int):Prop:= -9223372036854775808≤n∧n<9223372036854775808
theorem nF{n:Int}(h:wT n):(Lit.int .i64 n).wf=true:=by
 have m1:IntKind.i64.min= -9223372036854775808:=by decide
 have m2:IntKind.i64.max=9223372036854775807:=by decide
 simp only[Lit.wf,m1,m2,an,decide_eq_true_eq];omega
theorem oq(n:Int):wT (fA n):=by
 unfold fA wT;simp only[IntKind.wrap,IntKind.bits,IntKind.signed];simp;omega
structure CW(c:CellT):Prop where
 inn:wT c.inn
 out:wT c.out
 given: ∀(j:Nat) (h:j<5),wT c.given[j]
class OkRow(y:RowT):Prop where
 version:wT y.version
 cells: ∀(k:Nat) (h:k<4),CW y.cells[k]
 heir: ∀(i:Nat) (h:i<5),wT y.heir[i]
 left: ∀(i k:Nat) (h:i<5) (g:k<4),CW y.left[i][k]
theorem td{α:Type}{n:Nat}{v:Vector α n}{x:α}(h:x∈v.toList): ∃(j:Nat) (h:j<n),x=v[j]:=by
 obtain⟨j,hj,rfl⟩:=gR h;rw[aB]at hj;exact⟨j,hj,by simp⟩
theorem BC{α:Type}{n:Nat}(v:Vector α n)(j:Nat)(h:j<n):v[j]∈v.toList:=by simp
theorem zA{m:Nat}{v:Vector CellT m}(h: ∀(k:Nat) (h:k<m),CW v[k]):WF (bT v.toList):=λn hn=>by
 obtain⟨c,hc,hn⟩:=kN.1 hn;obtain⟨k,hk,rfl⟩:=td hc;simp only[CellT.flat,bV]at hn;rcases hn with rfl|rfl|hn
 · exact nF (h k hk).inn
 · exact nF (h k hk).out
 · obtain⟨j,hj,rfl⟩:=td hn
   exact nF ((h k hk).given j hj)
theorem OkRow.wf{x:RowT}(h:OkRow x):WF x.flat:=λn hn=>by
 simp only[RowT.flat,bV,fy]at hn;rcases hn with rfl|hn|hn|hn
 · exact nF h.version
 · exact zA h.cells n hn
 · obtain⟨j,hj,rfl⟩:=td hn
   exact nF (h.heir j hj)
 · obtain⟨v,hv,hn⟩:=kN.1 hn
   obtain⟨j,hj,rfl⟩:=td hv;exact zA (λk hk=>h.left j k hj hk) n hn
abbrev K8:= @OkRow.wf
theorem CW.of{m:Nat}{v:Vector CellT m}(h:WF (bT v.toList))(k:Nat)(hk:k<m):CW v[k]:=by
 have q: ∀n∈v[k].flat,wT n:=λn hn=>zB (h n (kN.2 ⟨_,BC v k hk,hn⟩))
 exact⟨q _ (by simp[CellT.flat]),q _ (by simp[CellT.flat]),λj hj=>q _ (by simp[CellT.flat])⟩
theorem OkRow.of{x:RowT}(h:WF x.flat):OkRow x:=
 ⟨zB (h _ (by simp[RowT.flat])),CW.of λn hn=>h n (by simp[RowT.flat,hn]),λi hi=>zB (h _ (by simp[RowT.flat])),
  λi k hi hk=>CW.of (λn hn=>h n (by simp only[RowT.flat,bV,fy,kN];exact .inr (.inr (.inr ⟨_,BC x.left i hi,hn⟩)))) k hk⟩
class OkVw(v:ViewT):Prop where
 rng:Rng v
 wf:WF v.flat
class OkVt(v:VoteT):Prop where
 view:OkVw v.view
 ballot:WF v.ballot.flat
 change:WF v.change.flat
 best:WF v.best.flat
class OkMg(m:MsgT):Prop where
 row:OkRow m.row
 view:OkVw m.view
 ballot:WF m.ballot.flat
 had:WF m.had.flat
 change:WF m.change.flat
variable {δ:Type}
class OkR(K:outParam (Dk δ))(s:MS δ):Prop where
 e:K.ok s.e
 id:cJ s.id=true
 view:OkVw s.view
 own:OkRow s.own
 mir: ∀(i:Nat) (h:i<5),OkRow s.mirror.rows[i]
 book: ∀(i:Nat) (h:i<5),OkRow s.book.rows[i]
 last: ∀(i:Nat) (h:i<5),OkRow s.last[i]
 acc:WF s.acc.flat
 vote: ∀vt,s.vote=some vt→OkVt vt
variable {K:Dk δ}
instance OkRow.zero:OkRow RowT.zero:=OkRow.of tame_rzero.wf
theorem CW.zero:CW .zero:=⟨by decide,by decide,λj hj=>by
 match j,hj with
 |0,_|1,_|2,_|3,_|4,_=>exact⟨(by decide:(-9223372036854775808:Int)≤0),(by decide:(0:Int)<9223372036854775808)⟩⟩
instance {s:MS δ}[h:OkR K s]:OkRow s.own:=h.own
instance {s:MS δ}[h:OkR K s]:OkVw s.view:=h.view
instance {m:MsgT}[h:OkMg m]:OkRow m.row:=h.row
instance {m:MsgT}[h:OkMg m]:OkVw m.view:=h.view
theorem ot{α:Type}{n:Nat}{p:α→Prop}{v:Vector α n}{i:Nat}(hi:i<n){x:α}(h: ∀(j:Nat) (hj:j<n),p v[j])(hx:p x)(j:Nat)(hj:j<n):p (v.set i x hi)[j]:=by
 rw[Vector.getElem_set];split
 · exact hx
 · exact h j hj
instance {s:MS δ}[h:OkR K s](w:Int):OkRow (mirRow s.mirror w):=by unfold mirRow;split;exact h.mir _ _;exact .zero
instance {s:MS δ}[h:OkR K s](w:Int):OkRow (cB s.book w):=by unfold cB;split;exact h.book _ _;exact .zero
instance {s:MS δ}[h:OkR K s](w:Int):OkRow (lastAt s w):=by unfold lastAt;split;exact h.last _ _;exact .zero
theorem vm{x:RowT}[h:OkRow x](key:Int):CW (cellAt x key):=by unfold cellAt;split;exact h.cells _ _;exact .zero
theorem Iz{x:RowT}[h:OkRow x](i:Int):wT (heirAt x i):=by unfold heirAt;split;exact h.heir _ _;exact⟨by decide,by decide⟩
theorem Io{x:RowT}[h:OkRow x](i:Int)(k:Nat)(hk:k<4):CW (va x i)[k]:=by unfold va;split;exact h.left _ _ _ _;exact OkRow.zero.cells k hk
theorem xW{x:RowT}[h:OkRow x]{key n counts:Int}{c:CellT}(hc:CW c):OkRow (jO x key n counts c).1:=by
 unfold jO;split
 · exact .zero
 · refine⟨oq _,λk hk=>?_,λi hi=>?_,λi k hi hk=>?_⟩
   · show CW (eJ x key c).cells[k]
     unfold eJ;split
     · exact ot (p:=CW) (ve (by assumption)) h.cells hc k hk
     · exact h.cells k hk
   · show wT (eJ x key c).heir[i]
     unfold eJ;split<;>exact h.heir i hi
   · show CW (eJ x key c).left[i][k]
     unfold eJ;split<;>exact h.left i k hi hk
instance {x:RowT}[OkRow x](key n:Int):OkRow (pw x key n).1:=by
 unfold pw;split
 · have:=vm (x:=x) key
   exact xW ⟨oq _,this.out,this.given⟩
 · exact .zero
instance {x:RowT}[OkRow x](key n:Int):OkRow (px x key n).1:=by
 unfold px;split
 · have:=vm (x:=x) key
   exact xW ⟨this.inn,oq _,this.given⟩
 · exact .zero
instance {x:RowT}[OkRow x](key n to':Int):OkRow (mm x key n to').1:=by
 unfold mm;split
 · have:=vm (x:=x) key
   refine xW ?_;unfold qN;split
   · exact⟨this.inn,this.out,ot (p:=wT) (da (by assumption)) this.given (oq _)⟩
   · exact this
 · exact .zero
theorem xr{x:RowT}(h:OkRow x){w v:Int}{l:Vector CellT 4}(hv:wT v)(hl: ∀(k:Nat) (h:k<4),CW l[k]):OkRow (setHeir x w v l):=by
 unfold setHeir;split
 · exact⟨h.version,h.cells,ot (p:=wT) (da (by assumption)) h.heir hv,λi k hi hk=>ot (p:=λu:Vector CellT 4=>CW u[k]) (da (by assumption)) (λj hj=>h.left j k hj hk) (hl k hk) i hi⟩
 · exact h
instance {x d:RowT}[h:OkRow x][g:OkRow d](who:Int):OkRow (cL x who d).1:=by
 have q: ∀k,OkRow (inhTo x who d k):=λk=>by
  induction k with
  |zero=>exact xr h (oq _) g.cells
  |succ k ih=>
   have e:inhTo x who d (k+1)=nr who d (inhTo x who d k) k:=by unfold inhTo;rw[cQ,fl];rfl
   rw[e];unfold nr;split
   · exact xr ih (Iz _) (Io _)
   · exact ih
 unfold cL;split
 · exact .zero
 split
 · exact .zero
 · exact⟨oq _,(q 5).cells,(q 5).heir,(q 5).left⟩
instance {s:MS δ}[h:OkR K s](l:List Int):OkRow (mZ s l):=by
 have: ∀(l:List Int) (x:RowT),OkRow x→OkRow (l.foldl (λx i=>if 0<heirAt x i then x else(cL x i (lastAt s i)).1) x):=λl=>by
  induction l with
  |nil=>exact λx hx=>hx
  |cons i l ih=>exact λx hx=>ih _ (by dsimp only;split;exact hx;exact inferInstance)
 exact this l _ h.own
instance {s:MS δ}[h:OkR K s](o:OpT):OkRow (cG s o).1:=by
 have:OkRow (fV (s.rep .nil) o).1:=by
  unfold fV
  repeat' split
  all_goals first|exact .zero|exact inferInstanceAs (OkRow (pw s.own _ _).1)|exact inferInstanceAs (OkRow (px s.own _ _).1)|exact inferInstanceAs (OkRow (mm s.own _ _ _).1)
 unfold cG kE
 repeat' split
 all_goals first|exact .zero|exact this
theorem ye{l:List Int}{k:Nat}(h:k<l.length):(ints l)[k]?=some (.int .i64 (l.getD k 0)):=by simp[ints,h,List.getD_eq_getElem?_getD]
theorem pK(s:MS δ)(k:Nat):iz s (k+1)=iz s k++(if BM s k then [((k:Nat):Int)]else []):=by
 unfold iz;rw[cQ,List.filter_append,eZ]
 by_cases h:BM s k=true<;>simp[h]
theorem xq(b:Int)(k:Nat):l3 b (k+1)=l3 b k++(if IT b ((k:Nat):Int)then [((k:Nat):Int)]else []):=by
 unfold l3;rw[cQ,List.filter_append,eZ]
 by_cases h:IT b ((k:Nat):Int)=true<;>simp[h]
theorem uN(b:Int)(k:Nat):(l3 b k).length≤k:=by
 unfold l3;rw[cn];exact j5 (B7 _ _) (by simp)
theorem vh{v:ViewT}{w i:Int}(h:(mK v w).isSome=true)(g:(mK v w).getD 0=i):mK v w=some i:=by
 cases q:mK v w with
 |none=>rw[q]at h;cases h
 |some z=>rw[q]at g;rw[←g];rfl
theorem BK{s:MS δ}{k:Nat}(h:BM s k=true):mK s.view ((k:Nat):Int)=some s.id∧heirAt s.own ((k:Nat):Int)≤0:=by
 unfold BM at h;rw[an,decide_eq_true_iff,decide_eq_true_iff]at h;exact h
theorem N6{s:MS δ}{k:Nat}(h1:(mK s.view ((k:Nat):Int)).isSome=true)(h2:(mK s.view ((k:Nat):Int)).getD 0=s.id)(h3:heirAt s.own ((k:Nat):Int)≤0):BM s k=true:=by
 unfold BM;rw[an,decide_eq_true_iff,decide_eq_true_iff];refine⟨?_,h3⟩;cases q:mK s.view ((k:Nat):Int)with
 |none=>rw[q]at h1;cases h1
 |some z=>rw[q]at h2;rw[←h2];rfl
theorem Ay(s:MS δ)(k:Nat):(iz s k).length≤k:=by
 unfold iz;rw[cn];exact j5 (B7 _ _) (by simp)
theorem N3{x d:RowT}{who:Int}(h:cJ who=true)(h2: ¬0<heirAt x who):(cL x who d).2=0:=by
 rw[cL,h,if_neg (by decide),if_neg h2]
theorem Ep(K:Dk δ){l:List Int}{q:Nat}(h:q<l.length)(s:MS δ):gk K (l.take (q+1)) s=mf K (gk K (l.take q) s) (l.getD q 0):=by
 unfold gk;rw[ca h,fl,List.getD_eq_getElem?_getD,List.getElem?_eq_getElem h];rfl
theorem wc(s:MS δ){l:List Int}{q:Nat}(h:q<l.length):mZ s (l.take (q+1))=(if 0<heirAt (mZ s (l.take q)) (l.getD q 0)then mZ s (l.take q)else(cL (mZ s (l.take q)) (l.getD q 0) (lastAt s (l.getD q 0))).1):=by
 unfold mZ;rw[ca h,fl,List.getD_eq_getElem?_getD,List.getElem?_eq_getElem h];rfl
theorem uk{s:MS δ}{i:Int}(h:i∈bG s):cJ i=true∧mK s.view i=some s.id∧heirAt s.own i≤0:=by
 unfold bG iz at h;rw[gP]at h;obtain⟨k,hk,rfl⟩:=h;rw[List.mem_filter,eY]at hk;have h2:=hk.2;unfold BM at h2;rw[an,decide_eq_true_iff,decide_eq_true_iff]at h2;exact⟨decide_eq_true ⟨by omega,by omega⟩,h2.1,h2.2⟩
theorem ig(x:RowT){k:Nat}(h:k<5):heirAt x ((k:Nat):Int)=x.heir[k]:=by
 rw[heirAt,dif_pos (show cJ ((k:Nat):Int)=true from decide_eq_true ⟨by omega,by omega⟩)];rfl
theorem Jb(w:Int):(iE w).length≤1000000:=by unfold iE;split<;>simp
theorem GU{k:Nat}(h:k<5):cJ ((k:Nat):Int)=true:=decide_eq_true ⟨by omega,by omega⟩
theorem Ip(x:RowT){k:Nat}(h:k<5):va x ((k:Nat):Int)=x.left[k]:=by
 rw[va,dif_pos (GU h)];rfl
theorem Ff(x:RowT){k:Nat}(h:k<5)(v:Int)(l:Vector CellT 4):setHeir x ((k:Nat):Int) v l= {x with heir:=x.heir.set k v h,left:=x.left.set k l h}:=by
 rw[setHeir,dif_pos (GU h)];rfl
theorem ma(x:RowT)(who:Int)(dead:RowT)(k:Nat):inhTo x who dead (k+1)=nr who dead (inhTo x who dead k) k:=by unfold inhTo;rw[cQ,fl];rfl
instance OkVw.first:OkVw firstV:=⟨EO,λn hn=>by
 have h:n∈[(1:Int),7,0,0,0,0,0]:=hn;simp only[bV,List.not_mem_nil,or_false,or_self]at h
 rcases h with rfl|rfl|rfl<;>decide⟩
instance OkVw.zero:OkVw ViewT.zero:=⟨Rng.zero,λn hn=>by
 have h:n∈[(0:Int),0,0,0,0,0,0]:=hn;simp only[bV,List.not_mem_nil,or_false,or_self]at h
 rcases h with rfl;decide⟩
theorem EW{v:ViewT}(h1:wT v.epoch)(h2:wT v.members)(hr:Rng v):WF v.flat:=λn hn=>by
 simp only[ViewT.flat,bV]at hn;rcases hn with rfl|rfl|hn
 · exact nF h1
 · exact nF h2
 · obtain⟨j,hj,rfl⟩:=td hn
   have:=hr j hj;exact nF ⟨by omega,by omega⟩
theorem sV(n:Int):wT (IntKind.i64.wrap n):=oq n
instance OkVw.next{v:ViewT}[h:OkVw v](c:ChangeT):OkVw (dM v c).1:=by
 unfold dM;split
 · exact .zero
 split
 · split
   · exact .zero
   · exact⟨h.rng,EW (sV _) (sV _) h.rng⟩
 split
 · split
   · exact .zero
   · have hr:Rng ⟨IntKind.i64.wrap (v.epoch+1),ny .i64 v.members (2^c.who.toNat),sH v c⟩:=λi hi=>by
      show 0≤(sH v c)[i]∧(sH v c)[i]≤5;unfold sH;rw[Vector.getElem_mapIdx];unfold vc;split
      · have hm:cJ c.heir=true:=by
         rename_i q _ _ _ _;simp only[rJ,Bool.not_eq_true',not_or,Bool.not_eq_false]at q;exact q.2
        have hm2:0≤c.heir∧c.heir<5:=of_decide_eq_true hm;omega
      · exact h.rng i hi
     exact⟨hr,EW (sV _) (sV _) hr⟩
 · exact .zero
theorem KS{b:BallotT}(h1:wT b.round)(h2:wT b.who):WF b.flat:=λn hn=>by
 have h:n∈[b.round,b.who]:=hn;simp only[bV,List.not_mem_nil,or_false]at h;rcases h with rfl|rfl
 · exact nF h1
 · exact nF h2
theorem iA:WF BallotT.zero.flat:=KS (by decide) (by decide)
theorem p8:WF ChangeT.zero.flat:=λn hn=>by
 have h:n∈[(0:Int),0,0]:=hn;simp only[bV,List.not_mem_nil,or_false,or_self]at h;rcases h with rfl;decide
instance OkMg.sealed(w:Int)(y:RowT)[h:OkRow y]:OkMg (eV w y):=⟨h, .zero,iA,iA,p8⟩
instance OkMg.sealW(w:Int)(v:ViewT)[h:OkVw v]:OkMg (ni w v):=⟨.zero,h,iA,iA,p8⟩
section
variable {s:MS δ}
instance [h:OkR K s](l:List SaidT):OkR K (iM K s l):=⟨h.e,h.id,h.view,h.own,h.mir,h.book,h.last,h.acc,h.vote⟩
instance {p:Prop}[Decidable p]{a b:MS δ}[ha:OkR K a][hb:OkR K b]:OkR K (if p then a else b):=by split;exact ha;exact hb
instance {f:MS δ→MS δ}{t:Int}{m:MsgT}[h:OkR K s][hf:OkR K (f s)]:OkR K (kC K f s t m):=by
 unfold kC;split
 · exact hf
 · exact⟨h.e,h.id,h.view,h.own,h.mir,h.book,h.last,h.acc,h.vote⟩
instance [h:OkR K s](t:Int)(m:MsgT):OkR K (yU K s t m):=inferInstanceAs (OkR K (iM K s _))
instance [h:OkR K s](r:RecT):OkR K (dR K s r):=⟨K.sure _ _ h.e (yn r),h.id,h.view,h.own,h.mir,h.book,h.last,h.acc,h.vote⟩
instance [h:OkR K s](a b c:Int):OkR K (dw s a b c):=⟨h.e,h.id,h.view,h.own,h.mir,h.book,h.last,h.acc,h.vote⟩
instance [h:OkR K s]:OkR K (opsS s):=⟨h.e,h.id,h.view,h.own,h.mir,h.book,h.last,h.acc,h.vote⟩
instance [h:OkR K s](f:Int):OkR K (keptM s f):=⟨h.e,h.id,h.view,h.own,h.mir,h.book,h.last,h.acc,h.vote⟩
instance [h:OkR K s]:OkR K (lB s):=⟨h.e,h.id,h.view,h.own,h.mir,h.book,h.last,h.acc,h.vote⟩
theorem Ac{b:BookT}{w:Int}{x:RowT}(h: ∀(i:Nat) (h:i<5),OkRow b.rows[i])(hx:OkRow x): ∀(i:Nat) (h:i<5),OkRow (dE b w x).1.rows[i]:=by
 unfold dE;split
 · unfold xM
   split
   · exact ot (p:=OkRow) (da (by assumption)) h hx
   · exact h
 · exact h
instance OkR.merge[h:OkR K s](w:Int)(x:RowT)[hx:OkRow x]:OkR K (yB s w x):=⟨h.e,h.id,h.view,h.own,h.mir,Ac h.book hx,h.last,h.acc,h.vote⟩
instance [h:OkR K s]:OkR K (gT s):=⟨h.e,h.id,h.view,h.own,h.mir,Ac h.book h.own,h.last,h.acc,h.vote⟩
theorem FG{b:MirT}{w:Int}{x:RowT}(h: ∀(i:Nat) (h:i<5),OkRow b.rows[i])(hx:OkRow x): ∀(i:Nat) (h:i<5),OkRow (iH b w x).1.rows[i]:=by
 unfold iH;split
 · unfold sC
   split
   · exact ot (p:=OkRow) (da (by assumption)) h hx
   · exact h
 · exact h
instance [h:OkR K s](w:Int)(x:RowT)[hx:OkRow x]:OkR K (il s w x):=⟨h.e,h.id,h.view,h.own,FG h.mir hx,h.book,h.last,h.acc,h.vote⟩
instance [h:OkR K s](w:Int):OkR K (ld s w):=⟨h.e,h.id,h.view,h.own,λi hi=>by
 show OkRow (jl s.mirror w).rows[i]
 unfold jl;split<;>exact h.mir i hi,h.book,h.last,h.acc,h.vote⟩
instance [h:OkR K s](x:RowT)[hx:OkRow x](op:Int):OkR K (pX s x op):=⟨h.e,h.id,h.view,hx,h.mir,h.book,h.last,h.acc,h.vote⟩
instance [OkR K s]:OkR K (eW K s):=inferInstanceAs (OkR K (iM K s _))
instance [OkR K s](y:RowT):OkR K (j9 K s y):=inferInstanceAs (OkR K (iM K s _))
instance [OkR K s](v:ViewT):OkR K (ll K s v):=inferInstanceAs (OkR K (iM K s _))
instance [OkR K s](m:MsgT):OkR K (iZ K s m):=inferInstanceAs (OkR K (iM K s _))
instance [OkR K s](x:RowT)[OkRow x](op:Int):OkR K (dH K s x op).1:=by unfold dH;split<;>exact inferInstance
instance [h:OkR K s]:OkR K (ln K s):=by
 unfold ln;split
 · exact h
 split
 · exact inferInstance
 · exact h
instance [OkR K s]:OkR K (kI K s):=by unfold kI;exact inferInstance
instance [h:OkR K s](f:Int)(m:MsgT):OkR K (du K s f m):=by
 unfold du
 repeat' split
 all_goals exact inferInstance
instance [h:OkR K s](f:Int)(m:MsgT)[OkMg m]:OkR K (gJ K s f m):=by
 unfold gJ
 repeat' split
 all_goals exact inferInstance
theorem LN{v:Vector RowT 5}{w:Int}{x:RowT}(h: ∀(i:Nat) (h:i<5),OkRow v[i])(hx:OkRow x): ∀(i:Nat) (h:i<5),OkRow (uM v w x)[i]:=by
 unfold uM;split
 · exact ot (p:=OkRow) (da (by assumption)) h hx
 · exact h
instance [h:OkR K s](w:Int)(x:RowT)[hx:OkRow x]:OkR K (mI s w x):=⟨h.e,h.id,h.view,h.own,h.mir,h.book,by
 show ∀(i:Nat) (h:i<5),OkRow (if kr s w=0∨(lastAt s w).version<x.version then uM s.last w x else s.last)[i];split
 · exact LN h.last hx
 · exact h.last,h.acc,h.vote⟩
instance [OkR K s](f w:Int)(y:RowT)[OkRow y]:OkR K (toldS s f w y):=by
 have h:OkR K (mI s w y):=inferInstance;exact⟨h.e,h.id,h.view,h.own,h.mir,h.book,h.last,h.acc,h.vote⟩
instance [h:OkR K s](f:Int)(m:MsgT)[OkMg m]:OkR K (dB K s f m):=by unfold dB;split<;>exact inferInstance
theorem xx[OkR K s]{f:MS δ→MS δ}(hf:OkR K (f s))(t:Int)(m:MsgT):OkR K (kC K f s t m):=by unfold kC;split;exact hf;exact inferInstance
instance [h:OkR K s](f w:Int):OkR K (eB K s f w):=by
 unfold eB
 repeat' split
 · exact h
 · exact xx inferInstance _ _
 · exact inferInstance
 · exact xx inferInstance _ _
instance [h:OkR K s](i w:Int):OkR K (gH K s i w):=by
 unfold gH;split
 · exact h
 · exact xx inferInstance _ _
instance [OkR K s](i:Int):OkR K (mf K s i):=by unfold mf;exact inferInstance
theorem vl: ∀(l:List Int) (s:MS δ),OkR K s→OkR K (gk K l s)
 | [],_,h=>h
 |i::l,s,h=>vl l (mf K s i) inferInstance
instance [h:OkR K s]:OkR K (n4 K s):=vl _ _ h
theorem PX(n:Int)(h:wT n):WF ({AccT.zero with epoch:=n}:AccT).flat:=λk hk=>by
 have q:k∈[n,0,0,0,0,0,0,0]:=hk;simp only[bV,List.not_mem_nil,or_false,or_self]at q;rcases q with rfl|rfl
 · exact nF h
 · decide
instance [h:OkR K s](v:ViewT)[hv:OkVw v]:OkR K (lP s v):=⟨h.e,h.id,hv,h.own,h.mir,h.book,h.last,PX _ (zB (hv.wf _ (by simp[ViewT.flat]))),λ_ e=>nomatch e⟩
instance [h:OkR K s](v:ViewT)[OkVw v]:OkR K (gA K s v):=by
 unfold gA
 repeat' split
 all_goals exact inferInstance
instance [h:OkR K s](f:Int)(m:MsgT)[OkMg m]:OkR K (iL K s f m):=by unfold iL;exact inferInstance
instance [h:OkR K s](c:ChangeT):OkR K (je K s c):=by
 unfold je
 repeat' split
 all_goals exact inferInstance
class OkAc(a:AccT):Prop where wf:WF a.flat
instance [h:OkR K s]:OkAc s.acc:=⟨h.acc⟩
theorem oO{a b:List Int}(h:WF (a++b)):WF a:=λn hn=>h n (List.mem_append_left _ hn)
theorem uE{a b:List Int}(h:WF (a++b)):WF b:=λn hn=>h n (List.mem_append_right _ hn)
theorem OkAc.vow{a:AccT}(h:OkAc a):WF a.vow.flat:=uE (oO (oO h.wf))
theorem OkAc.had{a:AccT}(h:OkAc a):WF a.had.flat:=uE (oO h.wf)
theorem OkAc.change{a:AccT}(h:OkAc a):WF a.change.flat:=uE h.wf
theorem OkAc.epoch{a:AccT}(h:OkAc a):WF [a.epoch]:=oO (oO (oO h.wf))
theorem OkAc.ask{a:AccT}(h:OkAc a){ep:Int}{b:BallotT}(hb:WF b.flat):OkAc (cd a ep b).1:=by
 unfold cd;split
 · exact h
 · exact⟨mU (mU (mU h.epoch hb) h.had) h.change⟩
theorem OkAc.put{a:AccT}(h:OkAc a){ep:Int}{b:BallotT}{c:ChangeT}(hb:WF b.flat)(hc:WF c.flat):OkAc (ib a ep b c).1:=by
 unfold ib;split
 · exact h
 · exact⟨mU (mU (mU h.epoch hb) hb) hc⟩
instance [h:OkR K s](n:Int):OkR K (dC s n):=⟨h.e,h.id,h.view,h.own,h.mir,h.book,h.last,h.acc,h.vote⟩
instance [h:OkR K s](v:VoteT)[hv:OkVt v]:OkR K (li s v):=⟨h.e,h.id,h.view,h.own,h.mir,h.book,h.last,h.acc,λ_ e=>bI e▸hv⟩
instance [h:OkR K s](a:AccT)[ha:OkAc a]:OkR K (uu s a):=⟨h.e,h.id,h.view,h.own,h.mir,h.book,h.last,ha.wf,h.vote⟩
instance {v:VoteT}[h:OkVt v]{m:MsgT}[hm:OkMg m](w:Int):OkVt (fi v w m.ballot m.had m.change).1:=by
 unfold fi;split
 · exact h
 · unfold w6
   split
   · exact⟨h.view,h.ballot,hm.change,hm.had⟩
   · exact⟨h.view,h.ballot,h.change,h.best⟩
instance {v:VoteT}[h:OkVt v](w:Int)(b:BallotT):OkVt (ia v w b).1:=by
 unfold ia;split
 · exact h
 · exact⟨h.view,h.ballot,h.change,h.best⟩
instance {m:MsgT}[hm:OkMg m][h:OkR K s](ep:Int):OkAc (cd s.acc ep m.ballot).1:=OkAc.ask ⟨h.acc⟩ hm.ballot
instance {m:MsgT}[hm:OkMg m][h:OkR K s](ep:Int):OkAc (ib s.acc ep m.ballot m.change).1:=OkAc.put ⟨h.acc⟩ hm.ballot hm.change
instance tookF_ok[h:OkR K s](f:Int)(m:MsgT):OkR K (km K f m s):=by
 unfold km;split
 · exact h
 · rename_i vt hv
   have:=h.vote vt hv;split<;>exact inferInstance
theorem s6[h:OkR K s]{f:MS δ→MS δ}(hf: ∀s:MS δ,OkR K s→OkR K (f s))(w:Int)(m:MsgT):OkR K (eA K f s w m):=by
 unfold eA
 repeat' split
 · exact inferInstance
 · exact h
 · exact h
 · exact hf _ inferInstance
instance [OkR K s](w:Int)(m:MsgT):OkR K (mV K s w m):=s6 (λ_ _=>inferInstance) w m
instance [h:OkR K s](w:Int)(m:MsgT):OkR K (jI K w m s):=by unfold jI;exact inferInstance
instance [h:OkR K s](w:Int)(m:MsgT)[OkMg m]:OkR K (mz K w m s):=by
 unfold mz
 repeat' split
 all_goals exact inferInstance
instance [OkR K s](w:Int)(m:MsgT)[OkMg m]:OkR K (nL K s w m):=s6 (λ_ _=>inferInstance) w m
instance OkMg.putM(ep:Int){vt:VoteT}[h:OkVt vt]:OkMg (iX ep vt.ballot vt.change):=⟨.zero, .zero,h.ballot,iA,h.change⟩
instance OkMg.askM(ep:Int){vt:VoteT}[h:OkVt vt]:OkMg (fM ep vt.ballot):=⟨.zero, .zero,h.ballot,iA,p8⟩
instance OkMg.takenM(ep:Int){m:MsgT}[h:OkMg m]:OkMg (jj ep m.ballot):=⟨.zero, .zero,h.ballot,iA,p8⟩
theorem OkMg.promM(ep:Int){m:MsgT}[h:OkMg m]{a:AccT}(ha:OkAc a):OkMg (kd ep m.ballot a.had a.change):=⟨.zero, .zero,h.ballot,ha.had,ha.change⟩
theorem vL[h:OkR K s]{f:MS δ→MsgT→MS δ}{m:MsgT}(hf: ∀s:MS δ,OkR K s→OkR K (f s m)):OkR K (gZ K f s m):=by
 unfold gZ;split
 · exact hf _ inferInstance
 · exact inferInstance
instance [h:OkR K s](vt:VoteT)[OkVt vt]:OkR K (iN K s vt):=vL λ_ _=>inferInstance
instance [h:OkR K s](f:Int)(m:MsgT)[OkMg m]:OkR K (oh K f m s):=by
 unfold oh;split
 · exact h
 · rename_i vt hv
   have:=h.vote vt hv;split<;>exact inferInstance
instance [OkR K s](w:Int)(m:MsgT)[OkMg m]:OkR K (mW K s w m):=s6 (λ_ _=>inferInstance) w m
theorem yD[h:OkR K s](w:Int)(m:MsgT)[OkMg m]{a:AccT}(ha:OkAc a):OkR K (jX K w m a s):=by
 have:=OkMg.promM m.epoch (m:=m) ha;unfold jX;exact inferInstance
instance [h:OkR K s](w:Int)(m:MsgT)[OkMg m]:OkR K (nd K w m s):=by
 unfold nd
 repeat' split
 · exact h
 · exact inferInstance
 · exact yD w m inferInstance
 · exact yD w m inferInstance
instance [OkR K s](w:Int)(m:MsgT)[OkMg m]:OkR K (nM K s w m):=s6 (λ_ _=>inferInstance) w m
instance [h:OkR K s](vt:VoteT)[OkVt vt]:OkR K (jJ K s vt):=vL λ_ _=>inferInstance
instance [h:OkR K s](vt:VoteT)[OkVt vt]:OkR K (lK K s vt):=by unfold lK;split<;>exact inferInstance
theorem EU{v:VoteT}{w:Int}{b had:BallotT}{c:ChangeT}(h:(fi v w b had c).2=true):(fi v w b had c).1.putting=true:=by
 unfold fi at h ⊢;split
 · rename_i q;rw[if_pos q]at h;cases h
 · rename_i q;rw[if_neg q]at h;exact h
theorem Jk(s:MS δ)[h:OkR K s]:WF (cZ s).flat:=KS (oq _) (by have:0≤s.id∧s.id<5:=of_decide_eq_true h.id;exact⟨by show _≤s.id;omega,by show s.id<_;omega⟩)
class OkCh(c:ChangeT):Prop where wf:WF c.flat
instance newVote_ok[h:OkR K s](c:ChangeT)[hc:OkCh c]:OkVt (jv s.view (cZ s) c):=⟨h.view,Jk s,hc.wf,iA⟩
instance {vt:VoteT}[h:OkVt vt]:OkCh vt.change:=⟨h.change⟩
instance [h:OkR K s](c:ChangeT)[OkCh c]:OkR K (m3 K s c):=by
 have:OkAc (cd s.acc s.view.epoch (cZ s)).1:=OkAc.ask ⟨h.acc⟩ (Jk s);unfold m3;exact inferInstance
instance [h:OkR K s](c:ChangeT)[OkCh c]:OkR K (bO K s c).1:=by
 unfold bO
 repeat' split
 all_goals exact inferInstance
theorem sM{c:ChangeT}(h:(bO K s c).2=0):(bO K s c).1.vote=some (jv s.view (cZ s) c):=by
 unfold bO at h ⊢
 by_cases h1:(cd s.acc s.view.epoch (cZ s)).2=false
 · rw[if_pos h1]at h;cases h
 by_cases h2:mC K s (gf s.view.epoch (cZ s))≠0
 · rw[if_neg h1,if_pos h2]at h;exact absurd h h2
 · rw[if_neg h1,if_neg h2];rfl
instance [h:OkR K s](op:Int)(c:ChangeT)[OkCh c]:OkR K (dv K s op c).1:=by
 unfold dv
 repeat' split
 all_goals exact inferInstance
instance [h:OkR K s](o:OpT):OkR K (ly K s o).1:=by
 unfold ly
 repeat' split
 all_goals exact inferInstance
instance [h:OkR K s](o:OpT)[OkCh o.change]:OkR K (bK K s o).1:=by unfold bK;split<;>exact inferInstance
instance [h:OkR K s]:OkR K (bP K s):=by unfold bP;exact inferInstance
instance [h:OkR K s]:OkR K (cb K s):=by unfold cb;exact inferInstance
instance [h:OkR K s]:OkR K (fB K s):=by unfold fB;exact inferInstance
instance [h:OkR K s]:OkR K (pT K s):=by
 unfold pT;split
 · exact h
 · rename_i vt hv
   have:=h.vote vt hv
   repeat' split
   all_goals exact inferInstance
instance [h:OkR K s]:OkR K (gU K s):=by unfold gU;exact inferInstance
instance [h:OkR K s](f:Int)(m:MsgT)[OkMg m]:OkR K (fO K s f m):=by
 unfold fO
 repeat' split
 all_goals exact inferInstance
theorem js(s:MS δ)(c:ChangeT):(bO K s c).1.replies=s.replies:=by
 unfold bO;split
 · rfl
 · split<;>rfl
theorem kf(s:MS δ)(x:RowT)(op:Int):(dH K s x op).1.replies=s.replies:=by unfold dH;split<;>rfl
end
end Api
end

section
namespace Leg
open Go Codec Api Go.Conc
section
variable {P:Program} {w0:World} {F:Hl} {n:Nat} {ops:Array Oper} {Q:QQ} {is:List Nat} {D:List Deferred} {L:List (Nat×Value)} {H:List HP} {i d:Nat} {o:Oper}
theorem TX.recv1{x:Operand}{t e:TypeId}{dir:ChanDir}{c cap s r:Nat}{z v:Value}{vs vs0:List Value}(k:Nat)(ho:ops[i]?=some o)(hw:Want n D ops o L)(hop:o.op= .recv t x false)(hd:o.dst=some d)(hn:Nat.blt d n=true)(ht:P.underlying t=some (.chan dir e))(hz:(P.info? e).map (·.zero)=some (some z))
 (hx:cS L x=some (.chan (some c))) (hk:Nat.blt k H.length=true) (hH:H.getD k (λ_=>True)=eD c cap vs0 s r) (he:vs0=v::vs)
 (h:TX P w0 F n ops Q is D ((d,v)::L) (H.set k (eD c cap vs s (r+1)))):TX P w0 F n ops Q (i::is) D L H:=λa w f sm m=>by
 subst he;have hc:=m.chan k hk hH
 have hr:(execOp a.eval o).run P w= .ok (.comm #[{chan:= .chan (some c),send:=none,zero:=z}] true (.recv false)) w:=by
  simp[execOp,hop,f.eval hx,Sem.run_bind,run_underlying ht,oV hz]
 refine On (v:=v) (w2:=w.setChan c cap vs.toArray false s (r+1) false) ho (hw a f) hr (λfr cs es hs=>?_) ?_
 · have:=step_lone_recv_buf false hs hc (by simp)
   rw[this];simp[got]
 · rw[hd]
   exact h _ _ (f.put (lb hn) _) (sm.setChan ..) (m.setChan k hk hH)
theorem TX.send1{x y:Operand}{c cap s r:Nat}{v:Value}{vs:List Value}(k:Nat)(ho:ops[i]?=some o)(hw:Want n D ops o L)(hop:o.op= .send x y)(hd:o.dst=none)
 (hx:cS L x=some (.chan (some c))) (hy:cS L y=some v) (hk:Nat.blt k H.length=true) (hH:H.getD k (λ_=>True)=eD c cap vs s r) (hroom:vs.length<cap)
 (h:TX P w0 F n ops Q is D L (H.set k (eD c cap (vs++[v]) (s+1) r))):TX P w0 F n ops Q (i::is) D L H:=λa w f sm m=>by
 have hc:=m.chan k hk hH
 have hr:(execOp a.eval o).run P w= .ok (.comm #[{chan:= .chan (some c),send:=some v,zero:= .tuple #[]}] true .send) w:=by
  simp[execOp,hop,f.eval hx,f.eval hy,Sem.run]
 refine On (v:=undef) (w2:=w.setChan c cap (vs++[v]).toArray false (s+1) r false) ho (hw a f) hr (λfr cs es hs=>?_) ?_
 · have:=step_lone_send_room hs hc (by simpa using hroom)
   rw[this];simp
 · rw[hd]
   exact h _ _ f (sm.setChan ..) (m.setChan k hk hH)
end
def D5(k:Nat)(u:Value):Value:=if k=0 then .slice none 0 0 else u
theorem JF{α:Type}{l:List α}{k:Nat}(h:k<l.length):l.drop k++l.take k=l[k]::(l.drop (k+1)++l.take k):=by rw[dP h];rfl
theorem Dm{α:Type}{l:List α}{k:Nat}(h:k<l.length):(l.drop (k+1)++l.take k)++[l[k]]=l.drop (k+1)++l.take (k+1):=by rw[aG,ca h]
end Leg
namespace Leg
open Go
theorem Kx{us:List Value}{k:Nat}(h:k=0)(hk:k<us.length):us[k]=D5 (k+1) (us.getD 0 undef):=by
 subst h;unfold D5;rw[if_neg (by omega)];simp[List.getD_eq_getElem?_getD,hk]
theorem Kv{u:Value}{k:Nat}(h: ¬k=0):D5 k u=D5 (k+1) u:=by unfold D5;rw[if_neg h,if_neg (by omega)]
theorem Kw{u:Value}{k:Nat}(h: ¬k=0):D5 k u=u:=if_neg h
end Leg
namespace Leg
open Go
def ti{α:Type}:List α→List α
 | []=>[]
 |a::l=>l++[a]
def I4{α:Type}(l:List α):Bool:=decide (l.length≠0∧l.length≠8)
def EL{α:Type}[Inhabited α](l:List α):List α:=if l.length≠0∧l.length≠8 then l++[l.getD 0 default]else l
end Leg
namespace Leg
open Go
def jF{α:Type}:Nat→List α→List α
 |0,l=>l
 |n+1,l=>ti (jF n l)
theorem Hp{α:Type}(l:List α):(ti l).length=l.length:=by cases l<;>simp[ti]
theorem kX{α:Type}: ∀(n:Nat) (l:List α),(jF n l).length=l.length
 |0,_=>rfl
 |n+1,l=>by rw[jF,Hp,kX n l]
theorem Ho{α:Type}{l:List α}{x:α}:x∈ti l↔x∈l:=by
 cases l with
 |nil=>rfl
 |cons a l=>simp[ti,or_comm]
theorem po{α:Type}{x:α}: ∀(n:Nat) (l:List α),x∈jF n l↔x∈l
 |0,_=>Iff.rfl
 |n+1,l=>by rw[jF,Ho,po n l]
theorem zF{α β:Type}(f:α→β)(l:List α):ti (l.map f)=(ti l).map f:=by cases l<;>simp[ti]
theorem Lu{α β:Type}[Inhabited α][Inhabited β](f:α→β)(l:List α):EL (l.map f)=(EL l).map f:=by
 unfold EL;rw[cn];split
 · rename_i h
   cases l with
   |nil=>exact absurd rfl h.1
   |cons a l=>simp
 · rfl
theorem Lv{α β:Type}(f:α→β)(l:List α):I4 (l.map f)=I4 l:=by unfold I4;rw[cn]
end Leg
end

section
namespace Api
open Go Leg Codec Dsk Wal
instance :Inhabited MsgT:=⟨.zero⟩
structure LD where
 cnt:Nat
 used:Int
 D:DS
structure DkOk(D:DS):Prop where
 ok:D.Ok
 inn:Wal.DS.In D
 ws:D.ws.length≤2048
 up:D.dn=false→D.ws=[]
def Wrote(D:DS)(n:Nat)(r:Int×DS):Prop:=r.2.Ok∧Wal.DS.In r.2∧((D.dn=true∧r.2=D)∨(D.dn=false∧r.2.ws.length≤D.ws.length+n∧(r.1=0→r.2.dn=false)∧(r.1≠0→r.2.dn=true)))
theorem Wrote.none{D:DS}(h:D.Ok)(hi:Wal.DS.In D):Wrote D 0 (0,D):=⟨h,hi,by
 cases hd:D.dn
 · exact .inr ⟨rfl,aK _,λ_=>by first|exact hd|rfl,λq=>absurd rfl q⟩
 · exact .inl ⟨rfl,rfl⟩⟩
theorem Wrote.more{D:DS}{n m:Nat}{r:Int×DS}(h:Wrote D n r)(hm:n≤m):Wrote D m r:=⟨h.1,h.2.1,h.2.2.imp id λ⟨a,b,c⟩=>⟨a,by omega,c⟩⟩
theorem Wrote.one{D:DS}(h:D.Ok)(hi:Wal.DS.In D){at':Int}{bs:List UInt8}(h1:0≤at'∧at'<2048)(h2:bs.length≤64):Wrote D 1 (D.write at' bs):=by
 cases hd:D.dn
 · by_cases hc:D.ar=true∧D.lf=0
   · rw[wV h1 h2 hc]
     exact⟨⟨h.s,h.ws,h.lf⟩,hi, .inr ⟨hd,Nat.le_succ _,(λq=>absurd q (by show ¬(4:Int)=0;decide)),λ_=>rfl⟩⟩
   · have h4:D.ar=false∨0<D.lf:=by
      have:=h.lf;cases q:D.ar
      · exact .inl rfl
      · right
        have:D.lf≠0:=λe=>hc ⟨q,e⟩
        omega
     rw[r9 h1 h2 hd h4];exact⟨Bo h h2 h4,Bp hi h1, .inr ⟨hd,by simp[Bq],λ_=>rfl,λq=>absurd rfl q⟩⟩
 · have e:D.write at' bs=(4,D):=by
    rw[DS.write,if_neg (by omega),if_pos (.inl hd)];cases D;simp only at hd;rw[hd]
   rw[e];exact⟨h,hi, .inl ⟨hd,rfl⟩⟩
theorem Wrote.then{D:DS}{n m:Nat}{r q:Int×DS}(h:Wrote D n r)(h0:r.1=0)(g:Wrote r.2 m q):Wrote D (n+m) q:=by
 obtain⟨_,_,h⟩:=h;refine⟨g.1,g.2.1,?_⟩;rcases h with⟨hd,e⟩| ⟨hd,hl,hz,_⟩
 · rw[e]at g
   rcases g.2.2 with⟨_,e2⟩| ⟨hd2,_⟩
   · exact .inl ⟨hd,e2⟩
   · rw[hd]at hd2;cases hd2
 · rcases g.2.2 with⟨hd2,_⟩| ⟨_,hl2,h3⟩
   · rw[hz h0]at hd2;cases hd2
   · exact .inr ⟨hd,by omega,h3⟩
theorem Wrote.writes: ∀(ss:List jB) (at':Int) (D:DS),D.Ok→Wal.DS.In D→0≤at'→at'+ss.length≤2048→(∀s∈ss,s.length=64)→Wrote D ss.length (gS ss at' D)
 | [],_,D,h,hi,_,_,_=>Wrote.none h hi
 |s::ss,at',D,h,hi,h0,h1,hs=>by
  simp only[av]at h1;have h2:=hs s (by simp);have o:=Wrote.one h hi (at':=at') (bs:=s) (by omega) (by omega);rw[gS];split
  · rename_i hz
    have:=o.then hz (Wrote.writes ss (at'+1) _ o.1 o.2.1 (by omega) (by omega) λx hx=>hs x (by simp[hx]))
    rwa [m7]at this
  · exact o.more (by simp)
theorem Wrote.wipes: ∀(n:Nat) (at':Int) (D:DS),D.Ok→Wal.DS.In D→0≤at'→at'+n≤2048→Wrote D n (kl n at' D)
 |0,_,D,h,hi,_,_=>Wrote.none h hi
 |n+1,at',D,h,hi,h0,h1=>by
  rw[kl];split
  · exact(Wrote.wipes n (at'+1) D h hi (by omega) (by omega)).more (by omega)
  · have o:=Wrote.one h hi (at':=at') (bs:=[]) (by omega) (by simp)
    split
    · rename_i hz
      have:=o.then hz (Wrote.wipes n (at'+1) _ o.1 o.2.1 (by omega) (by omega))
      rwa [m7]at this
    · exact o.more (by omega)
theorem DkOk.wrote{D:DS}(h:DkOk D){n:Nat}{r:Int×DS}(g:Wrote D n r)(hn:n≤2048):(r.1≠0→DkOk r.2)∧DkOk r.2.sync.2:=by
 obtain⟨ho,hi,hr⟩:=g;rcases hr with⟨hd,e⟩| ⟨hd,hl,h0,h1⟩
 · rw[e]
   refine⟨λ_=>h,?_⟩;rw[DS.sync,if_pos hd];exact h
 · rw[h.up hd]at hl
   simp only[az,bn]at hl;refine⟨λq=>⟨ho,hi,by omega,λz=>by rw[h1 q]at z;cases z⟩,?_⟩
   by_cases q:r.1=0
   · obtain⟨_,s2,_⟩:=rm (h0 q)
     exact⟨DS.sync_ok ho,A5 hi,by rw[s2];exact aO _,λ_=>s2⟩
   · rw[DS.sync,if_pos (h1 q)]
     exact⟨ho,hi,by show r.2.ws.length≤2048;omega,λz=>by rw[show r.2.dn=true from h1 q]at z;cases z⟩
theorem xB{D:DS}(hI:Wal.DS.In D)(hD:D.Ok): ∀(f:Nat) (cnt used:Int),0≤used→used≤2048→0≤(gK D.read f cnt used).2∧(gK D.read f cnt used).2≤2048∧(gK D.read f cnt used).1.length≤f
 |0,_,_,h0,h1=>⟨h0,h1,aK _⟩
 |f+1,cnt,used,h0,h1=>by
  rw[gK];split
  · exact⟨h0,h1,aO _⟩
  · rename_i b all h
    have h2:=pu hI hD h0 h;have h3:=(ml (mT hD _) h).1;obtain⟨a,b',c⟩:=xB hI hD f (cnt+1) (used+all) (by omega) h2;exact⟨a,b',by simp only[av];omega⟩
theorem DkOk.open{D:DS}(h:DkOk D):DkOk (bZ D).D∧0≤(bZ D).used∧(bZ D).used≤2048∧(bZ D).recs.length≤2049:=by
 obtain⟨a,b,c⟩:=xB h.inn h.ok jR 0 0 (by omega) (by omega);rw[tZ]at c;have w:=h.wrote (Wrote.wipes (2048- (gK D.read jR 0 0).2).toNat _ D h.ok h.inn a (by omega)) (by omega);unfold bZ;simp only;split
 · rename_i q;exact⟨w.1 q,by show(0:Int)≤0;omega,by show(0:Int)≤2048;omega,aO _⟩
 · split
   · exact⟨w.2,by show(0:Int)≤0;omega,by show(0:Int)≤2048;omega,aO _⟩
   · exact⟨w.2,a,b,by rw[←tZ]at c;exact c⟩
theorem DkOk.arm{D:DS}(h:DkOk D)(n:Int)(hn:n≤9223372036854775807):DkOk (D.arm n):=⟨⟨h.ok.s,h.ok.ws,by show 0≤max n 0∧max n 0≤9223372036854775807;omega⟩,h.inn,h.ws,h.up⟩
theorem DkOk.crash{D:DS}(h:DkOk D)(mask torn cut:Int):DkOk (D.crash mask torn cut):=by
 have c:=Calm.crash h.ok h.inn mask torn cut;exact⟨c.ok,c.inn,aO _,λ_=>rfl⟩
theorem DkOk.new:DkOk .new:=⟨⟨nA,nA,by simp[DS.new],by simp[DS.new]⟩,⟨RR,RR⟩,aO _,λ_=>rfl⟩
structure LD.Ok(e:LD):Prop where
 dk:DkOk e.D
 used:0≤e.used∧e.used≤2048
 cnt:(e.cnt:Int)≤4100+e.used
def LD.put(e:LD)(bs:List UInt8):LD×Int:=(⟨(mB e.D e.cnt e.used bs).cnt,(mB e.D e.cnt e.used bs).used,(mB e.D e.cnt e.used bs).D⟩,(mB e.D e.cnt e.used bs).err)
theorem LD.put_ok(e:LD)(bs:List UInt8)(h:e.Ok)(hb:bs.length≤3000):(e.put bs).1.Ok:=by
 obtain⟨⟨ho,hi,hw,hu⟩,h1,h2⟩:=h;unfold LD.put mB;rw[if_neg (by omega)]
 by_cases hf:(br bs.length:Int)>2048-e.used
 · rw[if_pos hf];exact⟨⟨ho,hi,hw,hu⟩,h1,h2⟩
 rw[if_neg hf];have hp:0<br bs.length:=qH _;have hl:(cq ((e.cnt+1:Nat):Int) bs).length=br bs.length:=dY _ _;have w:=DkOk.wrote ⟨ho,hi,hw,hu⟩ (Wrote.writes (cq ((e.cnt+1:Nat):Int) bs) e.used e.D ho hi h1.1 (by omega) (tE _ _)) (by omega);simp only;split
 · rename_i q;exact⟨w.1 q,h1,h2⟩
 · split
   · exact⟨w.2,h1,h2⟩
   · exact⟨w.2,(by show 0≤e.used+(br bs.length:Int)∧e.used+(br bs.length:Int)≤2048;omega),by show((e.cnt+1:Nat):Int)≤4100+(e.used+br bs.length);omega⟩
def KD:Dk LD:=⟨LD.put,λe=>e.D.dn,LD.Ok,LD.put_ok⟩
structure Slot where
 run:Option (MS LD)
 D:DS
 past:List ReplyT
structure CL where
 ms:List Slot
 W:List (List MsgT)
def Slot.nil:Slot:=⟨none, .new,[]⟩
def CL.at'(a:CL)(i:Nat):Slot:=a.ms.getD i .nil
def Slot.dk(x:Slot):DS:=match x.run with
 |some s=>s.e.D
 |none=>x.D
def Slot.reps(x:Slot):List ReplyT:=x.past++(match x.run with
 |some s=>s.replies
 |none=>[])
def Slot.up(x:Slot):Bool:=match x.run with
 |some s=> !s.e.D.dn
 |none=>false
def CL.set(a:CL)(i:Nat)(x:Slot):CL:= {a with ms:=a.ms.set i x}
def qE(W:List (List MsgT))(f:Nat)(s:SaidT):List (List MsgT):=if dA ((f:Nat):Int) s.to' then W.set (bF ((f:Nat):Int) s.to') (if(W.getD (bF ((f:Nat):Int) s.to') []).length<8 then W.getD (bF ((f:Nat):Int) s.to') []++[s.msg]else W.getD (bF ((f:Nat):Int) s.to') [])else W
def gV(W:List (List MsgT))(f:Nat)(l:List SaidT):List (List MsgT):=l.foldl (λW s=>qE W f s) W
def MS.hush{δ:Type}(s:MS δ):MS δ:= {s with o:=[]}
def CL.did(a:CL)(i:Nat)(s:MS LD):CL:=⟨a.ms.set i {a.at' i with run:=some s.hush},gV a.W i s.o⟩
def MS.dsk(s:MS LD)(D:DS):MS LD:= {s with e:= {s.e with D:=D}}
def zh(x:Slot)(n:Int):Slot:=match x.run with
 |some s=> {x with run:=some (s.dsk (s.e.D.arm n))}
 |none=> {x with D:=x.D.arm n}
def oK(x:Slot)(mask torn cut:Int):Slot:=⟨none,x.dk.crash mask torn cut,x.reps⟩
def eg(i:Nat)(D:DS):Option (MS LD)×Int:=
 if(bZ D).err≠0 then(none,(bZ D).err)
 else match my (bZ D).recs (ww ((i:Nat):Int) (⟨(bZ D).recs.length,(bZ D).used,(bZ D).D⟩:LD))with
  |none=>(none,1)
  |some s=>(some s,0)
def jG(i:Nat)(x:Slot):Slot×Int:=match x.run with
 |some _=>(x,5)
 |none=>({x with run:=(eg i x.D).1,D:=(bZ x.D).D},(eg i x.D).2)
def o9(a:CL)(f t:Nat)(m:MsgT):CL×Int:=match(a.at' t).run with
 |none=>(a,0)
 |some s=>if s.e.D.dn then(a,0)else if(jy (cY m)).2=0 then(a.did t (fO KD s ((f:Nat):Int) (jy (cY m)).1),0)else(a,(jy (cY m)).2)
def CL.way(a:CL)(k:Nat)(l:List MsgT):CL:= {a with W:=a.W.set k l}
def og(a:CL)(o:OpT):CL×Int:=
 if dA o.at' o.to'=false then(a,5)
 else match a.W.getD (bF o.at' o.to') []with
  | []=>(a,10)
  |m::l=>
   if o.kind=7 then(if I4 (m::l)then(a.way (bF o.at' o.to') (EL (m::l)),0)else(a,3))
   else match jF (max o.n 0% ((m::l).length:Int)).toNat (m::l)with
    | []=>(a,0)
    |m::l=>if o.kind=6 then(a.way (bF o.at' o.to') l,0)else o9 (a.way (bF o.at' o.to') l) o.at'.toNat o.to'.toNat m
def yt(a:CL)(i:Nat)(o:OpT):CL×Int:=match(a.at' i).run with
 |none=>(a,4)
 |some s=>if s.e.D.dn then(a,4)else(a.did i (bK KD s o).1,(bK KD s o).2)
def Cr(a:CL)(i:Nat):CL×Int:=match(a.at' i).run with
 |none=>(a,4)
 |some s=>if s.e.D.dn then(a,4)else(a.did i (gU KD s),0)
def o7(a:CL)(o:OpT):CL×Int:=
 if hZ o.at'=false then(a,5)
 else if 0≤o.kind∧o.kind≤4 then yt a o.at'.toNat o
 else if o.kind=5∨o.kind=6∨o.kind=7 then og a o
 else if o.kind=8 then Cr a o.at'.toNat
 else if o.kind=9 then(a.set o.at'.toNat (zh (a.at' o.at'.toNat) o.n),0)
 else if o.kind=10 then(a.set o.at'.toNat (oK (a.at' o.at'.toNat) o.mask o.torn o.cut),0)
 else if o.kind=11 then(a.set o.at'.toNat (jG o.at'.toNat (a.at' o.at'.toNat)).1,(jG o.at'.toNat (a.at' o.at'.toNat)).2)
 else(a,5)
def pD(i:Nat):Slot:=(jG i .nil).1
def CL.new:CL:=⟨(List.range 5).map pD,List.replicate 25 []⟩
structure Fresh{δ:Type}(i:Int)(e:δ)(s:MS δ):Prop where
 id:s.id=i
 vote:s.vote=none
 replies:s.replies=[]
 e:s.e=e
 o:s.o=[]
 waits:s.waits=0
 ops:s.ops=0
theorem Fresh.rest{δ:Type}{i:Int}{e:δ}{s:MS δ}(h:Fresh i e s)(m:RecT):Fresh i e (ko s m):=by
 obtain⟨h1,h2,h3,h4,h5,h6,h7⟩:=h;unfold ko
 repeat' split
 all_goals exact⟨h1,by first|exact h2|rfl,h3,h4,h5,h6,h7⟩
theorem Fresh.new{δ:Type}(i:Int)(e:δ):Fresh i e (ww i e):=⟨rfl,rfl,rfl,rfl,rfl,rfl,rfl⟩
theorem Fresh.read{δ:Type}{i:Int}{e:δ}: ∀(l:List (List UInt8)) {s s':MS δ},Fresh i e s→my l s=some s'→Fresh i e s'
 | [],s,s',h,q=>by
  obtain rfl:=bI q;exact h
 |b::l,s,s',h,q=>by
  rw[my]at q;split at q
  · cases q
  · exact Fresh.read l (h.rest _) q
theorem vE{i:Nat}{D:DS}{s:MS LD}(h:(eg i D).1=some s):(bZ D).err=0∧my (bZ D).recs (ww ((i:Nat):Int) (⟨(bZ D).recs.length,(bZ D).used,(bZ D).D⟩:LD))=some s:=by
 unfold eg at h;split at h
 · cases h
 · rename_i h0
   refine⟨Decidable.not_not.1 h0,?_⟩;split at h
   · cases h
   · rename_i h2;rw[h2];exact h
theorem AZ{v:ViewT}{bs r:List UInt8}(h:lY bs=some (v,r)):OkVw v:=by
 obtain⟨⟨h1,h2,_⟩,_⟩:=oR h;have hr:=tc h;exact⟨hr,EW ⟨by omega,by omega⟩ ⟨by omega,by omega⟩ hr⟩
theorem rB{b:BallotT}{bs r:List UInt8}(h:jx bs=some (b,r)):WF b.flat:=by
 obtain⟨⟨h1,h2⟩,_⟩:=jW h;exact OkB.wf ⟨h1,h2⟩
theorem Gb{c:ChangeT}{bs r:List UInt8}(h:kV bs=some (c,r)):WF c.flat:=by
 obtain⟨⟨h1,h2,h3⟩,_⟩:=oz h;exact OkC.wf ⟨h1,h2,h3⟩
theorem Fj{x:RowT}{bs r:List UInt8}(h:tK bs=some (x,r)):OkRow x:=OkRow.of (Bh h)
theorem NV{m:MsgT}{g:Bool}{bs r:List UInt8}(h:cM bs=some ((m,g),r)):OkMg m:=by
 obtain⟨k,r1,_,h⟩:=bq h
 have fin: ∀{m':MsgT} {g':Bool} {b r:List UInt8},pr (m',g') b=some ((m,g),r)→OkMg m'→OkMg m:=λh q=>by
  obtain⟨e,_⟩:=gz h;injection e with e1 e2
  exact e1▸q
 split at h
 · obtain⟨_,_,_,h⟩:=bq h;obtain⟨x,_,hx,h⟩:=bq h;exact fin h ⟨Fj hx, .zero,iA,iA,p8⟩
 split at h
 · obtain⟨_,_,_,h⟩:=bq h;exact fin h ⟨.zero, .zero,iA,iA,p8⟩
 split at h
 · obtain⟨_,_,_,h⟩:=bq h;obtain⟨b,_,hb,h⟩:=bq h;exact fin h ⟨.zero, .zero,rB hb,iA,p8⟩
 split at h
 · obtain⟨_,_,_,h⟩:=bq h;obtain⟨b,_,hb,h⟩:=bq h;obtain⟨d,_,hd,h⟩:=bq h;obtain⟨c,_,hc,h⟩:=bq h;exact fin h ⟨.zero, .zero,rB hb,rB hd,Gb hc⟩
 split at h
 · obtain⟨_,_,_,h⟩:=bq h;obtain⟨b,_,hb,h⟩:=bq h;obtain⟨c,_,hc,h⟩:=bq h;exact fin h ⟨.zero, .zero,rB hb,iA,Gb hc⟩
 split at h
 · obtain⟨v,_,hv,h⟩:=bq h;exact fin h ⟨.zero,AZ hv,iA,iA,p8⟩
 split at h
 · obtain⟨_,_,_,h⟩:=bq h;obtain⟨v,_,hv,h⟩:=bq h;exact fin h ⟨.zero,AZ hv,iA,iA,p8⟩
 · exact fin h ⟨.zero, .zero,iA,iA,p8⟩
class OkRd(m:RecT):Prop where
 row:OkRow m.row
 view:OkVw m.view
 ballot:WF m.ballot.flat
 change:WF m.change.flat
theorem Nw{m:RecT}{g:Bool}{bs r:List UInt8}(h:dK bs=some ((m,g),r)):OkRd m:=by
 obtain⟨k,r1,_,h⟩:=bq h
 have fin: ∀{m':RecT} {g':Bool} {b r:List UInt8},pr (m',g') b=some ((m,g),r)→OkRd m'→OkRd m:=λh q=>by
  obtain⟨e,_⟩:=gz h;injection e with e1 e2
  exact e1▸q
 split at h
 · obtain⟨x,_,hx,h⟩:=bq h;exact fin h ⟨Fj hx, .zero,iA,p8⟩
 split at h
 · obtain⟨_,_,_,h⟩:=bq h;obtain⟨x,_,hx,h⟩:=bq h;exact fin h ⟨Fj hx, .zero,iA,p8⟩
 split at h
 · obtain⟨_,_,_,h⟩:=bq h;exact fin h ⟨.zero, .zero,iA,p8⟩
 split at h
 · obtain⟨_,_,_,h⟩:=bq h;obtain⟨b,_,hb,h⟩:=bq h;exact fin h ⟨.zero, .zero,rB hb,p8⟩
 split at h
 · obtain⟨_,_,_,h⟩:=bq h;obtain⟨b,_,hb,h⟩:=bq h;obtain⟨c,_,hc,h⟩:=bq h;exact fin h ⟨.zero, .zero,rB hb,Gb hc⟩
 split at h
 · obtain⟨v,_,hv,h⟩:=bq h;exact fin h ⟨.zero,AZ hv,iA,p8⟩
 · exact fin h ⟨.zero, .zero,iA,p8⟩
theorem G1(bs:List UInt8):OkMg (jy bs).1:=by
 unfold jy;split
 · rename_i m h;exact NV h
 · exact⟨.zero, .zero,iA,iA,p8⟩
theorem Mt(bs:List UInt8):OkRd (o8 bs).1:=by
 unfold o8;split
 · rename_i m h;exact Nw h
 · exact⟨.zero, .zero,iA,p8⟩
section
variable {δ:Type} {K:Dk δ} {s:MS δ}
theorem L0(h:OkR K s)(m:RecT)(hm:OkRd m):OkR K (ko s m):=by
 have ha:OkAc s.acc:=⟨h.acc⟩;unfold ko;split
 · exact⟨h.e,h.id,h.view,hm.row,h.mir,h.book,h.last,h.acc,h.vote⟩
 split
 · have:=hm.row;exact inferInstance
 split
 · exact inferInstance
 split
 · exact⟨h.e,h.id,h.view,h.own,h.mir,h.book,h.last,mU (mU (mU ha.epoch hm.ballot) ha.had) ha.change,h.vote⟩
 split
 · exact⟨h.e,h.id,h.view,h.own,h.mir,h.book,h.last,mU (mU (mU ha.epoch hm.ballot) hm.ballot) hm.change,h.vote⟩
 split
 · have:=hm.view;exact inferInstance
 · exact h
theorem A0{v:Vector RowT 5}(h:v= #v[.zero, .zero, .zero, .zero, .zero])(i:Nat)(hi:i<5):OkRow v[i]:=by
 subst h
 match i,hi with
 |0,_|1,_|2,_|3,_|4,_=>exact OkRow.zero
theorem Mi{i:Int}{e:δ}(he:K.ok e)(hi:cJ i=true):OkR K (ww i e):=
 ⟨he,hi, .first, .zero,A0 rfl,A0 rfl,A0 rfl,PX _ (by decide),λ_ q=>nomatch q⟩
theorem Dp: ∀(l:List (List UInt8)) {s s':MS δ},OkR K s→my l s=some s'→OkR K s'
 | [],s,s',h,q=>by
  obtain rfl:=bI q;exact h
 |b::l,s,s',h,q=>by
  rw[my]at q;split at q
  · cases q
  · exact Dp l (L0 h _ (Mt b)) q
theorem zJ{i:Nat}(hi:i<5){D:DS}(hD:DkOk D){s:MS LD}(h:(eg i D).1=some s):OkR KD s∧Fresh ((i:Nat):Int) (⟨(bZ D).recs.length,(bZ D).used,(bZ D).D⟩:LD) s:=by
 obtain⟨_,h2⟩:=vE h;obtain⟨o1,o2,o3,o4⟩:=hD.open;exact⟨Dp _ (Mi (K:=KD) ⟨o1,⟨o2,o3⟩,by show(((bZ D).recs.length:Nat):Int)≤4100+(bZ D).used;omega⟩ (decide_eq_true ⟨by omega,by omega⟩)) h2,Fresh.read _ (Fresh.new _ _) h2⟩
end
end Api
end

section
namespace Go.Proofs.YtkhjnolhhidecaaGreatDoor
open Go Leg Codec Api Dsk Wal
theorem B2(b c s r:Nat)(us:List Value)(x:Value)(bs:List UInt8)(hb:bs.length≤1000000)(hroom:us.length<8):
 DT 99 #[(.pointer (some ⟨b,0,none⟩)),x] (IsW x bs) [aj b [(.chan (some c))] 169,eD c 8 (us) (s) (r)] (dF (λv H=>v= .bool true∧∃u,H=[aj b [(.chan (some c))] 169,eD c 8 (us++[u]) (s+1) r,cI u bs 5])):=by
 refine Leg.Does.body (vs:=[(.pointer (some ⟨b,0,none⟩)),x]) (n:=15) Tryz.func99 rfl rfl rfl (λw0 F hF=>?_);refine sr λ_ J1=>?_
 refine qg ?_;refine nx J1 ?_;refine aa λ_ J2=>?_
 refine sr λ_ J3=>?_
 refine mv ?_;refine tp (gW rfl rfl) ?_;refine tp (bc (r:=0) rfl Ez rfl vB rfl rfl) ?_;refine tp (fN (v:=(.chan (some c))) rfl wD rfl rfl (fE 0 rfl rfl) rfl) ?_;refine nx J3 ?_;refine ac ?_;refine EE (ab rfl) rfl rfl rfl fQ ky (λv9=>?_);change TL _ _ _ _ _ _ _ _ _ [cI v9 ([]) 5,aj b [(.chan (some c))] 169,eD c 8 (us) (s) (r)];refine mv ?_;refine bY (k:=0) (news:=dX (bs)) (nn':=(bs:List UInt8).length) (xs':=dX (bs)) (ab rfl) rfl rfl rfl fQ uB rfl rfl rfl rfl rfl rfl (λ_ _=>hF.src (λ_ h=>fF h)) (fe _) (by simp only[maxLen,az];omega) (by simp only[az];omega) (by simp) (ba _) (λv11 ov11=>?_);change TL _ _ _ _ _ _ _ _ _ [cI v11 (bs) 5,aj b [(.chan (some c))] 169,eD c 8 (us) (s) (r)];refine nx J2 ?_;refine aa λ_ J4=>?_
 refine zk ?_;change TX _ _ _ _ _ _ [0,1,2] _ _ _;refine TX.sendRoom 2 rfl (ab rfl) rfl rfl rfl Ol rfl rfl rfl rfl hroom ?_;change TX _ _ _ _ _ _ _ _ _ [cI v11 (bs) 5,aj b [(.chan (some c))] 169,eD c 8 (us++[v11]) (s+1) (r)];refine uy rfl (ab rfl) rfl rfl (mP (vs:=[(.int .i64 0),(.bool false)]) rfl rfl rfl) ?_;refine uy rfl (ab rfl) rfl rfl (P6 rfl rfl rfl) ?_;refine MJ ?_;refine ad J4 ?_;refine am ?_;refine oi rfl ?_;refine sr λ_ J5=>?_
 refine qg ?_;refine nx J5 ?_;refine ah ?_;refine aI ?_;refine aE (dN _) (λ_ s=>ak [1,1,0] rfl s) ?_;refine aw rfl rfl ?_;exact⟨rfl,_,rfl⟩
theorem yA(b c s r:Nat)(us:List Value)(ls:List (List UInt8))(h8:ls.length≤8)(hb: ∀x∈ls,x.length≤1000000):
    DT 56 #[(.pointer (some ⟨b,0,none⟩))] T0 [aj b [(.chan (some c))] 169,eD c 8 (us) (s) (r),eU (us) (ls) 5] (dF (λv H=>((ls.length=0∨ls.length=8)∧v= .bool false∧H=[aj b [(.chan (some c))] 169,eD c 8 us s r,eU us ls 5])∨(ls.length≠0∧ls.length≠8∧v= .bool true∧∃un,H=[aj b [(.chan (some c))] 169,eD c 8 (us++[un]) (s+us.length+1) (r+us.length),eU us ls 5,cI un (ls.getD 0 []) 5]))):=by
 refine BD 41 Tryz.func56 rfl rfl rfl λw0 F hF=>sr λ_ J1=>PS ?_
 refine nx J1 (sr λ_ J2=>PS ?_);refine CE DG (uq b c s r us ls) ID ?_;change TL _ _ _ _ _ _ _ _ _ [aj b [(.chan (some c))] 169,eD c 8 (us) (s) (r),eU (us) (ls) 5];refine zj (p:=us.length=ls.length) (λw m=>(rz 2 rfl rfl m).1) (λhul=>PS ?_);refine nx J2 (aa λ_ J3=>sr λ_ J4=>P2 ?_);refine ap ?_ ?_<;>intro h10;refine PS ?_
 iterate 7 refine UT ?_
 refine PS ?_;refine nx J4 (CY (sr λ_ J5=>PS ?_));refine nx J5 (ah (ae (WK [0,0,0] (aw rfl rfl ?_))));exact .inl ⟨by omega,rfl,rfl⟩;refine P4 ?_;refine FA 0 Ez vB ?_;refine LA 0 wD ?_;refine tq (PV.capChan 1 rfl wD rfl rfl rfl) ?_;refine PS ?_;refine ap ?_ ?_<;>intro h18;refine PS ?_;refine nx J4 (CY (sr λ_ J6=>PS ?_));refine nx J6 (ah (ae (WK [0,0,0] (aw rfl rfl ?_))));exact .inl ⟨by omega,rfl,rfl⟩;refine PS ?_;refine nx J4 (CN (qx J3 (sr λ_ J7=>PS ?_)));refine nx J7 (aa λ_ J8=>sr λ_ J9=>P2 ?_);refine nx J9 (am ?_)
 refine bH (α:=(Nat)) (λk=>k≤us.length) (λk=>[(0,(.pointer (some ⟨b,0,none⟩))),(2,(.bool false)),(4,(D5 k (us.getD 0 undef))),(20,(.int .i64 (((ls.length:Nat):Int)))),(21,(.int .i64 (((k:Nat):Int))))]) (λk=>[aj b [(.chan (some c))] 169,eD c 8 (us.drop k++us.take k) (s+k) (r+k),eU (us) (ls) 5]) (λk=>us.length-k) 0
     (aO _) SB
     (λ_ q=>by simpa using q) (λk hinv=>?_)
 obtain hk:=hinv;refine sr λ_ J10=>PS ?_
 refine ap ?_ ?_<;>intro h22;have hku:k<us.length:=by omega
 refine nx J10 (aa λ_ J11=>CY (qx J11 (aa λ_ J12=>am (sr λ_ J13=>P2 ?_))));refine nx J13 (aa λ_ J14=>zk (uy rfl (ab rfl) rfl rfl (kA rfl rfl) (uy rfl (ab rfl) rfl rfl (gW rfl rfl) (uy rfl (ab rfl) rfl rfl (bc (r:=0) rfl Ez rfl vB rfl rfl) (uy rfl (ab rfl) rfl rfl (fN (v:=(.chan (some c))) rfl wD rfl rfl (RO 0) rfl) (TX.recv1 1 rfl (ab rfl) rfl rfl rfl wD Ol rfl rfl rfl (JF hku) (uy rfl (ab rfl) rfl rfl (RE rfl rfl) (MJ (ad J14 (aa λ_ J15=>?_))))))))));refine sr λ_ J16=>P2 ?_
 refine ap ?_ ?_<;>intro h30;refine nx J16 (CY (ac (P2 ?_)));refine nx J15 (zk (uy rfl (ab rfl) rfl rfl (kA rfl rfl) (uy rfl (ab rfl) rfl rfl (gW rfl rfl) (uy rfl (ab rfl) rfl rfl (bc (r:=0) rfl Ez rfl vB rfl rfl) (uy rfl (ab rfl) rfl rfl (fN (v:=(.chan (some c))) rfl wD rfl rfl (RO 0) rfl) (uy rfl (ab rfl) rfl rfl (kA rfl rfl) (TX.send1 1 rfl (ab rfl) rfl rfl rfl rfl rfl rfl (by simp only[ag,bW,bB];omega) (MJ (af (ad J12 (ac ?_)))))))))));refine AD ?_;refine PS ?_;refine au ?_
 exact aL ((k+1):(Nat)) (by omega) (by show us.length- (k+1)<us.length-k;omega)
   (aX (aX (bN rfl (by first|exact Kx (by omega) hku|exact Kv (by omega)) SB)))
   (λ_ q=>by
      rw[Dm hku]at q
      exact q)
 refine nx J16 (CN (qx J15 (zk (uy rfl (ab rfl) rfl rfl (kA rfl rfl) (uy rfl (ab rfl) rfl rfl (gW rfl rfl) (uy rfl (ab rfl) rfl rfl (bc (r:=0) rfl Ez rfl vB rfl rfl) (uy rfl (ab rfl) rfl rfl (fN (v:=(.chan (some c))) rfl wD rfl rfl (RO 0) rfl) (uy rfl (ab rfl) rfl rfl (kA rfl rfl) (TX.send1 1 rfl (ab rfl) rfl rfl rfl rfl rfl rfl (by simp only[ag,bW,bB];omega) (MJ (af ?_)))))))))));refine ad J12 (ac (AD ?_));refine PS ?_;refine au ?_
 exact aL ((k+1):(Nat)) (by omega) (by show us.length- (k+1)<us.length-k;omega)
   (aX (aX (bN rfl (by first|exact Kx (by omega) hku|exact Kv (by omega)) SB)))
   (λ_ q=>by
      rw[Dm hku]at q
      exact q)
 obtain rfl:k=us.length:=by omega
 have hpos:0<ls.length:=by omega
 have hg:ls.getD 0 []=ls[0]:=by simp[List.getD_eq_getElem?_getD,hpos]
 refine ct (H':=[aj b [(.chan (some c))] 169,eD c 8 us (s+us.length) (r+us.length),eU us ls 5]) (λ_ q=>by simpa using q) (nx J10 (aa λ_ J17=>CN (aW (aA (aA (bu (ad J8 (sr λ_ J18=>P2 ?_))))))))
 refine lU (ab rfl) rfl rfl rfl NC rfl (B2 b c (s+us.length) (r+us.length) us (D5 us.length (us.getD 0 undef)) (ls.getD 0 []) (hb _ (hg▸ey hpos)) (by omega)) (λ_ s=>s) (λg d s=>by
          rw[Kw (by omega),hg]
          exact Lc (vf 0 hpos rfl rfl g d s)) (λvR HR hR=>?_)
 obtain⟨rfl,un,rfl⟩:=hR;refine PS ?_;refine nx J18 (ah (WK [0,0,1,0] (aw rfl rfl ?_)));exact .inr ⟨by omega,by omega,rfl,un,rfl⟩
theorem zf(b:Nat)(ls:List (List UInt8))(h8:ls.length≤8)(hb: ∀x∈ls,x.length≤1000000):DT 56 #[.pointer (some ⟨b,0,none⟩)] T0 [iv 169 5 b ls] (RI (.bool (I4 ls)) [iv 169 5 b (EL ls)]):=
 Leg.Does.pack (B:=[]) λq=>Leg.Does.fold (yA b q.1 q.2.2.1 q.2.2.2 q.2.1 ls h8 hb) λe H hp=>by
  cases e with
  |returned v=>
   unfold I4 EL;rcases hp with⟨h,rfl,rfl⟩| ⟨h1,h2,rfl,un,rfl⟩
   · exact⟨[iv 169 5 b ls],λ_ s=>bz (p:=λq:Nat×List Value×Nat×Nat=>[aj b [.chan (some q.1)] 169,eD q.1 8 q.2.1 q.2.2.1 q.2.2.2,eU q.2.1 ls 5]) (H:=[]) q s,by rw[decide_eq_false (by omega)],by rw[if_neg (by omega)]⟩
   · refine⟨[iv 169 5 b (ls++[ls.getD 0 []])],λ_ s=>?_,by rw[decide_eq_true (by omega)],by rw[if_pos (by omega)];rfl⟩
     have s1:=Bc 3 rfl rfl s;have s2:=aD [2,2] rfl s1;have s3:=vn s2;exact bz (p:=λq:Nat×List Value×Nat×Nat=>[aj b [.chan (some q.1)] 169,eD q.1 8 q.2.1 q.2.2.1 q.2.2.2,eU q.2.1 (ls++[ls.getD 0 []]) 5]) (H:=[]) (q.1,q.2.1++[un],q.2.2.1+q.2.1.length+1,q.2.2.2+q.2.1.length) (aD [1,1,0] rfl s3)
  |panicked c=>exact hp.elim
  |outgrown=>exact hp.elim
theorem um(b:Nat)(ls:List (List UInt8))(h8:ls.length≤8)(hb: ∀x∈ls,x.length≤1000000):
 DT 57 #[(.pointer (some ⟨b,0,none⟩))] T0 [iv 169 5 b (ls)] (dF (λv H=>H=[iv 169 5 b (ti ls)])):=by
 refine BD 16 Tryz.func57 rfl rfl rfl λw0 F hF=>sr λ_ J1=>PS ?_
 refine nx J1 (sr λ_ J2=>PS ?_);refine CR M8 (uo b ls) ID λvR HR hR=>?_
 rcases hR with⟨rfl,rfl,rfl⟩| ⟨u,f,lt,rfl,rfl,rfl⟩
 refine P4 ?_;refine PS ?_;refine nx J2 (sr λ_ J3=>P2 ?_)
 iterate 3 refine UF ?_
 refine P2 ?_;exact nx J3 (ah (WK [0] (aw rfl rfl rfl)));refine P4 ?_;refine PS ?_;refine nx J2 (sr λ_ J4=>P4 ?_);refine CF NC (wk b lt u f (hb f (ol ..))) ID (λg d s=>Lc (BG 0 rfl rfl g d s)) ?_;refine P2 ?_;refine nx J4 (ah (WK [0] (aw rfl rfl ?_)));exact congrArg (λq=>[iv 169 5 b q]) (if_pos (show lt.length<8 by have:=h8;rw[av]at this;omega))
end Go.Proofs.YtkhjnolhhidecaaGreatDoor
end

section
namespace Leg
open Go
def RdG(S:World→Prop)(b:Nat){α:Type}(c:α→List Value)(T:TypeId):Prop:=∀w,S w→∃a,w.heap[b]?=some (.cells (c a).toArray T (0,0))
abbrev hid{α:Type}(b:Nat)(c:α→List Value)(T:TypeId)(R:α→List HP):HP:=pack (λa=>aj b (c a) T::R a)
section
variable {P:Program} {w0:World} {F:Hl} {n:Nat} {ops:Array Oper} {Q:QQ} {D:List Deferred} {L:List (Nat×Value)} {H:List HP} {o:Oper} {l:List Oper} {d:Nat} {S:World→Prop} {α:Type} {b j:Nat} {c c':α→List Value} {T:TypeId} {R R':α→List HP}
theorem Sat.packOpen{p:α→List HP}{w:World}(i:Nat)(s:Sat H F w)(hi:i<H.length)(hH:H.getD i (λ_=>True)=pack p): ∃a,Sat (p a++H.eraseIdx i) F w:=by
 obtain⟨h,d,e,x⟩:=s;have y:=eI i hi x;rw[hH]at y;obtain⟨a,z⟩:=fJ (p:=p) (H:=H.eraseIdx i) (h:=h) y;exact⟨a,h,d,e,z⟩
theorem Sat.packShut{p:α→List HP}{w:World}(i:Nat)(hi:i<H.length)(a:α)(s:Sat (p a++H.eraseIdx i) F w):Sat (H.set i (pack p)) F w:=by
 obtain⟨h,d,e,x⟩:=s;exact⟨h,d,e,kT i hi (bz a x)⟩
theorem RdG.own(i:Nat)(hi:Nat.blt i H.length=true)(hH:H.getD i (λ_=>True)=hid b c T R):RdG (Sat H F) b c T:=λw s=>by
 obtain⟨a,t⟩:=s.packOpen i (lb hi) hH;exact⟨a,t.block 0 (by simp) rfl⟩
abbrev dp:= @RdG.own
theorem PV.load1G{t:TypeId}{x:Operand}{dt:TypeDesc}{v:Value}(ho:o.op= .load t x)(ht:P.underlying t=some dt)(hp:eO dt=true)(hx:cS L x=some (.pointer (some ⟨b,j,none⟩)))(hR:RdG S b c T)(hc: ∀a,(c a)[j]?=some v):PV P n D L S o v:=
 λa w f m=>by
  obtain⟨y,hy⟩:=hR w m;exact fN (S:=λw'=>w'=w) ho ht hp hx (λ_ e=>e▸hy) (hc y) a w f rfl
abbrev dD:= @PV.load1G
theorem PV.loadNG{t:TypeId}{x:Operand}{dt:TypeDesc}{m:Nat}{vs:List Value}(ho:o.op= .load t x)(ht:P.underlying t=some dt)(hp:eO dt=false)(hm:(P.info? t).map (·.size)=some m)(hx:cS L x=some (.pointer (some ⟨b,j,none⟩)))(hR:RdG S b c T)(hl:vs.length=m)(hc: ∀a,((c a).drop j).take m=vs):PV P n D L S o (.agg vs.toArray):=
 λa w f s=>by
  obtain⟨y,hy⟩:=hR w s;exact aN (S:=λw'=>w'=w) ho ht hp hm hx (λ_ e=>e▸hy) hl (hc y) a w f rfl
abbrev gQ:= @PV.loadNG
theorem TL.storeG{i:Nat}{t:TypeId}{x y:Operand}{v:Value}{vs:List Value}(hw:Want n D ops o L)(ho:o.op= .store t x y)(hd:o.dst=none)
 (hx:cS L x=some (.pointer (some ⟨b,j,none⟩))) (hy:cS L y=some v) (hv:v.cells=vs.toArray) (hs:(P.info? t).map (·.size)=some vs.length) (h1: ∀u∈vs,u.oneCell'=true)
 (hi:Nat.blt i H.length=true) (hH:H.getD i (λ_=>True)=hid b c T R) (hl: ∀a,j+vs.length≤(c a).length) (hcs: ∀a,wr (c a) j vs=c' a)
 (h:TL P w0 F n ops Q l D L (H.set i (hid b c' T R))):TL P w0 F n ops Q (o::l) D L H:=
 TL.eff hw hd (λa w f _ m=>by
  obtain⟨q,m1⟩:=m.packOpen i (lb hi) hH;have hb:=m1.block 0 (by simp) rfl;refine⟨w.setRow b (wr (c q) j vs).toArray,by simp[execOp,ho,f.eval hx,f.eval hy,xC hv hs h1 hb (hl q)],⟨rfl,rfl,rfl,by simp⟩,?_⟩;rw[hcs q]
  exact Sat.packShut (p:=λa=>aj b (c' a) T::R a) i (lb hi) q (m1.write 0 (by simp) rfl (setRow_heap w b (c q).toArray _ T _ hb) (λk hk=>setRow_other w b k _ hk))) h
abbrev iB:= @TL.storeG
theorem TL.store1G{i:Nat}{t:TypeId}{x y:Operand}{v:Value}(hw:Want n D ops o L)(ho:o.op= .store t x y)(hd:o.dst=none)
 (hx:cS L x=some (.pointer (some ⟨b,j,none⟩))) (hy:cS L y=some v) (h1:v.oneCell'=true) (hs:(P.info? t).map (·.size)=some 1)
 (hi:Nat.blt i H.length=true) (hH:H.getD i (λ_=>True)=hid b c T R) (hl: ∀a,j< (c a).length) (hcs: ∀a,(c a).set j v=c' a)
 (h:TL P w0 F n ops Q l D L (H.set i (hid b c' T R))):TL P w0 F n ops Q (o::l) D L H:=
 iB (vs:=[v]) hw ho hd hx hy (by cases v<;>simp[Value.cells,Value.oneCell']at h1 ⊢) hs (by simpa using h1) hi hH (λa=>by have:=hl a;simp;omega)
  (λa=>by rw[←hcs a,wr,oN,if_pos (hl a)];simp) h
theorem HA{p p' a b c d:HP}{h:Hl}(e: ∀h,p h→p' h)(s:bS (a::b::c::d::p::H) h):bS (a::b::c::d::p'::H) h:=
 cR s (λ_ x=>x) λ_ s=>cR s (λ_ x=>x) λ_ s=>cR s (λ_ x=>x) λ_ s=>cR s (λ_ x=>x) λ_ s=>cR s e λ_ x=>x
theorem Does.hid{f:FuncId}{args:Array Value}{A:List HP}{q:Value→Prop}(h: ∀a,Does P f args (λ_=>True) (aj b (c a) T::A) (dF λv H=>q v∧H=aj b (c' a) T::A)):Does P f args (λ_=>True) (Leg.hid b c T R::A) (dF λv H=>q v∧H=Leg.hid b c' T R::A):=
 Does.pack λa=>Does.withinR (B:=R a) (h a) (λ_ _ _ _=>trivial) (λ_ s=>eM (List.Perm.cons (aj b (c a) T) (List.perm_append_comm (l₁:=R a) (l₂:=A))) s) λv H hp=>by
  obtain⟨h1,rfl⟩:=hp;exact⟨_,λ_ s=>bz (p:=λa=>aj b (c' a) T::R a) a (eM (List.Perm.cons (aj b (c' a) T) (List.perm_append_comm (l₁:=A) (l₂:=R a))) s),h1,rfl⟩
end
open Api
variable {P:Program} {w0:World} {F:Hl} {n:Nat} {ops:Array Oper} {Q:QQ} {D:List Deferred} {L:List (Nat×Value)} {H:List HP} {d:Nat} {o:Oper} {l:List Oper}
section
variable {A:Type} {b:Nat} {c:A→List Value} {T:TypeId} {R:A→List HP}
theorem LG{t:TypeId}{x:Operand}{dt:TypeDesc}{j:Nat}(k:Nat)(ht:P.underlying t=some dt)(v:Value)(h:TL P w0 F n ops Q l D ((d,v)::L) H)(hw:Want n D ops o L:=by first|exact ab rfl|exact cy rfl rfl rfl)(hd:o.dst=some d:=by exact rfl)(hn:Nat.blt d n=true:=by exact rfl)(ho:o.op= .load t x:=by exact rfl)(hp:eO dt=true:=by exact rfl)(hx:cS L x=some (.pointer (some ⟨b,j,none⟩)):=by exact rfl)(hk:Nat.blt k H.length=true:=by exact rfl)(hH:H.getD k (λ_=>True)=hid b c T R:=by exact rfl)(hc: ∀a,(c a)[j]?=some v):TL P w0 F n ops Q (o::l) D L H:=mM hw hd hn (dD ho ht hp hx (dp k hk hH) hc) h
theorem LZ{α:Type}{f:α→List Int}{t:TypeId}{x:Operand}{dt:TypeDesc}{j m:Nat}(k:Nat)(ht:P.underlying t=some dt)(hs:(P.info? t).map (·.size)=some m)(hf: ∀x,(ints (f x)).length=m)(y:α)(h:TL P w0 F n ops Q l D ((d, .agg (ints (f y)).toArray)::L) H)(hw:Want n D ops o L:=by first|exact ab rfl|exact cy rfl rfl rfl)(hd:o.dst=some d:=by exact rfl)(hn:Nat.blt d n=true:=by exact rfl)(ho:o.op= .load t x:=by exact rfl)(hp:eO dt=false:=by exact rfl)(hx:cS L x=some (.pointer (some ⟨b,j,none⟩)):=by exact rfl)(hk:Nat.blt k H.length=true:=by exact rfl)(hH:H.getD k (λ_=>True)=hid b c T R:=by exact rfl)(hc: ∀a,((c a).drop j).take m=ints (f y)):TL P w0 F n ops Q (o::l) D L H:=mM hw hd hn (gQ ho ht hp hs hx (dp k hk hH) (hf y) hc) h
theorem SK{o:Oper}{l:List Oper}{t:TypeId}{x y:Operand}{j m:Nat}{v:Value}{c':A→List Value}(k:Nat)(hs:(P.info? t).map (·.size)=some 1)(hl: ∀a,(c a).length=m)(h:TL P w0 F n ops Q l D L (H.set k (hid b c' T R)))(hw:Want n D ops o L:=by first|exact ab rfl|exact cy rfl rfl rfl)(hd:o.dst=none:=by exact rfl)(ho:o.op= .store t x y:=by exact rfl)(hx:cS L x=some (.pointer (some ⟨b,j,none⟩)):=by exact rfl)(hy:cS L y=some v:=by exact rfl)(h1:v.oneCell'=true:=by exact rfl)(hk:Nat.blt k H.length=true:=by exact rfl)(hH:H.getD k (λ_=>True)=hid b c T R:=by exact rfl)(hj:Nat.blt j m=true:=by first|exact rfl|exact Nat.ble_eq_true_of_le (by omega))(hc: ∀a,(c a).set j v=c' a):TL P w0 F n ops Q (o::l) D L H:=TL.store1G hw ho hd hx hy h1 hs hk hH (λa=>(hl a)▸lb hj) hc h
end
end Leg
end

section
namespace Go.Proofs.YtkhjnolhhidecaaGreatDoor
open Go Leg Codec Api Dsk Wal
structure Env(δ:Type) extends Dk δ where
 T:Nat
 ov:Value
 sf:Nat
 E:δ→List SaidT→HP
 lg:Nat→δ→HP
 me : yJ Tryz.prog T ov "Send" sf
 nm:Named Tryz.prog sf
 say: ∀(e:δ) (l:List SaidT) (to':Int) (m:MsgT),ok e→Leg.Does Tryz.prog sf #[ov, .int .i64 to', .agg (ints m.flat).toArray] (λ_=>True) [E e l] (dF (λ_ H=>H=[E e (if dn e then l else l++[SaidT.mk to' m])]))
 put: ∀(g:Nat) (x:Value) (bs:List UInt8) (e:δ) (l:List SaidT),ok e→bs.length≤3000→Leg.Does Tryz.prog 146 #[.pointer (some ⟨g,0,none⟩),x] (IsW x bs) [lg g e,E e l] (dF (λv H=>v= .int .i64 (pt e bs).2∧H=[lg g (pt e bs).1,E (pt e bs).1 l]))
def Gm(vo:Value):Option VoteT→HP
 |none=>λ_=>vo= .pointer none
 |some vt=>λh=>∃b,vo= .pointer (some ⟨b,0,none⟩)∧aj b (VoteT.cells vt) 196 h
abbrev cV{δ:Type}(V:Env δ)(r:Nat)(s:MS δ):HP:=hid r (λa:Adr=>RepT.cells (s.rep a)) 95 (λa=>[V.lg a.lg s.e,own a.rs s.replies.length (ints (s.replies.flatMap ReplyT.flat)) 45 3,Gm a.vo s.vote,V.E s.e s.o])
abbrev wS{δ:Type}(V:Env δ)(r:Nat)(s:MS δ)(vo:Value):HP:=hid r (λa:Nat×Value=>RepT.cells (s.rep ⟨a.1,vo,a.2⟩)) 95 (λa=>[V.lg a.1 s.e,own a.2 s.replies.length (ints (s.replies.flatMap ReplyT.flat)) 45 3,V.E s.e s.o])
theorem kp{δ:Type}{V:Env δ}{r:Nat}{f:MS δ×Int}{X:MS δ}{y:Int}(e:f=(X,y)):Value.int .i64 y= .int .i64 f.2∧[cV V r X]=[cV V r f.1]:=by
 subst e;exact⟨rfl,rfl⟩
theorem HI{δ:Type}(V:Env δ)(r:Nat)(s:MS δ)(to':Int)(m:MsgT)[hs:OkR V.toDk s]:DT V.sf #[V.ov, .int .i64 to', .agg (ints m.flat).toArray] T0 [cV V r s] (dF (λ_ H=>H=[cV V r (yU V.toDk s to' m)])):=
 Leg.Does.pack λa=>Leg.Does.withinR (V.say s.e s.o to' m hs.e) (λ_ _ _ _=>trivial) (λ_ q=>aD [4] rfl q) λv H hp=>by
  subst hp;refine⟨_,λ_ q=>?_,rfl⟩;have q2:=aD [1,1,1,1,0] rfl q;exact bz (p:=λa:Adr=>[aj r (RepT.cells (s.rep a)) 95,V.lg a.lg s.e,own a.rs s.replies.length (ints (s.replies.flatMap ReplyT.flat)) 45 3,Gm a.vo s.vote,V.E s.e (if V.dn s.e then s.o else s.o++[SaidT.mk to' m])]) a q2
theorem gX{δ:Type}(V:Env δ)(r:Nat)(s:MS δ)(to':Int)(m:MsgT)(f:MS δ→MS δ)(hT:to'=s.id→DT 60 #[.pointer (some ⟨r,0,none⟩), .iface V.T V.ov, .int .i64 s.id, .agg (ints m.flat).toArray] T0 [cV V r s] (dF (λ_ H=>H=[cV V r (f s)])))[OkR V.toDk s]:
 DT 111 #[(.pointer (some ⟨r,0,none⟩)),(.iface V.T V.ov),(.int .i64 (to')),(.agg (ints m.flat).toArray)] T0 [cV V r s] (dF (λ_ H=>H=[cV V r (kC V.toDk f s to' m)])):=by
 refine Leg.Does.body (vs:=[(.pointer (some ⟨r,0,none⟩)),(.iface V.T V.ov),(.int .i64 (to')),(.agg (ints m.flat).toArray)]) (n:=28) Tryz.func111 rfl rfl rfl (λw0 F hF=>?_);refine sr λ_ J1=>?_
 refine TL.box (ab rfl) rfl rfl rfl rfl (λb7=>?_);change TL _ _ _ _ _ _ _ _ _ [aj b7 (ints m.flat) 134,cV V r s];refine nx J1 ?_;refine aa λ_ J2=>?_
 refine sr λ_ J3=>?_
 refine mv ?_;refine mv ?_;refine tp (gW rfl rfl) ?_;refine tp (bc (r:=0) rfl dx rfl aP rfl rfl) ?_;refine tp (dD (v:=(.int .i64 (s.id))) rfl Y3 rfl rfl (dp 1 rfl rfl) (λa_=>(cU (s.rep a_) rfl))) ?_;refine tp (P6 rfl rfl rfl) ?_;refine ap (λh13=>?_) (λh13=>?_);refine nx J3 ?_;refine oi rfl ?_;refine aa λ_ J4=>?_
 refine sQ (λw=>Frm F w∧w.heap[b7]?=some (.cells (ints m.flat).toArray 134 (0,0))∧True) bm rfl (λ_ s=>⟨fF s,s.block 0 (lb rfl) rfl,trivial⟩) ?_;refine ta 0 rfl (kA rfl rfl) ?_;refine ta 1 rfl (kA rfl rfl) ?_;refine ta 2 rfl (kA rfl rfl) ?_;refine ta 3 rfl (gW rfl rfl) ?_;refine ta 4 rfl (bc (r:=0) rfl dx rfl aP rfl rfl) ?_;refine ta 6 rfl (aN (vs:=ints m.flat) rfl bj rfl cx rfl (λ_ h=>h.2.1) (aH m) (whole (aH m))) ?_;refine dd [5] (by kernel_rfl) rfl ?_;refine aF rfl ?_ ?_;refine tp (dD (v:=(.int .i64 (s.id))) rfl Y3 rfl rfl (dp 1 rfl rfl) (λa_=>(cU (s.rep a_) rfl))) ?_;refine au ?_;refine wn (λ_ s=>⟨fF s,s.block 0 (lb rfl) rfl,trivial⟩) ?_;refine dd [7] (by kernel_rfl) rfl ?_;refine aF rfl ?_ ?_;refine lU (ab rfl) rfl rfl rfl OX rfl ((by have h:=hT h13;exact h)) (λ_ s=>aD [1] rfl s) (λ_ _ _=>trivial) (λvR HR hR=>?_);obtain rfl:=hR;refine au ?_;refine wn (λ_ s=>⟨fF s,s.block 1 (lb rfl) rfl,trivial⟩) ?_;refine TD.done (by kernel_rfl) ?_;refine ad J4 ?_;refine ah ?_;refine ae ?_;refine aE (dN _) (λ_ s=>ak [0] rfl s) ?_;refine dZ rfl ?_;exact(congrArg (λq=>[cV V r q]) (if_pos h13)).symm;exact bQ;exact bQ;refine nx J3 ?_;refine G8 rfl ?_;refine aR ?_;refine ad J2 ?_;refine sr λ_ J5=>?_
 refine mv ?_;refine tp (PV.ifaceNotNil rfl Tryz.underlying123 rfl) ?_;refine nx J5 ?_;refine oi rfl ?_;refine ac ?_;refine mv ?_;refine mv ?_;refine tp (aN (vs:=ints m.flat) rfl bj rfl cx rfl (fE 0 rfl rfl) (aH m) (whole (aH m))) ?_;refine TL.callI (ab rfl) rfl rfl rfl rfl V.me V.nm rfl (HI V r s to' m) (λ_ s=>aD [1] rfl s) (λ_ _ _=>trivial) (λvR HR hR=>?_);obtain rfl:=hR;refine au ?_;refine aE (dN _) (λ_ s=>ak [0] rfl s) ?_;refine bC rfl ?_;exact(congrArg (λq=>[cV V r q]) (if_neg h13)).symm
theorem kb{δ:Type}(V:Env δ)(r:Nat)(s:MS δ)(to':Int)(m:MsgT)(hto:to'≠s.id)[OkR V.toDk s]:DT 111 #[.pointer (some ⟨r,0,none⟩), .iface V.T V.ov, .int .i64 to', .agg (ints m.flat).toArray] T0 [cV V r s] (dF (λ_ H=>H=[cV V r (iM V.toDk s [⟨to',m⟩])])):=by
 have h:=gX V r s to' m id (λe=>absurd e hto)
 rwa [show kC V.toDk id s to' m=iM V.toDk s [⟨to',m⟩]from if_neg hto]at h
theorem oU{δ:Type}(V:Env δ)(r:Nat)(s:MS δ)(l:List SaidT)(to':Int)(m:MsgT)(hto:to'≠s.id)[OkR V.toDk s]:DT 111 #[.pointer (some ⟨r,0,none⟩), .iface V.T V.ov, .int .i64 to', .agg (ints m.flat).toArray] T0 [cV V r (iM V.toDk s l)] (dF (λ_ H=>H=[cV V r (iM V.toDk s (l++[⟨to',m⟩]))])):=by
 have h:=kb V r (iM V.toDk s l) to' m hto
 rwa [Jx]at h
theorem MQ{δ:Type}{V:Env δ}{r:Nat}{a b:MS δ}(h:a=b):[cV V r a]=[cV V r b]:=by rw[h]
theorem oG{δ:Type}(V:Env δ)(r:Nat)(s:MS δ)[OkR V.toDk s]:
 DT 61 #[(.pointer (some ⟨r,0,none⟩)),(.iface V.T V.ov)] T0 [cV V r s] (dF (λ_ H=>H=[cV V r (eW V.toDk s)])):=by
 refine BD 40 Tryz.func61 rfl rfl rfl λw0 F hF=>?_
 have hid:cJ s.id=true:=OkR.id;have hid2:0≤s.id∧s.id<5:=of_decide_eq_true hid;refine aa λ_ J1=>DB bm (dp 0 rfl rfl) ?_
 refine PD 0 ?_;refine PD 1 ?_;refine FD 2 0 dx aP ?_;refine ta 3 rfl (dD (v:=(.int .i64 (s.id))) rfl Y3 rfl rfl (λ_ h=>h.2.1) (λa_=>(cU _ rfl))) ?_;refine PD 4 ?_;refine PD 5 ?_;refine FD 6 9 dx bg ?_;refine ta 7 rfl (gQ (vs:=ints s.own.flat) rfl ek rfl bg rfl (λ_ h=>h.2.1) (ai s.own) (λa_=>(zl (s.rep a_) 0 rfl (by decide) (whole (ai ((s.rep a_).own)))))) ?_;refine ta 8 rfl (kR MsgT.zero (MsgT.mk 0 s.id s.own 0 0 BallotT.zero BallotT.zero ChangeT.zero ViewT.zero) [(0,[Value.int .i64 0]),(1,[Value.int .i64 s.id]),(2,ints s.own.flat)] bj bE (g:=MsgT.sg)) ?_;refine AL 9 ?_;refine XZ nf (ints MsgT.zero.flat) λb4=>?_
 refine EN (AL 10 ?_);refine SW 0 cx aH ?_;refine EN (DN (ad J1 (sr λ_ J2=>P2 ?_)));refine FA 0 dx aP ?_;refine LG 1 Y3 (.int .i64 (s.id)) ?_ (hc:=by exact λa_=>(cU _ rfl));refine CR DJ (ri s.id hid) ID λvR HR hR=>?_
 obtain⟨_,rfl,rfl⟩:=hR;revert vR;intro uw;refine jf 0 rfl rfl (λhluw _=>jY 0 rfl rfl (by omega) (λgw capw hvw hcapw=>tp (dO rfl eh rfl hluw) ?_));refine PS ?_;refine nx J2 (am (iD 2 (sr λ_ J3=>PS ?_)));refine nx J3 (aa λ_ J4=>CY (qx J4 (aa λ_ J5=>am (sr λ_ J6=>tp (bo (r:=0) hvw rfl eh aP rfl rfl (by omega) (by omega) rfl) ?_))));refine tp (cm (v:=(.int .i64 (((s.id+1)%5)))) rfl Y3 rfl rfl (gN 0 rfl hvw rfl) rfl) ?_;refine PS ?_;refine nx J6 (sr λ_ J7=>P2 ?_);refine FA 1939 dx aP ?_;refine LG 2 Y3 (.int .i64 (s.kept)) ?_ (hc:=by exact λa_=>(sS _ rfl));refine PS ?_;refine tp (iF (r:=(s.kept.fdiv (2^min (((s.id+1)%5)).toNat IntKind.i64.bits))) rfl rfl rfl (by omega) rfl) ?_;refine tp (jA (r:=((s.kept.fdiv (2^min (((s.id+1)%5)).toNat IntKind.i64.bits))%2)) rfl rfl rfl (mask (k:=1) (by decide) _)) ?_;refine PS ?_;refine ap ?_ ?_<;>intro h33;refine nx J7 (CY (ac (P3 ?_)));refine LW 1 bj cx aH ?_;refine CZ jN (kb V r s ((s.id+1)%5) (MsgT.mk 0 s.id s.own 0 0 BallotT.zero BallotT.zero ChangeT.zero ViewT.zero) (by omega)) (SM [2]) λvR=>?_
 refine au (af (ad J5 (ac (tp (bD (r:=1) rfl rfl rfl (by decide)) ?_))));refine PS ?_;refine au (bM (sr λ_ J8=>PS ?_));refine nx J8 (aa λ_ J9=>CY (qx J9 (aa λ_ J10=>am (sr λ_ J11=>tp (bo (r:=1) hvw rfl eh aP rfl rfl (by omega) (by omega) rfl) ?_))));refine tp (cm (v:=(.int .i64 (((s.id+2)%5)))) rfl Y3 rfl rfl (gN 1 rfl hvw rfl) rfl) ?_;refine PS ?_;refine nx J11 (sr λ_ J12=>P2 ?_);refine FA 1939 dx aP ?_;refine LG 0 Y3 (.int .i64 (s.kept)) ?_ (hc:=by exact λa_=>(sS _ rfl));refine PS ?_;refine tp (iF (r:=(s.kept.fdiv (2^min (((s.id+2)%5)).toNat IntKind.i64.bits))) rfl rfl rfl (by omega) rfl) ?_;refine tp (jA (r:=((s.kept.fdiv (2^min (((s.id+2)%5)).toNat IntKind.i64.bits))%2)) rfl rfl rfl (mask (k:=1) (by decide) _)) ?_;refine PS ?_;refine ap ?_ ?_<;>intro h33;refine nx J12 (CY (ac (P3 ?_)));refine LW 2 bj cx aH ?_;refine CZ jN (oU V r s ([SaidT.mk ((s.id+1)%5) (MsgT.mk 0 s.id s.own 0 0 BallotT.zero BallotT.zero ChangeT.zero ViewT.zero)]) ((s.id+2)%5) (MsgT.mk 0 s.id s.own 0 0 BallotT.zero BallotT.zero ChangeT.zero ViewT.zero) (by omega)) ID λvR=>?_
 refine au (af (ad J10 (ac (tp (bD (r:=2) rfl rfl rfl (by decide)) ?_))));refine PS ?_;refine au (bM (sr λ_ J13=>PS ?_));refine nx J13 (aa λ_ J14=>CN (aW (aA (aA (bu (WK [0] (bC rfl ?_)))))));exact MQ (by rw[eW,show ox (s.rep .nil)=[SaidT.mk ((s.id+1)%5) (MsgT.mk 0 s.id s.own 0 0 BallotT.zero BallotT.zero ChangeT.zero ViewT.zero)]++[SaidT.mk ((s.id+2)%5) (MsgT.mk 0 s.id s.own 0 0 BallotT.zero BallotT.zero ChangeT.zero ViewT.zero)]by rw[ox,iE,if_pos hid];simp[vp,xE,MsgT.zero,Adr.nil, *]]);refine nx J12 (CN (aR (af (ad J10 (ac (tp (bD (r:=2) rfl rfl rfl (by decide)) ?_))))));refine PS ?_;refine au (bM (sr λ_ J15=>PS ?_));refine nx J15 (aa λ_ J16=>CN (aW (aA (aA (bu (WK [0] (bC rfl ?_)))))));exact MQ (by rw[eW,show ox (s.rep .nil)=[SaidT.mk ((s.id+1)%5) (MsgT.mk 0 s.id s.own 0 0 BallotT.zero BallotT.zero ChangeT.zero ViewT.zero)]by rw[ox,iE,if_pos hid];simp[vp,xE,MsgT.zero,Adr.nil, *]]);refine nx J7 (CN (aR (af (ad J5 (ac (tp (bD (r:=1) rfl rfl rfl (by decide)) ?_))))));refine PS ?_;refine au (bM (sr λ_ J17=>PS ?_));refine nx J17 (aa λ_ J18=>CY (qx J18 (aa λ_ J19=>am (sr λ_ J20=>tp (bo (r:=1) hvw rfl eh aP rfl rfl (by omega) (by omega) rfl) ?_))));refine tp (cm (v:=(.int .i64 (((s.id+2)%5)))) rfl Y3 rfl rfl (gN 0 rfl hvw rfl) rfl) ?_;refine PS ?_;refine nx J20 (sr λ_ J21=>P2 ?_);refine FA 1939 dx aP ?_;refine LG 2 Y3 (.int .i64 (s.kept)) ?_ (hc:=by exact λa_=>(sS _ rfl))
 refine PS ?_;refine tp (iF (r:=(s.kept.fdiv (2^min (((s.id+2)%5)).toNat IntKind.i64.bits))) rfl rfl rfl (by omega) rfl) ?_;refine tp (jA (r:=((s.kept.fdiv (2^min (((s.id+2)%5)).toNat IntKind.i64.bits))%2)) rfl rfl rfl (mask (k:=1) (by decide) _)) ?_;refine PS ?_;refine ap ?_ ?_<;>intro h33;refine nx J21 (CY (ac (P3 ?_)));refine LW 1 bj cx aH ?_;refine CZ jN (kb V r s ((s.id+2)%5) (MsgT.mk 0 s.id s.own 0 0 BallotT.zero BallotT.zero ChangeT.zero ViewT.zero) (by omega)) (SM [2]) λvR=>?_
 refine au (af (ad J19 (ac (tp (bD (r:=2) rfl rfl rfl (by decide)) ?_))));refine PS ?_;refine au (bM (sr λ_ J22=>PS ?_));refine nx J22 (aa λ_ J23=>CN (aW (aA (aA (bu (WK [0] (bC rfl ?_)))))));exact MQ (by rw[eW,show ox (s.rep .nil)=[SaidT.mk ((s.id+2)%5) (MsgT.mk 0 s.id s.own 0 0 BallotT.zero BallotT.zero ChangeT.zero ViewT.zero)]by rw[ox,iE,if_pos hid];simp[vp,xE,MsgT.zero,Adr.nil, *]]);refine nx J21 (CN (aR (af (ad J19 (ac (tp (bD (r:=2) rfl rfl rfl (by decide)) ?_))))));refine PS ?_;refine au (bM (sr λ_ J24=>PS ?_));refine nx J24 (aa λ_ J25=>CN (aW (aA (aA (bu (WK [2] (bC rfl ?_)))))));exact MQ (by rw[eW,show ox (s.rep .nil)=[]by rw[ox,iE,if_pos hid];simp[vp,xE,MsgT.zero,Adr.nil, *]];exact(qC _ _).symm)
theorem nJ{δ:Type}(V:Env δ)(r:Nat)(s:MS δ)(y:RowT)[OkR V.toDk s]:
 DT 66 #[(.pointer (some ⟨r,0,none⟩)),(.iface V.T V.ov),(.agg (ints y.flat).toArray)] T0 [cV V r s] (dF (λ_ H=>H=[cV V r (j9 V.toDk s y)])):=by
 refine BD 27 Tryz.func66 rfl rfl rfl λw0 F hF=>sr λ_ J1=>XY (ints y.flat) λb5=>?_
 refine nx J1 (sr λ_ J2=>PS ?_);refine nx J2 (am ?_)
 refine bH (α:=(Nat)) (λk=>k≤5) (λk=>[(0,(.pointer (some ⟨r,0,none⟩))),(1,(.iface V.T V.ov)),(5,(.pointer (some ⟨b5,0,none⟩))),(7,(.int .i64 (((k:Nat):Int))))]) (λk=>[aj b5 (ints y.flat) 74,cV V r (iM V.toDk s (nS s.id (pC s.id y) (λ_=>true) k))]) (λk=>5-k) 0
  (aO _) SB
  (λ_ q=>by
  rw[show nS s.id (pC s.id y) (λ_=>true) 0=[]from rfl,qC]
  exact q) (λk hinv=>?_)
 obtain hk:=hinv;refine sr λ_ J3=>PS ?_
 refine ap ?_ ?_<;>intro h8;refine nx J3 (aa λ_ J4=>CY (qx J4 (aa λ_ J5=>am (sr λ_ J6=>P2 ?_))));refine nx J6 (sr λ_ J7=>P3 ?_);refine FA 0 dx aP ?_;refine LG 1 Y3 (.int .i64 (s.id)) ?_ (hc:=by exact λa_=>(cU _ rfl));refine PS ?_;refine ap ?_ ?_<;>intro h15;refine nx J7 (CY (DC bm (dp 1 rfl rfl) (BL 0) ?_));refine PD 0 ?_;refine PD 1 ?_;refine PD 2 ?_;refine PD 3 ?_;refine PD 4 ?_;refine FD 5 0 dx aP ?_;refine ta 6 rfl (dD (v:=(.int .i64 (s.id))) rfl Y3 rfl rfl (λ_ h=>h.2.1) (λa_=>(cU _ rfl))) ?_;refine LY 7 ek bg ai ?_;refine ta 8 rfl (kR MsgT.zero (MsgT.mk 2 s.id y 0 0 BallotT.zero BallotT.zero ChangeT.zero ViewT.zero) [(0,[Value.int .i64 2]),(1,[Value.int .i64 s.id]),(2,ints y.flat)] bj bE (g:=MsgT.sg)) ?_;refine AL 9 ?_;refine CZ jN (oU V r s (nS s.id (pC s.id y) (λ_=>true) k) ((k:Nat):Int) (MsgT.mk 2 s.id y 0 0 BallotT.zero BallotT.zero ChangeT.zero ViewT.zero) h15) (SM [1]) λvR=>?_
 refine EN (DN (af (ad J5 (ac (AD ?_)))));refine PS ?_;refine au ?_
 exact aL ((k+1):(Nat)) (by omega) (by show 5- (k+1)<5-k;omega)
  SB
  (λ_ q=>by
   rw[jq,if_pos ⟨h15,rfl⟩]
   exact ak [1,0] rfl q)
 refine nx J7 (CN (aR (af (ad J5 (ac (AD ?_))))));refine PS ?_;refine au ?_
 exact aL ((k+1):(Nat)) (by omega) (by show 5- (k+1)<5-k;omega)
  SB
  (λ_ q=>by
   rw[jq,if_neg (by omega)];rw[aY]
   exact ak [0,0] rfl q)
 refine nx J3 (aa λ_ J8=>CN (aW (aA (aA (bu (WK [1] (bC rfl ?_)))))));obtain rfl:k=5:=by omega
 exact rfl
theorem nI{δ:Type}(V:Env δ)(r:Nat)(s:MS δ)(v:ViewT)[OkR V.toDk s]:
 DT 64 #[(.pointer (some ⟨r,0,none⟩)),(.iface V.T V.ov),(.agg (ints v.flat).toArray)] T0 [cV V r s] (dF (λ_ H=>H=[cV V r (ll V.toDk s v)])):=by
 refine BD 23 Tryz.func64 rfl rfl rfl λw0 F hF=>sr λ_ J1=>XY (ints v.flat) λb5=>?_
 refine nx J1 (sr λ_ J2=>PS ?_);refine nx J2 (am ?_)
 refine bH (α:=(Nat)) (λk=>k≤5) (λk=>[(0,(.pointer (some ⟨r,0,none⟩))),(1,(.iface V.T V.ov)),(5,(.pointer (some ⟨b5,0,none⟩))),(7,(.int .i64 (((k:Nat):Int))))]) (λk=>[aj b5 (ints v.flat) 85,cV V r (iM V.toDk s (nS s.id (ju v) (λ_=>true) k))]) (λk=>5-k) 0
  (aO _) SB
  (λ_ q=>by
  rw[show nS s.id (ju v) (λ_=>true) 0=[]from rfl,qC]
  exact q) (λk hinv=>?_)
 obtain hk:=hinv;refine sr λ_ J3=>PS ?_
 refine ap ?_ ?_<;>intro h8;refine nx J3 (aa λ_ J4=>CY (qx J4 (aa λ_ J5=>am (sr λ_ J6=>P2 ?_))));refine nx J6 (sr λ_ J7=>P3 ?_);refine FA 0 dx aP ?_;refine LG 1 Y3 (.int .i64 (s.id)) ?_ (hc:=by exact λa_=>(cU _ rfl));refine PS ?_;refine ap ?_ ?_<;>intro h15;refine nx J7 (CY (ac (P3 ?_)));refine LW 0 eF bl ao ?_;refine tp (kR MsgT.zero (MsgT.mk 7 0 RowT.zero 0 0 BallotT.zero BallotT.zero ChangeT.zero v) [(0,[Value.int .i64 7]),(8,ints v.flat)] bj bE (g:=MsgT.sg)) ?_;refine CZ jN (oU V r s (nS s.id (ju v) (λ_=>true) k) ((k:Nat):Int) (MsgT.mk 7 0 RowT.zero 0 0 BallotT.zero BallotT.zero ChangeT.zero v) h15) (SM [1]) λvR=>?_
 refine au (af (ad J5 (ac (AD ?_))));refine PS ?_;refine au ?_
 exact aL ((k+1):(Nat)) (by omega) (by show 5- (k+1)<5-k;omega)
  SB
  (λ_ q=>by
   rw[jq,if_pos ⟨h15,rfl⟩]
   exact ak [1,0] rfl q)
 refine nx J7 (CN (aR (af (ad J5 (ac (AD ?_))))));refine PS ?_;refine au ?_
 exact aL ((k+1):(Nat)) (by omega) (by show 5- (k+1)<5-k;omega)
  SB
  (λ_ q=>by
   rw[jq,if_neg (by omega)];rw[aY]
   exact ak [0,0] rfl q)
 refine nx J3 (aa λ_ J8=>CN (aW (aA (aA (bu (WK [1] (bC rfl ?_)))))));obtain rfl:k=5:=by omega
 exact rfl
end Go.Proofs.YtkhjnolhhidecaaGreatDoor
end
