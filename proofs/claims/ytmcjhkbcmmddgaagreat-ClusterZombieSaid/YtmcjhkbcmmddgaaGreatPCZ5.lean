/-
  Joined texts:what a statement's proof reaches.
-/
import Derived.Conc.LoneCalls
import Derived.Conc.LoneSelectN
import Derived.Test.YtmcjhkbcmmddgaaGreatPCZ4
set_option maxHeartbeats 8000000
set_option maxRecDepth 100000
set_option linter.unusedSimpArgs false
set_option linter.unusedVariables false
section
namespace Go.Proofs.YtmcjhkbcmmddgaaGreat
open Go Leg Codec Api
theorem A9(rb:Nat)(v:Value)(bs:List UInt8):
 DT 97 #[(.pointer (some ⟨rb,0,none⟩))] (IsB v bs) [ah rb [v] 197] (oB 197 iV (λmb:MsgT×Bool=> .tuple #[.agg (ints mb.1.flat).toArray, .bool mb.2]) cD v bs rb):=by
 refine BD 85 Tryz.func97 rfl rfl rfl λw0 F hF=>sr λ_ J1=>XZ mT (ints MsgT.zero.flat) λb2=>?_
 refine PS ?_;refine nx J1 (sr λ_ J2=>PS ?_);refine CP jH (cV rb v bs (10)) (SM [1]) (λ_ d _=>(hF).more d) (λcP HP hP=>?_) (λvR HR hR=>?_);obtain⟨vP,rfl,rfl,hpP⟩:=hP;refine ay (WK [0] (aR ?_));exact⟨_,rfl,rfl,by simp[cD,bV hpP, *]⟩;obtain⟨a1,r1,v1,rfl,rfl,hp1,ht1⟩:=hR;have hf1:=ht1 _ hF;refine tp (kJ MsgT.zero (MsgT.mk a1 0 RowT.zero 0 0 BallotT.zero BallotT.zero ChangeT.zero ViewT.zero) [(0,[Value.int .i64 a1])] bg br (g:=MsgT.sg)) ?_;refine XZ mT (ints MsgT.zero.flat) λb4=>?_
 refine SW 0 ca aI ?_;refine nx J2 (aa λ_ J3=>sr λ_ J4=>FA 0 bg aP ?_);refine LT 0 Y3 (.int .i64 (a1)) ?_ (hc:=by exact fj _ rfl);refine nx J4 (aq (aa λ_ J5=>fB (α:=Unit) (λ_u=>True) (λ_u=>[(0,(.pointer (some ⟨rb,0,none⟩))),(2,(.pointer (some ⟨b2,0,none⟩))),(3,(.bool false)),(4,(.pointer (some ⟨b4,0,none⟩))),(9,(.int .i64 (a1))),(10,(.bool ((ee a1))))]) (λ_u=>[ah b4 (ints (MsgT.mk a1 0 RowT.zero 0 0 BallotT.zero BallotT.zero ChangeT.zero ViewT.zero).flat) 136,ah rb [v1] 197,ah b2 (ints MsgT.zero.flat) 136]) (λ_u hinv=>?_) (λtl5=>?_)));have _:=hinv;refine ac J5 (TC.cond rfl (λh10=>?_) (λh10=>?_));refine sr λ_ J6=>PS ?_
 refine CP jH (cV rb v1 r1 (5)) (SM [1]) (λ_ d _=>(hf1).more d) (λcP HP hP=>?_) (λvR HR hR=>?_);obtain⟨vP,rfl,rfl,hpP⟩:=hP;refine ay (aN (ay (WK [0] (aR ?_))));exact⟨_,rfl,rfl,by simp[cD,au hp1,bV hpP,h10, *]⟩;obtain⟨a2,r2,v2,rfl,rfl,hp2,ht2⟩:=hR;have hf2:=ht2 _ hf1;refine FA 1 bg aP ?_;refine SS 1 aP (aI _) (MsgT.set_whose _ rfl _) ?_;refine nx J6 (sr λ_ J7=>PS ?_);refine CP JT (uu rb v2 r2) ID (λ_ d _=>(hf2).more d) (λcP HP hP=>?_) (λvR HR hR=>?_);obtain⟨vP,rfl,rfl,hpP⟩:=hP;refine ay (aN (ay (WK [0] (aR ?_))));exact⟨_,rfl,rfl,by simp[cD,au hp1,au hp2,bV hpP,h10, *]⟩;obtain⟨a3,r3,v3,rfl,rfl,hp3,ht3⟩:=hR;have hf3:=ht3 _ hf2;refine FA 2 bg aX ?_;refine SP 1 aX ag aI MsgT.wp_row ?_;refine nx J7 (aa λ_ J8=>D1 1 bl ?_);refine LY 0 bg ca aI ?_;refine FD 1 2 bg aX ?_;refine ta 2 rfl (aM (vs:=ints a3.flat) rfl dT rfl aX rfl (λ_ h=>h.2.1) (ag a3) (mM (MsgT.mk a1 a2 a3 0 0 BallotT.zero BallotT.zero ChangeT.zero ViewT.zero) 0 rfl (by decide) (bo (ag a3)))) ?_;refine AL 3 ?_;refine CE Dt (ku a3 (A4 hp3)) ID ?_;refine EN (AL 4 ?_);refine SW 2 ca aI ?_;refine EN (PD 5 ?_);refine DN (ac J8 (aj (aJ (ae (RT 2 [0] bg ca (aI _) ?_)))));exact⟨((MsgT.mk a1 a2 a3 0 0 BallotT.zero BallotT.zero ChangeT.zero ViewT.zero),(fy a3)),_,_,rfl,rfl,by simp[cD,pr,au hp1,au hp2,au hp3,h10,MsgT.zero,RecT.zero, *],(ht1.trans (ht2.trans ht3))⟩;refine sr λ_ J9=>PS ?_
 refine ap ?_ ?_<;>intro h25;refine PS ?_;refine nx J9 (CY (ad (PS ?_)));refine CP qI (jG rb v1 r1) (SM [1]) (λ_ d _=>(hf1).more d) (λcP HP hP=>?_) (λvR HR hR=>?_);obtain⟨vP,rfl,rfl,hpP⟩:=hP;refine aN (ay (WK [0] (aR ?_)));exact⟨_,rfl,rfl,by simp[cD,ee,fg,au hp1,bV hpP,h10,h25, *]⟩;obtain⟨a2,r2,v2,rfl,rfl,hp2,ht2⟩:=hR;have hf2:=ht2 _ hf1;refine FA 176 bg aP ?_;refine SS 1 aP (aI _) (MsgT.set_version _ rfl _) ?_;refine aw (af (ac J3 (sr λ_ J10=>LW 1 bg ca aI ?_)));refine SW 2 ca aI ?_;refine PS ?_;refine nx J10 (aj (RT 2 [0] bg ca (aI _) ?_));exact⟨((MsgT.mk a1 0 RowT.zero a2 0 BallotT.zero BallotT.zero ChangeT.zero ViewT.zero),true),_,_,rfl,rfl,by simp[cD,ee,fg,pr,au hp1,au hp2,h10,h25,MsgT.zero,RecT.zero, *],(ht1.trans ht2)⟩;refine PS ?_;refine nx J9 (CN (aa λ_ J11=>fB (α:=Unit) (λ_u=>True) (λ_u=>[(0,(.pointer (some ⟨rb,0,none⟩))),(2,(.pointer (some ⟨b2,0,none⟩))),(3,(.bool false)),(4,(.pointer (some ⟨b4,0,none⟩))),(9,(.int .i64 (a1))),(29,(.bool ((fg a1))))]) (λ_u=>[ah b4 (ints (MsgT.mk a1 0 RowT.zero 0 0 BallotT.zero BallotT.zero ChangeT.zero ViewT.zero).flat) 136,ah rb [v1] 197,ah b2 (ints MsgT.zero.flat) 136]) (λ_u hinv=>?_) (λtl11=>?_)));have _:=hinv;refine ac J11 (TC.cond rfl (λh29=>?_) (λh29=>?_));refine sr λ_ J12=>PS ?_
 refine CP qI (jG rb v1 r1) (SM [1]) (λ_ d _=>(hf1).more d) (λcP HP hP=>?_) (λvR HR hR=>?_);obtain⟨vP,rfl,rfl,hpP⟩:=hP;refine ay (aN (ay (WK [0] (aR ?_))));exact⟨_,rfl,rfl,by simp[cD,au hp1,bV hpP,h10,h25,h29, *]⟩;obtain⟨a2,r2,v2,rfl,rfl,hp2,ht2⟩:=hR;have hf2:=ht2 _ hf1;refine FA 177 bg aP ?_;refine SS 1 aP (aI _) (PI _ rfl _) ?_;refine nx J12 (ad (PS ?_));refine CP zO (jZ rb v2 r2) ID (λ_ d _=>(hf2).more d) (λcP HP hP=>?_) (λvR HR hR=>?_);obtain⟨vP,rfl,rfl,hpP⟩:=hP;refine aN (ay (WK [0] (aR ?_)));exact⟨_,rfl,rfl,by simp[cD,au hp1,au hp2,bV hpP,h10,h25,h29, *]⟩;obtain⟨a3,r3,v3,rfl,rfl,hp3,ht3⟩:=hR;have hf3:=ht3 _ hf2;refine FA 178 bg cA ?_;refine SP 1 cA ao aI PH ?_;refine aw (af (ac J3 (sr λ_ J13=>LW 1 bg ca aI ?_)));refine SW 2 ca aI ?_;refine PS ?_;refine nx J13 (aj (RT 2 [0] bg ca (aI _) ?_));exact⟨((MsgT.mk a1 0 RowT.zero 0 a2 a3 BallotT.zero ChangeT.zero ViewT.zero),true),_,_,rfl,rfl,by simp[cD,pr,au hp1,au hp2,au hp3,h10,h25,h29,MsgT.zero,RecT.zero, *],(ht1.trans (ht2.trans ht3))⟩;refine sr λ_ J14=>PS ?_
 refine ap ?_ ?_<;>intro h39;refine PS ?_;refine nx J14 (CY (sr λ_ J15=>PS ?_));refine CP qI (jG rb v1 r1) (SM [1]) (λ_ d _=>(hf1).more d) (λcP HP hP=>?_) (λvR HR hR=>?_);obtain⟨vP,rfl,rfl,hpP⟩:=hP;refine ay (aN (ay (WK [0] (aR ?_))));exact⟨_,rfl,rfl,by simp[cD,ee,fg,au hp1,bV hpP,h10,h25,h29,h39, *]⟩;obtain⟨a2,r2,v2,rfl,rfl,hp2,ht2⟩:=hR;have hf2:=ht2 _ hf1;refine FA 177 bg aP ?_;refine SS 1 aP (aI _) (PI _ rfl _) ?_;refine nx J15 (sr λ_ J16=>PS ?_);refine CP zO (jZ rb v2 r2) ID (λ_ d _=>(hf2).more d) (λcP HP hP=>?_) (λvR HR hR=>?_);obtain⟨vP,rfl,rfl,hpP⟩:=hP;refine ay (aN (ay (WK [0] (aR ?_))));exact⟨_,rfl,rfl,by simp[cD,ee,fg,au hp1,au hp2,bV hpP,h10,h25,h29,h39, *]⟩;obtain⟨a3,r3,v3,rfl,rfl,hp3,ht3⟩:=hR;have hf3:=ht3 _ hf2;refine FA 178 bg cA ?_;refine SP 1 cA ao aI PH ?_;refine nx J16 (sr λ_ J17=>PS ?_);refine CP zO (jZ rb v3 r3) ID (λ_ d _=>(hf3).more d) (λcP HP hP=>?_) (λvR HR hR=>?_);obtain⟨vP,rfl,rfl,hpP⟩:=hP;refine ay (aN (ay (WK [0] (aR ?_))));exact⟨_,rfl,rfl,by simp[cD,ee,fg,au hp1,au hp2,au hp3,bV hpP,h10,h25,h29,h39, *]⟩;obtain⟨a4,r4,v4,rfl,rfl,hp4,ht4⟩:=hR;have hf4:=ht4 _ hf3;refine FA 180 bg cA ?_;refine SP 1 cA ao aI MsgT.wp_had ?_;refine nx J17 (ad (PS ?_));refine CP JS (pn rb v4 r4) ID (λ_ d _=>(hf4).more d) (λcP HP hP=>?_) (λvR HR hR=>?_);obtain⟨vP,rfl,rfl,hpP⟩:=hP
 refine aN (ay (WK [0] (aR ?_)));exact⟨_,rfl,rfl,by simp[cD,ee,fg,au hp1,au hp2,au hp3,au hp4,bV hpP,h10,h25,h29,h39, *]⟩;obtain⟨a5,r5,v5,rfl,rfl,hp5,ht5⟩:=hR;have hf5:=ht5 _ hf4;refine FA 182 bg gf ?_;refine SP 1 gf aK aI PG ?_;refine aw (af (ac J3 (sr λ_ J18=>LW 1 bg ca aI ?_)));refine SW 2 ca aI ?_;refine PS ?_;refine nx J18 (aj (RT 2 [0] bg ca (aI _) ?_));exact⟨((MsgT.mk a1 0 RowT.zero 0 a2 a3 a4 a5 ViewT.zero),true),_,_,rfl,rfl,by simp[cD,ee,fg,pr,au hp1,au hp2,au hp3,au hp4,au hp5,h10,h25,h29,h39,MsgT.zero,RecT.zero, *],(ht1.trans (ht2.trans (ht3.trans (ht4.trans ht5))))⟩;refine PS ?_;refine nx J14 (CN (sr λ_ J19=>PS ?_));refine ap ?_ ?_<;>intro h53;refine PS ?_;refine nx J19 (CY (sr λ_ J20=>PS ?_));refine CP qI (jG rb v1 r1) (SM [1]) (λ_ d _=>(hf1).more d) (λcP HP hP=>?_) (λvR HR hR=>?_);obtain⟨vP,rfl,rfl,hpP⟩:=hP;refine ay (aN (ay (WK [0] (aR ?_))));exact⟨_,rfl,rfl,by simp[cD,ee,fg,au hp1,bV hpP,h10,h25,h29,h39,h53, *]⟩;obtain⟨a2,r2,v2,rfl,rfl,hp2,ht2⟩:=hR;have hf2:=ht2 _ hf1;refine FA 177 bg aP ?_;refine SS 1 aP (aI _) (PI _ rfl _) ?_;refine nx J20 (sr λ_ J21=>PS ?_);refine CP zO (jZ rb v2 r2) ID (λ_ d _=>(hf2).more d) (λcP HP hP=>?_) (λvR HR hR=>?_);obtain⟨vP,rfl,rfl,hpP⟩:=hP;refine ay (aN (ay (WK [0] (aR ?_))));exact⟨_,rfl,rfl,by simp[cD,ee,fg,au hp1,au hp2,bV hpP,h10,h25,h29,h39,h53, *]⟩
 obtain⟨a3,r3,v3,rfl,rfl,hp3,ht3⟩:=hR;have hf3:=ht3 _ hf2;refine FA 178 bg cA ?_;refine SP 1 cA ao aI PH ?_;refine nx J21 (ad (PS ?_));refine CP JS (pn rb v3 r3) ID (λ_ d _=>(hf3).more d) (λcP HP hP=>?_) (λvR HR hR=>?_);obtain⟨vP,rfl,rfl,hpP⟩:=hP;refine aN (ay (WK [0] (aR ?_)));exact⟨_,rfl,rfl,by simp[cD,ee,fg,au hp1,au hp2,au hp3,bV hpP,h10,h25,h29,h39,h53, *]⟩;obtain⟨a4,r4,v4,rfl,rfl,hp4,ht4⟩:=hR;have hf4:=ht4 _ hf3;refine FA 182 bg gf ?_;refine SP 1 gf aK aI PG ?_;refine aw (af (ac J3 (sr λ_ J22=>LW 1 bg ca aI ?_)));refine SW 2 ca aI ?_;refine PS ?_;refine nx J22 (aj (RT 2 [0] bg ca (aI _) ?_));exact⟨((MsgT.mk a1 0 RowT.zero 0 a2 a3 BallotT.zero a4 ViewT.zero),true),_,_,rfl,rfl,by simp[cD,ee,fg,pr,au hp1,au hp2,au hp3,au hp4,h10,h25,h29,h39,h53,MsgT.zero,RecT.zero, *],(ht1.trans (ht2.trans (ht3.trans ht4)))⟩;refine PS ?_;refine nx J19 (CN (sr λ_ J23=>PS ?_));refine ap ?_ ?_<;>intro h64;refine PS ?_;refine nx J23 (CY (sr λ_ J24=>PS ?_));refine CP JR (rX rb v1 r1) (SM [1]) (λ_ d _=>(hf1).more d) (λcP HP hP=>?_) (λvR HR hR=>?_);obtain⟨vP,rfl,rfl,hpP⟩:=hP;refine ay (aN (ay (WK [0] (aR ?_))));exact⟨_,rfl,rfl,by simp[cD,ee,fg,au hp1,bV hpP,h10,h25,h29,h39,h53,h64, *]⟩;obtain⟨a2,r2,v2,rfl,rfl,hp2,ht2⟩:=hR;have hf2:=ht2 _ hf1;refine FA 185 bg bi ?_;refine SP 1 bi am aI MsgT.wp_view ?_;refine nx J24 (aa λ_ J25=>D1 1 bl ?_)
 refine LY 0 bg ca aI ?_;refine FD 1 185 bg bi ?_;refine ta 2 rfl (aM (vs:=ints a2.flat) rfl e6 rfl bi rfl (λ_ h=>h.2.1) (am a2) (wc (MsgT.mk a1 0 RowT.zero 0 0 BallotT.zero BallotT.zero ChangeT.zero a2) 0 rfl (by decide) (bo (am a2)))) ?_;refine AL 3 ?_;refine CE LS (ll a2 (sM hp2)) ID ?_;refine EN (AL 4 ?_);refine SW 2 ca aI ?_;refine EN (PD 5 ?_);refine DN (ac J25 (aj (aJ (ae (RT 2 [0] bg ca (aI _) ?_)))));exact⟨((MsgT.mk a1 0 RowT.zero 0 0 BallotT.zero BallotT.zero ChangeT.zero a2),(jB a2)),_,_,rfl,rfl,by simp[cD,ee,fg,pr,au hp1,au hp2,h10,h25,h29,h39,h53,h64,MsgT.zero,RecT.zero, *],(ht1.trans ht2)⟩;refine PS ?_;refine nx J23 (CN (sr λ_ J26=>PS ?_));refine ap ?_ ?_<;>intro h73;refine PS ?_;refine nx J26 (CY (sr λ_ J27=>PS ?_));refine CP jH (cV rb v1 r1 (5)) (SM [1]) (λ_ d _=>(hf1).more d) (λcP HP hP=>?_) (λvR HR hR=>?_);obtain⟨vP,rfl,rfl,hpP⟩:=hP;refine ay (aN (ay (WK [0] (aR ?_))));exact⟨_,rfl,rfl,by simp[cD,ee,fg,au hp1,bV hpP,h10,h25,h29,h39,h53,h64,h73, *]⟩;obtain⟨a2,r2,v2,rfl,rfl,hp2,ht2⟩:=hR;have hf2:=ht2 _ hf1;refine FA 1 bg aP ?_;refine SS 1 aP (aI _) (MsgT.set_whose _ rfl _) ?_;refine nx J27 (sr λ_ J28=>PS ?_);refine CP JR (rX rb v2 r2) ID (λ_ d _=>(hf2).more d) (λcP HP hP=>?_) (λvR HR hR=>?_);obtain⟨vP,rfl,rfl,hpP⟩:=hP;refine ay (aN (ay (WK [0] (aR ?_))))
 exact⟨_,rfl,rfl,by simp[cD,ee,fg,au hp1,au hp2,bV hpP,h10,h25,h29,h39,h53,h64,h73, *]⟩;obtain⟨a3,r3,v3,rfl,rfl,hp3,ht3⟩:=hR;have hf3:=ht3 _ hf2;refine FA 185 bg bi ?_;refine SP 1 bi am aI MsgT.wp_view ?_;refine nx J28 (aa λ_ J29=>D1 1 bl ?_);refine LY 0 bg ca aI ?_;refine FD 1 185 bg bi ?_;refine ta 2 rfl (aM (vs:=ints a3.flat) rfl e6 rfl bi rfl (λ_ h=>h.2.1) (am a3) (wc (MsgT.mk a1 a2 RowT.zero 0 0 BallotT.zero BallotT.zero ChangeT.zero a3) 0 rfl (by decide) (bo (am a3)))) ?_;refine AL 3 ?_;refine CE LS (ll a3 (sM hp3)) ID ?_;refine EN (AL 4 ?_);refine SW 2 ca aI ?_;refine EN (PD 5 ?_);refine DN (ac J29 (aj (aJ (ae (RT 2 [0] bg ca (aI _) ?_)))));exact⟨((MsgT.mk a1 a2 RowT.zero 0 0 BallotT.zero BallotT.zero ChangeT.zero a3),(jB a3)),_,_,rfl,rfl,by simp[cD,ee,fg,pr,au hp1,au hp2,au hp3,h10,h25,h29,h39,h53,h64,h73,MsgT.zero,RecT.zero, *],(ht1.trans (ht2.trans ht3))⟩;refine PS ?_;refine nx J26 (CN (aS (af (ac J3 (sr λ_ J30=>LW 0 bg ca aI ?_)))));refine SW 2 ca aI ?_;refine PS ?_;refine nx J30 (aj (RT 2 [1] bg ca (aI _) ?_));exact⟨((MsgT.mk a1 0 RowT.zero 0 0 BallotT.zero BallotT.zero ChangeT.zero ViewT.zero),true),_,_,rfl,rfl,by simp[cD,pr,au hp1,h10,h25,h29,h39,h53,h64,h73,MsgT.zero,RecT.zero, *],ht1⟩;refine sr λ_ J31=>P2 ?_
 refine ap ?_ ?_<;>intro h29;refine nx J31 (CY (aS ?_))
 exact aF
  (aT (aT (aT (aT (aT (bE rfl (by simp[fg, *]) SB))))))
  (λ_ s=>s)
  (tl11 (():Unit) trivial)
 refine nx J31 (CN (ad (PS ?_)));refine ap ?_ ?_<;>intro h31;refine PS ?_;refine aw ?_
 exact aF
  (aT (aT (aT (aT (aT (bE rfl (by simp[fg, *]) SB))))))
  (λ_ s=>s)
  (tl11 (():Unit) trivial)
 refine PS ?_;refine aw ?_
 exact aF
  (aT (aT (aT (aT (aT (bE rfl (by simp[fg, *]) SB))))))
  (λ_ s=>s)
  (tl11 (():Unit) trivial)
 refine sr λ_ J32=>P2 ?_
 refine ap ?_ ?_<;>intro h10;refine nx J32 (CY (aS ?_))
 exact aF
  (aT (aT (aT (aT (aT (bE rfl (by simp[ee, *]) SB))))))
  (λ_ s=>s)
  (tl5 (():Unit) trivial)
 refine nx J32 (CN (sr λ_ J33=>P2 ?_));refine ap ?_ ?_<;>intro h10;refine nx J33 (CY (aS ?_))
 exact aF
  (aT (aT (aT (aT (aT (bE rfl (by simp[ee, *]) SB))))))
  (λ_ s=>s)
  (tl5 (():Unit) trivial)
 refine nx J33 (CN (ad (PS ?_)));refine ap ?_ ?_<;>intro h13;refine PS ?_;refine aw ?_
 exact aF
  (aT (aT (aT (aT (aT (bE rfl (by simp[ee, *]) SB))))))
  (λ_ s=>s)
  (tl5 (():Unit) trivial)
 refine PS ?_;refine aw ?_
 exact aF
  (aT (aT (aT (aT (aT (bE rfl (by simp[ee, *]) SB))))))
  (λ_ s=>s)
  (tl5 (():Unit) trivial)
theorem A8(rb:Nat)(v:Value)(bs:List UInt8):
 DT 85 #[(.pointer (some ⟨rb,0,none⟩))] (IsB v bs) [ah rb [v] 197] (oB 197 iV (λmb:RecT×Bool=> .tuple #[.agg (ints mb.1.flat).toArray, .bool mb.2]) dy v bs rb):=by
 refine BD 65 Tryz.func85 rfl rfl rfl λw0 F hF=>sr λ_ J1=>XZ I5 (ints RecT.zero.flat) λb2=>?_
 refine PS ?_;refine nx J1 (sr λ_ J2=>PS ?_);refine CP jH (cV rb v bs (6)) (SM [1]) (λ_ d _=>(hF).more d) (λcP HP hP=>?_) (λvR HR hR=>?_);obtain⟨vP,rfl,rfl,hpP⟩:=hP;refine ay (WK [0] (aR ?_));exact⟨_,rfl,rfl,by simp[dy,ee,fg,bV hpP, *]⟩;obtain⟨a1,r1,v1,rfl,rfl,hp1,ht1⟩:=hR;have hf1:=ht1 _ hF;refine tp (kJ RecT.zero (RecT.mk a1 0 RowT.zero 0 BallotT.zero ChangeT.zero ViewT.zero) [(0,[Value.int .i64 a1])] eC fC (g:=RecT.sg)) ?_;refine XZ I5 (ints RecT.zero.flat) λb4=>?_
 refine SW 0 gh bp ?_;refine nx J2 (aa λ_ J3=>sr λ_ J4=>FA 0 eC aP ?_);refine LT 0 Y3 (.int .i64 (a1)) ?_ (hc:=by exact k9 _ rfl);refine nx J4 (aq (sr λ_ J5=>PS ?_));refine ap ?_ ?_<;>intro h11;refine PS ?_;refine nx J5 (CY (sr λ_ J6=>PS ?_));refine CP JT (uu rb v1 r1) (SM [1]) (λ_ d _=>(hf1).more d) (λcP HP hP=>?_) (λvR HR hR=>?_);obtain⟨vP,rfl,rfl,hpP⟩:=hP;refine ay (aN (ay (WK [0] (aR ?_))));exact⟨_,rfl,rfl,by simp[dy,ee,fg,au hp1,bV hpP,h11, *]⟩;obtain⟨a2,r2,v2,rfl,rfl,hp2,ht2⟩:=hR;have hf2:=ht2 _ hf1;refine FA 2 eC aX ?_;refine SP 1 aX ag bp RecT.wp_row ?_;refine nx J6 (aa λ_ J7=>D1 1 bl ?_);refine LY 0 eC gh bp ?_;refine FD 1 2 eC aX ?_;refine ta 2 rfl (aM (vs:=ints a2.flat) rfl dT rfl aX rfl (λ_ h=>h.2.1) (ag a2) (sD (RecT.mk a1 0 a2 0 BallotT.zero ChangeT.zero ViewT.zero) 0 rfl (by decide) (bo (ag a2)))) ?_;refine AL 3 ?_;refine CE Dt (ku a2 (A4 hp2)) ID ?_;refine EN (AL 4 ?_);refine SW 2 gh bp ?_;refine EN (PD 5 ?_);refine DN (ac J7 (aj (aJ (ae (RT 2 [0] eC gh (bp _) ?_)))));exact⟨((RecT.mk a1 0 a2 0 BallotT.zero ChangeT.zero ViewT.zero),(fy a2)),_,_,rfl,rfl,by simp[dy,ee,fg,pr,au hp1,au hp2,h11,MsgT.zero,RecT.zero, *],(ht1.trans ht2)⟩;refine PS ?_;refine nx J5 (CN (sr λ_ J8=>PS ?_));refine ap ?_ ?_<;>intro h20;refine PS ?_;refine nx J8 (CY (sr λ_ J9=>PS ?_))
 refine CP jH (cV rb v1 r1 (5)) (SM [1]) (λ_ d _=>(hf1).more d) (λcP HP hP=>?_) (λvR HR hR=>?_);obtain⟨vP,rfl,rfl,hpP⟩:=hP;refine ay (aN (ay (WK [0] (aR ?_))));exact⟨_,rfl,rfl,by simp[dy,ee,fg,au hp1,bV hpP,h11,h20, *]⟩;obtain⟨a2,r2,v2,rfl,rfl,hp2,ht2⟩:=hR;have hf2:=ht2 _ hf1;refine FA 1 eC aP ?_;refine SS 1 aP (bp _) (RecT.set_whose _ rfl _) ?_;refine nx J9 (sr λ_ J10=>PS ?_);refine CP JT (uu rb v2 r2) ID (λ_ d _=>(hf2).more d) (λcP HP hP=>?_) (λvR HR hR=>?_);obtain⟨vP,rfl,rfl,hpP⟩:=hP;refine ay (aN (ay (WK [0] (aR ?_))));exact⟨_,rfl,rfl,by simp[dy,ee,fg,au hp1,au hp2,bV hpP,h11,h20, *]⟩;obtain⟨a3,r3,v3,rfl,rfl,hp3,ht3⟩:=hR;have hf3:=ht3 _ hf2;refine FA 2 eC aX ?_;refine SP 1 aX ag bp RecT.wp_row ?_;refine nx J10 (aa λ_ J11=>D1 1 bl ?_);refine LY 0 eC gh bp ?_;refine FD 1 2 eC aX ?_;refine ta 2 rfl (aM (vs:=ints a3.flat) rfl dT rfl aX rfl (λ_ h=>h.2.1) (ag a3) (sD (RecT.mk a1 a2 a3 0 BallotT.zero ChangeT.zero ViewT.zero) 0 rfl (by decide) (bo (ag a3)))) ?_;refine AL 3 ?_;refine CE Dt (ku a3 (A4 hp3)) ID ?_;refine EN (AL 4 ?_);refine SW 2 gh bp ?_;refine EN (PD 5 ?_);refine DN (ac J11 (aj (aJ (ae (RT 2 [0] eC gh (bp _) ?_)))));exact⟨((RecT.mk a1 a2 a3 0 BallotT.zero ChangeT.zero ViewT.zero),(fy a3)),_,_,rfl,rfl,by simp[dy,ee,fg,pr,au hp1,au hp2,au hp3,h11,h20,MsgT.zero,RecT.zero, *],(ht1.trans (ht2.trans ht3))⟩;refine PS ?_
 refine nx J8 (CN (sr λ_ J12=>PS ?_));refine ap ?_ ?_<;>intro h32;refine PS ?_;refine nx J12 (CY (ad (PS ?_)));refine CP jH (cV rb v1 r1 (5)) (SM [1]) (λ_ d _=>(hf1).more d) (λcP HP hP=>?_) (λvR HR hR=>?_);obtain⟨vP,rfl,rfl,hpP⟩:=hP;refine aN (ay (WK [0] (aR ?_)));exact⟨_,rfl,rfl,by simp[dy,ee,fg,au hp1,bV hpP,h11,h20,h32, *]⟩;obtain⟨a2,r2,v2,rfl,rfl,hp2,ht2⟩:=hR;have hf2:=ht2 _ hf1;refine FA 1 eC aP ?_;refine SS 1 aP (bp _) (RecT.set_whose _ rfl _) ?_;refine aw (af (ac J3 (sr λ_ J13=>LW 1 eC gh bp ?_)));refine SW 2 gh bp ?_;refine PS ?_;refine nx J13 (aj (RT 2 [0] eC gh (bp _) ?_));exact⟨((RecT.mk a1 a2 RowT.zero 0 BallotT.zero ChangeT.zero ViewT.zero),true),_,_,rfl,rfl,by simp[dy,ee,fg,pr,au hp1,au hp2,h11,h20,h32,MsgT.zero,RecT.zero, *],(ht1.trans ht2)⟩;refine PS ?_;refine nx J12 (CN (sr λ_ J14=>PS ?_));refine ap ?_ ?_<;>intro h37;refine PS ?_;refine nx J14 (CY (sr λ_ J15=>PS ?_));refine CP qI (jG rb v1 r1) (SM [1]) (λ_ d _=>(hf1).more d) (λcP HP hP=>?_) (λvR HR hR=>?_);obtain⟨vP,rfl,rfl,hpP⟩:=hP;refine ay (aN (ay (WK [0] (aR ?_))));exact⟨_,rfl,rfl,by simp[dy,ee,fg,au hp1,bV hpP,h11,h20,h32,h37, *]⟩;obtain⟨a2,r2,v2,rfl,rfl,hp2,ht2⟩:=hR;have hf2:=ht2 _ hf1;refine FA 176 eC aP ?_;refine SS 1 aP (bp _) (RecT.set_epoch _ rfl _) ?_;refine nx J15 (ad (PS ?_))
 refine CP zO (jZ rb v2 r2) ID (λ_ d _=>(hf2).more d) (λcP HP hP=>?_) (λvR HR hR=>?_);obtain⟨vP,rfl,rfl,hpP⟩:=hP;refine aN (ay (WK [0] (aR ?_)));exact⟨_,rfl,rfl,by simp[dy,ee,fg,au hp1,au hp2,bV hpP,h11,h20,h32,h37, *]⟩;obtain⟨a3,r3,v3,rfl,rfl,hp3,ht3⟩:=hR;have hf3:=ht3 _ hf2;refine FA 177 eC cA ?_;refine SP 1 cA ao bp RecT.wp_ballot ?_;refine aw (af (ac J3 (sr λ_ J16=>LW 1 eC gh bp ?_)));refine SW 2 gh bp ?_;refine PS ?_;refine nx J16 (aj (RT 2 [0] eC gh (bp _) ?_));exact⟨((RecT.mk a1 0 RowT.zero a2 a3 ChangeT.zero ViewT.zero),true),_,_,rfl,rfl,by simp[dy,ee,fg,pr,au hp1,au hp2,au hp3,h11,h20,h32,h37,MsgT.zero,RecT.zero, *],(ht1.trans (ht2.trans ht3))⟩;refine PS ?_;refine nx J14 (CN (sr λ_ J17=>PS ?_));refine ap ?_ ?_<;>intro h45;refine PS ?_;refine nx J17 (CY (sr λ_ J18=>PS ?_));refine CP qI (jG rb v1 r1) (SM [1]) (λ_ d _=>(hf1).more d) (λcP HP hP=>?_) (λvR HR hR=>?_);obtain⟨vP,rfl,rfl,hpP⟩:=hP;refine ay (aN (ay (WK [0] (aR ?_))));exact⟨_,rfl,rfl,by simp[dy,ee,fg,au hp1,bV hpP,h11,h20,h32,h37,h45, *]⟩;obtain⟨a2,r2,v2,rfl,rfl,hp2,ht2⟩:=hR;have hf2:=ht2 _ hf1;refine FA 176 eC aP ?_;refine SS 1 aP (bp _) (RecT.set_epoch _ rfl _) ?_;refine nx J18 (sr λ_ J19=>PS ?_);refine CP zO (jZ rb v2 r2) ID (λ_ d _=>(hf2).more d) (λcP HP hP=>?_) (λvR HR hR=>?_);obtain⟨vP,rfl,rfl,hpP⟩:=hP;refine ay (aN (ay (WK [0] (aR ?_))))
 exact⟨_,rfl,rfl,by simp[dy,ee,fg,au hp1,au hp2,bV hpP,h11,h20,h32,h37,h45, *]⟩;obtain⟨a3,r3,v3,rfl,rfl,hp3,ht3⟩:=hR;have hf3:=ht3 _ hf2;refine FA 177 eC cA ?_;refine SP 1 cA ao bp RecT.wp_ballot ?_;refine nx J19 (ad (PS ?_));refine CP JS (pn rb v3 r3) ID (λ_ d _=>(hf3).more d) (λcP HP hP=>?_) (λvR HR hR=>?_);obtain⟨vP,rfl,rfl,hpP⟩:=hP;refine aN (ay (WK [0] (aR ?_)));exact⟨_,rfl,rfl,by simp[dy,ee,fg,au hp1,au hp2,au hp3,bV hpP,h11,h20,h32,h37,h45, *]⟩;obtain⟨a4,r4,v4,rfl,rfl,hp4,ht4⟩:=hR;have hf4:=ht4 _ hf3;refine FA 179 eC gf ?_;refine SP 1 gf aK bp RecT.wp_change ?_;refine aw (af (ac J3 (sr λ_ J20=>LW 1 eC gh bp ?_)));refine SW 2 gh bp ?_;refine PS ?_;refine nx J20 (aj (RT 2 [0] eC gh (bp _) ?_));exact⟨((RecT.mk a1 0 RowT.zero a2 a3 a4 ViewT.zero),true),_,_,rfl,rfl,by simp[dy,ee,fg,pr,au hp1,au hp2,au hp3,au hp4,h11,h20,h32,h37,h45,MsgT.zero,RecT.zero, *],(ht1.trans (ht2.trans (ht3.trans ht4)))⟩;refine PS ?_;refine nx J17 (CN (sr λ_ J21=>PS ?_));refine ap ?_ ?_<;>intro h56;refine PS ?_;refine nx J21 (CY (sr λ_ J22=>PS ?_));refine CP JR (rX rb v1 r1) (SM [1]) (λ_ d _=>(hf1).more d) (λcP HP hP=>?_) (λvR HR hR=>?_);obtain⟨vP,rfl,rfl,hpP⟩:=hP;refine ay (aN (ay (WK [0] (aR ?_))));exact⟨_,rfl,rfl,by simp[dy,ee,fg,au hp1,bV hpP,h11,h20,h32,h37,h45,h56, *]⟩;obtain⟨a2,r2,v2,rfl,rfl,hp2,ht2⟩:=hR;have hf2:=ht2 _ hf1
 refine FA 182 eC bi ?_;refine SP 1 bi am bp RecT.wp_view ?_;refine nx J22 (aa λ_ J23=>D1 1 bl ?_);refine LY 0 eC gh bp ?_;refine FD 1 182 eC bi ?_;refine ta 2 rfl (aM (vs:=ints a2.flat) rfl e6 rfl bi rfl (λ_ h=>h.2.1) (am a2) (Q9 (RecT.mk a1 0 RowT.zero 0 BallotT.zero ChangeT.zero a2) 0 rfl (by decide) (bo (am a2)))) ?_;refine AL 3 ?_;refine CE LS (ll a2 (sM hp2)) ID ?_;refine EN (AL 4 ?_);refine SW 2 gh bp ?_;refine EN (PD 5 ?_);refine DN (ac J23 (aj (aJ (ae (RT 2 [0] eC gh (bp _) ?_)))));exact⟨((RecT.mk a1 0 RowT.zero 0 BallotT.zero ChangeT.zero a2),(jB a2)),_,_,rfl,rfl,by simp[dy,ee,fg,pr,au hp1,au hp2,h11,h20,h32,h37,h45,h56,MsgT.zero,RecT.zero, *],(ht1.trans ht2)⟩;refine PS ?_;refine nx J21 (CN (aS (af (ac J3 (sr λ_ J24=>LW 0 eC gh bp ?_)))));refine SW 2 gh bp ?_;refine PS ?_;refine nx J24 (aj (RT 2 [1] eC gh (bp _) ?_));exact⟨((RecT.mk a1 0 RowT.zero 0 BallotT.zero ChangeT.zero ViewT.zero),true),_,_,rfl,rfl,by simp[dy,ee,fg,pr,au hp1,h11,h20,h32,h37,h45,h56,MsgT.zero,RecT.zero, *],ht1⟩
theorem FB(rb mb gb:Nat)(v:Value)(bs:List UInt8)(m0:MsgT)(g0:Bool):
 DT 96 #[(.pointer (some ⟨rb,0,none⟩)),(.pointer (some ⟨mb,0,none⟩)),(.pointer (some ⟨gb,0,none⟩))] (IsB v bs) [ah rb [v] 197,ah mb (ints m0.flat) 136,ah gb [(.bool (g0))] 4] (vY (λ_ H=>∃x' r a,H=ah rb [x'] 197::[ah mb (ints a.1.flat) 136,ah gb [.bool a.2] 4]∧Tail v bs x' r∧cD bs=some (a,r)) (λc H=>c=iV∧∃(x':Value) (_:Unit),H=ah rb [x'] 197::[ah mb (ints m0.flat) 136,ah gb [.bool g0] 4]∧cD bs=none)):=by
 refine BD 9 Tryz.func96 rfl rfl rfl λw0 F hF=>ad (PS ?_)
 refine CP Qr (A9 rb v bs) ID (λ_ d _=>(hF).more d) (λcP HP hP=>?_) (λvR HR hR=>?_);obtain⟨vP,rfl,rfl,hpP⟩:=hP;exact WK [0,0,0] (aR ⟨rfl,_,(),rfl,hpP⟩);obtain⟨a1,r1,v1,rfl,rfl,hp1,ht1⟩:=hR;refine P3 ?_;refine SW 1 ca aI ?_;refine S0 2 lE ?_;exact aw (WK [0,0,0] (bw rfl ⟨_,_,_,rfl,ht1,hp1⟩))
theorem D9(x:Value)(bs:List UInt8):
 DT 61 #[x] (IsB x bs) [] (RI (.tuple #[.agg (ints (ju bs).1.flat).toArray, .int .i64 (ju bs).2]) []):=by
 refine Leg.Does.body (vs:=[x]) (n:=18) Tryz.func61 rfl rfl rfl (λw0 F hF=>?_);refine sr λ_ J1=>?_
 refine qU (ab rfl) rfl rfl rfl mT (λb2=>?_);change TL _ _ _ _ _ _ _ _ _ [ah b2 (ints MsgT.zero.flat) 136];refine qb ?_;refine nx J1 ?_;clear J1;refine sr λ_ J2=>?_
 refine qU (ab rfl) rfl rfl rfl mT (λb4=>?_);change TL _ _ _ _ _ _ _ _ _ [ah b4 (ints MsgT.zero.flat) 136,ah b2 (ints MsgT.zero.flat) 136];refine nx J2 ?_;clear J2;refine sr λ_ J3=>?_
 refine qU (ab rfl) rfl rfl rfl z4 (λb5=>?_);refine bO (i:=0) (ab rfl) rfl rfl rfl rfl rfl lE rfl rfl (lb rfl) rfl rfl ?_;refine nx J3 ?_;clear J3;refine sr λ_ J4=>?_
 refine mv ?_;refine tp (Rj rfl rfl) ?_;refine lC (ab rfl) rfl rfl rfl OH rfl (zv (bs:=bs) (C:=[ah b4 (ints MsgT.zero.flat) 136,ah b5 [(.bool false)] 4]) (caps:=[(.pointer (some ⟨b4,0,none⟩)),(.pointer (some ⟨b5,0,none⟩))]) (A:=λa:MsgT×Bool=>[ah b4 (ints a.1.flat) 136,ah b5 [.bool a.2] 4]) (G:=λ_:Unit=>[ah b4 (ints MsgT.zero.flat) 136,ah b5 [(.bool false)] 4]) (φ:=λa r=>cD bs=some (a,r)) (ψ:=λ_=>cD bs=none) (λ_ h=>h) (λ_ _ h d=>h.more d) Qs (λrb=>FB rb b4 b5 x bs MsgT.zero false)) (λ_ s=>az [1,0] rfl s) (λ_ d _=>(hF).more d) (λvR HR hR=>?_);rcases hR with⟨r,⟨m,g⟩,rfl,rfl,hs⟩| ⟨_,rfl,rfl,hs⟩
 refine ap (λh9=>?_) (λh9=>?_);refine qb ?_;refine nx J4 ?_;clear J4;refine aa λ_ J5=>?_
 refine sr λ_ J6=>?_
 refine mv ?_;refine tp (nc (r:=false) rfl rfl rfl) ?_;refine mv ?_;refine tq (ii (v:=(.bool (g))) rfl Y4 rfl rfl (fD 1 rfl rfl) rfl) ?_;refine bb (λh13=>?_) (λh13=>?_);refine tq (nc (r:=false) rfl rfl rfl) ?_;refine tp (yV rfl rfl rfl) ?_;refine nx J6 ?_;clear J6;refine Ha rfl ?_;refine aS ?_;refine ac J5 ?_;clear J5;refine sr λ_ J7=>?_
 refine tp (aM (vs:=ints m.flat) rfl bg rfl ca rfl (fD 0 rfl rfl) (aI m) (bo (aI m))) ?_;refine bL (vs:=ints m.flat) (i:=2) (ab rfl) rfl rfl rfl rfl rfl (by rw[(aI m)];exact ca) (bA _) rfl rfl (by have h0:=(aI MsgT.zero);have h1:=(aI m);omega) (ct ((aI MsgT.zero).trans (aI m).symm)) rfl ?_;refine qb ?_;refine nx J7 ?_;clear J7;refine aj ?_;refine mm (H':=[]) rfl rfl rfl bg rfl ca (fD 2 rfl rfl) (aI m) (λ_ s=>ak [] rfl s) ?_;exact⟨by simp[ju, *],rfl⟩;refine tq (nc (r:=true) rfl rfl rfl) ?_;refine tp (yV rfl rfl rfl) ?_;refine nx J6 ?_;clear J6;refine nZ rfl ?_;refine sr λ_ J8=>?_
 refine tp (kF (cells:=(ints MsgT.zero.flat).toArray) rfl rfl (by as_aux_lemma=>kernel_rfl)) ?_;refine bL (vs:=ints MsgT.zero.flat) (i:=2) (ab rfl) rfl rfl rfl rfl rfl (by rw[(aI MsgT.zero)];exact ca) (bA _) rfl rfl (by have h0:=(aI MsgT.zero);have h1:=(aI MsgT.zero);omega) (ct ((aI MsgT.zero).trans (aI MsgT.zero).symm)) rfl ?_;refine qb ?_;refine nx J8 ?_;clear J8;refine aj ?_;refine ae ?_;clear J5;refine mm (H':=[]) rfl rfl rfl bg rfl ca (fD 2 rfl rfl) (aI MsgT.zero) (λ_ s=>ak [] rfl s) ?_;exact⟨by simp[ju, *],rfl⟩;refine qb ?_;refine nx J4 ?_;clear J4;refine aa λ_ J9=>?_
 refine sr λ_ J10=>?_
 refine mv ?_;refine tp (nc (r:=true) rfl rfl rfl) ?_;refine mv ?_;refine qT (b:=true) rfl rfl rfl rfl (lb rfl) ?_;refine qT (b:=true) rfl rfl rfl rfl (lb rfl) ?_;refine tp (yV rfl rfl rfl) ?_;refine nx J10 ?_;clear J10;refine nZ rfl ?_;refine sr λ_ J11=>?_
 refine tp (kF (cells:=(ints MsgT.zero.flat).toArray) rfl rfl (by as_aux_lemma=>kernel_rfl)) ?_;refine bL (vs:=ints MsgT.zero.flat) (i:=2) (ab rfl) rfl rfl rfl rfl rfl (by rw[(aI MsgT.zero)];exact ca) (bA _) rfl rfl (by have h0:=(aI MsgT.zero);have h1:=(aI MsgT.zero);omega) (ct ((aI MsgT.zero).trans (aI MsgT.zero).symm)) rfl ?_;refine qb ?_;refine nx J11 ?_;clear J11;refine aj ?_;refine ae ?_;clear J9;refine mm (H':=[]) rfl rfl rfl bg rfl ca (fD 2 rfl rfl) (aI MsgT.zero) (λ_ s=>ak [] rfl s) ?_;exact⟨by simp[ju, *],rfl⟩;refine qb ?_;refine nx J4 ?_;clear J4;refine aa λ_ J12=>?_
 refine sr λ_ J13=>?_
 refine mv ?_;refine tp (nc (r:=true) rfl rfl rfl) ?_;refine mv ?_;refine qT (b:=true) rfl rfl rfl rfl (lb rfl) ?_;refine qT (b:=true) rfl rfl rfl rfl (lb rfl) ?_;refine tp (yV rfl rfl rfl) ?_;refine nx J13 ?_;clear J13;refine nZ rfl ?_;refine sr λ_ J14=>?_
 refine tp (kF (cells:=(ints MsgT.zero.flat).toArray) rfl rfl (by as_aux_lemma=>kernel_rfl)) ?_;refine bL (vs:=ints MsgT.zero.flat) (i:=2) (ab rfl) rfl rfl rfl rfl rfl (by rw[(aI MsgT.zero)];exact ca) (bA _) rfl rfl (by have h0:=(aI MsgT.zero);have h1:=(aI MsgT.zero);omega) (ct ((aI MsgT.zero).trans (aI MsgT.zero).symm)) rfl ?_;refine qb ?_;refine nx J14 ?_;clear J14;refine aj ?_;refine ae ?_;clear J12;refine mm (H':=[]) rfl rfl rfl bg rfl ca (fD 2 rfl rfl) (aI MsgT.zero) (λ_ s=>ak [] rfl s) ?_;exact⟨by simp[ju, *],rfl⟩
theorem HT(rb mb gb:Nat)(v:Value)(bs:List UInt8)(m0:RecT)(g0:Bool):
 DT 84 #[(.pointer (some ⟨rb,0,none⟩)),(.pointer (some ⟨mb,0,none⟩)),(.pointer (some ⟨gb,0,none⟩))] (IsB v bs) [ah rb [v] 197,ah mb (ints m0.flat) 121,ah gb [(.bool (g0))] 4] (vY (λ_ H=>∃x' r a,H=ah rb [x'] 197::[ah mb (ints a.1.flat) 121,ah gb [.bool a.2] 4]∧Tail v bs x' r∧dy bs=some (a,r)) (λc H=>c=iV∧∃(x':Value) (_:Unit),H=ah rb [x'] 197::[ah mb (ints m0.flat) 121,ah gb [.bool g0] 4]∧dy bs=none)):=by
 refine BD 9 Tryz.func84 rfl rfl rfl λw0 F hF=>ad (PS ?_)
 refine CP Qy (A8 rb v bs) ID (λ_ d _=>(hF).more d) (λcP HP hP=>?_) (λvR HR hR=>?_);obtain⟨vP,rfl,rfl,hpP⟩:=hP;exact WK [0,0,0] (aR ⟨rfl,_,(),rfl,hpP⟩);obtain⟨a1,r1,v1,rfl,rfl,hp1,ht1⟩:=hR;refine P3 ?_;refine SW 1 gh bp ?_;refine S0 2 lE ?_;exact aw (WK [0,0,0] (bw rfl ⟨_,_,_,rfl,ht1,hp1⟩))
theorem vO(x:Value)(bs:List UInt8):
 DT 50 #[x] (IsB x bs) [] (RI (.tuple #[.agg (ints (io bs).1.flat).toArray, .int .i64 (io bs).2]) []):=by
 refine Leg.Does.body (vs:=[x]) (n:=18) Tryz.func50 rfl rfl rfl (λw0 F hF=>?_);refine sr λ_ J1=>?_
 refine qU (ab rfl) rfl rfl rfl I5 (λb2=>?_);change TL _ _ _ _ _ _ _ _ _ [ah b2 (ints RecT.zero.flat) 121];refine qb ?_;refine nx J1 ?_;clear J1;refine sr λ_ J2=>?_
 refine qU (ab rfl) rfl rfl rfl I5 (λb4=>?_);change TL _ _ _ _ _ _ _ _ _ [ah b4 (ints RecT.zero.flat) 121,ah b2 (ints RecT.zero.flat) 121];refine nx J2 ?_;clear J2;refine sr λ_ J3=>?_
 refine qU (ab rfl) rfl rfl rfl z4 (λb5=>?_);refine bO (i:=0) (ab rfl) rfl rfl rfl rfl rfl lE rfl rfl (lb rfl) rfl rfl ?_;refine nx J3 ?_;clear J3;refine sr λ_ J4=>?_
 refine mv ?_;refine tp (Rj rfl rfl) ?_;refine lC (ab rfl) rfl rfl rfl OH rfl (zv (bs:=bs) (C:=[ah b4 (ints RecT.zero.flat) 121,ah b5 [(.bool false)] 4]) (caps:=[(.pointer (some ⟨b4,0,none⟩)),(.pointer (some ⟨b5,0,none⟩))]) (A:=λa:RecT×Bool=>[ah b4 (ints a.1.flat) 121,ah b5 [.bool a.2] 4]) (G:=λ_:Unit=>[ah b4 (ints RecT.zero.flat) 121,ah b5 [(.bool false)] 4]) (φ:=λa r=>dy bs=some (a,r)) (ψ:=λ_=>dy bs=none) (λ_ h=>h) (λ_ _ h d=>h.more d) Qz (λrb=>HT rb b4 b5 x bs RecT.zero false)) (λ_ s=>az [1,0] rfl s) (λ_ d _=>(hF).more d) (λvR HR hR=>?_);rcases hR with⟨r,⟨m,g⟩,rfl,rfl,hs⟩| ⟨_,rfl,rfl,hs⟩
 refine ap (λh9=>?_) (λh9=>?_);refine qb ?_;refine nx J4 ?_;clear J4;refine aa λ_ J5=>?_
 refine sr λ_ J6=>?_
 refine mv ?_;refine tp (nc (r:=false) rfl rfl rfl) ?_;refine mv ?_;refine tq (ii (v:=(.bool (g))) rfl Y4 rfl rfl (fD 1 rfl rfl) rfl) ?_;refine bb (λh13=>?_) (λh13=>?_);refine tq (nc (r:=false) rfl rfl rfl) ?_;refine tp (yV rfl rfl rfl) ?_;refine nx J6 ?_;clear J6;refine Ha rfl ?_;refine aS ?_;refine ac J5 ?_;clear J5;refine sr λ_ J7=>?_
 refine tp (aM (vs:=ints m.flat) rfl eC rfl gh rfl (fD 0 rfl rfl) (bp m) (bo (bp m))) ?_;refine bL (vs:=ints m.flat) (i:=2) (ab rfl) rfl rfl rfl rfl rfl (by rw[(bp m)];exact gh) (bA _) rfl rfl (by have h0:=(bp RecT.zero);have h1:=(bp m);omega) (ct ((bp RecT.zero).trans (bp m).symm)) rfl ?_;refine qb ?_;refine nx J7 ?_;clear J7;refine aj ?_;refine mm (H':=[]) rfl rfl rfl eC rfl gh (fD 2 rfl rfl) (bp m) (λ_ s=>ak [] rfl s) ?_;exact⟨by simp[io, *],rfl⟩;refine tq (nc (r:=true) rfl rfl rfl) ?_;refine tp (yV rfl rfl rfl) ?_;refine nx J6 ?_;clear J6;refine nZ rfl ?_;refine sr λ_ J8=>?_
 refine tp (kF (cells:=(ints RecT.zero.flat).toArray) rfl rfl (by as_aux_lemma=>kernel_rfl)) ?_;refine bL (vs:=ints RecT.zero.flat) (i:=2) (ab rfl) rfl rfl rfl rfl rfl (by rw[(bp RecT.zero)];exact gh) (bA _) rfl rfl (by have h0:=(bp RecT.zero);have h1:=(bp RecT.zero);omega) (ct ((bp RecT.zero).trans (bp RecT.zero).symm)) rfl ?_;refine qb ?_;refine nx J8 ?_;clear J8;refine aj ?_;refine ae ?_;clear J5;refine mm (H':=[]) rfl rfl rfl eC rfl gh (fD 2 rfl rfl) (bp RecT.zero) (λ_ s=>ak [] rfl s) ?_;exact⟨by simp[io, *],rfl⟩;refine qb ?_;refine nx J4 ?_;clear J4;refine aa λ_ J9=>?_
 refine sr λ_ J10=>?_
 refine mv ?_;refine tp (nc (r:=true) rfl rfl rfl) ?_;refine mv ?_;refine qT (b:=true) rfl rfl rfl rfl (lb rfl) ?_;refine qT (b:=true) rfl rfl rfl rfl (lb rfl) ?_;refine tp (yV rfl rfl rfl) ?_;refine nx J10 ?_;clear J10;refine nZ rfl ?_;refine sr λ_ J11=>?_
 refine tp (kF (cells:=(ints RecT.zero.flat).toArray) rfl rfl (by as_aux_lemma=>kernel_rfl)) ?_;refine bL (vs:=ints RecT.zero.flat) (i:=2) (ab rfl) rfl rfl rfl rfl rfl (by rw[(bp RecT.zero)];exact gh) (bA _) rfl rfl (by have h0:=(bp RecT.zero);have h1:=(bp RecT.zero);omega) (ct ((bp RecT.zero).trans (bp RecT.zero).symm)) rfl ?_;refine qb ?_;refine nx J11 ?_;clear J11;refine aj ?_;refine ae ?_;clear J9;refine mm (H':=[]) rfl rfl rfl eC rfl gh (fD 2 rfl rfl) (bp RecT.zero) (λ_ s=>ak [] rfl s) ?_;exact⟨by simp[io, *],rfl⟩;refine qb ?_;refine nx J4 ?_;clear J4;refine aa λ_ J12=>?_
 refine sr λ_ J13=>?_
 refine mv ?_;refine tp (nc (r:=true) rfl rfl rfl) ?_;refine mv ?_;refine qT (b:=true) rfl rfl rfl rfl (lb rfl) ?_;refine qT (b:=true) rfl rfl rfl rfl (lb rfl) ?_;refine tp (yV rfl rfl rfl) ?_;refine nx J13 ?_;clear J13;refine nZ rfl ?_;refine sr λ_ J14=>?_
 refine tp (kF (cells:=(ints RecT.zero.flat).toArray) rfl rfl (by as_aux_lemma=>kernel_rfl)) ?_;refine bL (vs:=ints RecT.zero.flat) (i:=2) (ab rfl) rfl rfl rfl rfl rfl (by rw[(bp RecT.zero)];exact gh) (bA _) rfl rfl (by have h0:=(bp RecT.zero);have h1:=(bp RecT.zero);omega) (ct ((bp RecT.zero).trans (bp RecT.zero).symm)) rfl ?_;refine qb ?_;refine nx J14 ?_;clear J14;refine aj ?_;refine ae ?_;clear J12;refine mm (H':=[]) rfl rfl rfl eC rfl gh (fD 2 rfl rfl) (bp RecT.zero) (λ_ s=>ak [] rfl s) ?_;exact⟨by simp[io, *],rfl⟩
end Go.Proofs.YtmcjhkbcmmddgaaGreat
end

section
namespace Leg
open Go Codec Api
def WX(P:Program)(ops:Array Oper)(Q:QQ)(is:List Nat)(a:Act)(w:World):Prop:=
 ∀(b:Frame) (k:List Item) (cs:List Frame),∃e a' w',Q e a' w'∧Arrives P (lone (b.at a (.inRegion ops is::k)) cs w) b k cs e a' w'
theorem WX.nil{P:Program}{ops:Array Oper}{Q:QQ}{a:Act}{w:World}(h:Q .normal a w):WX P ops Q [] a w:=
 λ_ _ _=>⟨.normal,a,w,h, .one step_region_end⟩
theorem WX.region{P:Program}{id:Nat}{ops:Array Oper}{Q:QQ}{a:Act}{w:World}(h:WX P ops Q (List.range ops.size) a w):(Code.region id ops false).wp P Q a w:=
 λb k cs=>let ⟨e,a',w',q,r⟩:=h b k cs;⟨e,a',w',q, .of_steps (.one step_region) r⟩
section
variable {P:Program} {ops:Array Oper} {Q:QQ} {is:List Nat} {a:Act} {w:World} {i:Nat} {o:Oper}
theorem G6(b:Frame)(k:List Item)(ho:ops[i]?=some o)(a:Act)(v:Value):(b.at a (.inRegion ops (i::is)::k)).finish v=b.at (a.put o.dst v) (.inRegion ops is::k):=by rw[Frame.finish_at,ho];rfl
theorem WX.value{v:Value}{w1:World}(ho:ops[i]?=some o)(hw:Region.wanted o (yielded ops a.tmps)=true)(hr:(execOp a.eval o).run P w= .ok (.value v) w1)(h:WX P ops Q is (a.put o.dst v) w1):WX P ops Q (i::is) a w:=λb k cs=>by
 obtain⟨e,a',w',q,r⟩:=h b k cs;refine⟨e,a',w',q, .of_steps (.one (step_lone_go ?_)) r⟩;rw[stepG_op ho hw,←G6 b k ho];simp[stepG.apply,hr]
theorem WX.comm{v:Value}{w1 w2:World}{cases:Array CommCase}{blocking:Bool}{shape:CommShape}(ho:ops[i]?=some o)(hw:Region.wanted o (yielded ops a.tmps)=true)(hr:(execOp a.eval o).run P w= .ok (.comm cases blocking shape) w1)
 (hs: ∀fr cs es,stepG P true (Conc.G fr cs) w= .comm (Conc.G fr cs) cases blocking shape w1 es→step P (Conc.solo (Conc.G fr cs) w)= .next (Conc.solo (Conc.G (fr.finish v) cs) w2)) (h:WX P ops Q is (a.put o.dst v) w2):WX P ops Q (i::is) a w:=λb k cs=>by
 obtain⟨e,a',w',q,r⟩:=h b k cs;have h1:=stepG_op (P:=P) (b:=b) (k:=k) (cs:=cs) (w:=w) (rest:=is) ho hw
 have h2: ∃es,stepG P true (Conc.G (b.at a (.inRegion ops (i::is)::k)) cs) w= .comm (Conc.G (b.at a (.inRegion ops (i::is)::k)) cs) cases blocking shape w1 es:=by
  unfold Conc.G;rw[h1];simp only[stepG.apply,Sem.runT_eq,hr];exact⟨_,rfl⟩
 obtain⟨es,h2⟩:=h2;have h3:=hs _ _ _ h2;rw[G6 b k ho]at h3;exact⟨e,a',w',q, .of_steps (.one h3) r⟩
abbrev N4:= @WX.comm
end
end Leg
namespace Leg
open Go Codec Api
section
variable (P:Program) (w0:World) (F:Hl) (n:Nat)
def TX(ops:Array Oper)(Q:QQ)(is:List Nat)(D:List Deferred)(L:List (Nat×Value))(H:List HP):Prop:=∀a w,Fr n D L a→Same w0 w→Sat H F w→WX P ops Q is a w
end
section
variable {P:Program} {w0:World} {F:Hl} {n:Nat} {ops:Array Oper} {Q:QQ} {is:List Nat} {D:List Deferred} {L:List (Nat×Value)} {H:List HP} {i d:Nat} {o:Oper}
theorem TC.regionX{id:Nat}{l:List Oper}(h:TX P w0 F n l.toArray Q (List.range l.length) D L H):TC P w0 F n (.region id l.toArray false) Q D L H:=
 λa w f s m=>WX.region (by simpa using h a w f s m)
abbrev yQ:= @TC.regionX
theorem TX.nil(h:TE w0 F n Q .normal D L H):TX P w0 F n ops Q [] D L H:=λa w f s m=>WX.nil (h a w f s m)
abbrev Mw:= @TX.nil
theorem TX.v{v:Value}(ho:ops[i]?=some o)(hw:Want n D ops o L)(hd:o.dst=some d)(hn:Nat.blt d n=true)(h1:PV P n D L (Sat H F) o v)(h:TX P w0 F n ops Q is D ((d,v)::L) H):TX P w0 F n ops Q (i::is) D L H:=λa w f s m=>by
 refine WX.value ho (hw a f) (h1 a w f m) ?_;rw[hd];exact h _ _ (f.put (lb hn) _) s m
abbrev tU:= @TX.v
end
end Leg
namespace Leg
open Go Codec Api Go.Conc
section
variable {P:Program} {w0:World} {F:Hl} {n:Nat} {ops:Array Oper} {Q:QQ} {is:List Nat} {D:List Deferred} {L:List (Nat×Value)} {H:List HP} {i d:Nat} {o:Oper}
theorem Sat.chan{w:World}{c cap s r:Nat}{vs:List Value}(m:Sat H F w)(k:Nat)(hk:Nat.blt k H.length=true)(e:H.getD k (λ_=>True)=ez c cap vs s r):w.heap[c]?=some (.chan cap vs.toArray false s r false):=by
 obtain⟨h,d,e',x⟩:=m;obtain⟨h1,h2,d',rfl,a,_⟩:=fm k (lb hk) x;rw[e]at a
 have:hp w c=some (.chan cap vs.toArray false s r false):=by
  rw[e',jL];exact iA (by rw[show h1=sg c _ from a];simp[sg])
 exact this
theorem Sat.setChan{w:World}{c cap s r s' r':Nat}{vs vs':List Value}(m:Sat H F w)(k:Nat)(hk:Nat.blt k H.length=true)(e:H.getD k (λ_=>True)=ez c cap vs s r):Sat (H.set k (ez c cap vs' s' r')) F (w.setChan c cap vs'.toArray false s' r' false):=by
 have hc:=m.chan k hk e
 have hlt:c<w.heap.size:=by
  by_cases q:c<w.heap.size
  · exact q
  · rw[Array.getElem?_eq_none (by omega)]at hc;cases hc
 exact m.write k (lb hk) e (heap_setChan w c cap vs'.toArray false s' r' false hlt) (λj hj=>by simp[World.setChan,Array.getElem?_setIfInBounds,Ne.symm hj])
theorem Same.setChan{w w':World}(s:Same w w')(c cap:Nat)(b:Array Value)(cl:Bool)(x y:Nat)(t:Bool):Same w (w'.setChan c cap b cl x y t):=s.trans ⟨rfl,rfl,rfl,by simp[World.setChan]⟩
theorem tc{x:Operand}{so:Option Operand}{e:TypeId}{z:Value}{blocking:Bool}(ho:o.op= .select #[⟨x,so,e⟩] blocking)(hz:(P.info? e).map (·.zero)=some (some z))(ev:Operand→Value)(w:World):
 (execOp ev o).run P w= .ok (.comm #[{chan:=ev x,send:=so.map ev,zero:=z}] blocking .select) w:=by
 simp[execOp,ho,Sem.run_bind,oN hz]
theorem TX.sendRoom{x y:Operand}{e c cap s r:Nat}{z v:Value}{vs:List Value}(k:Nat)(ho:ops[i]?=some o)(hw:Want n D ops o L)(hop:o.op= .select #[⟨x,some y,e⟩] false)(hd:o.dst=some d)(hn:Nat.blt d n=true)(hz:(P.info? e).map (·.zero)=some (some z))
 (hx:cK L x=some (.chan (some c))) (hy:cK L y=some v) (hk:Nat.blt k H.length=true) (hH:H.getD k (λ_=>True)=ez c cap vs s r) (hroom:vs.length<cap)
 (h:TX P w0 F n ops Q is D ((d, .tuple #[.int .i64 0, .bool false])::L) (H.set k (ez c cap (vs++[v]) (s+1) r))):TX P w0 F n ops Q (i::is) D L H:=λa w f sm m=>by
 have hc:=m.chan k hk hH;have hr:=tc (P:=P) hop hz a.eval w;rw[f.eval hx]at hr;simp only[Option.map_some,f.eval hy]at hr;refine N4 (v:= .tuple #[.int .i64 0, .bool false]) (w2:=w.setChan c cap (vs++[v]).toArray false (s+1) r false) ho (hw a f) hr (λfr cs es hs=>?_) ?_
 · have:=step_lone_sel_send_room (k:=0) hs rfl (λj c' hj hjc=>by cases j with|zero=>exact absurd rfl hj|succ j=>simp at hjc) hc (by simpa using hroom)
   rw[this];simp[commResult,goInt]
 · rw[hd]
   exact h _ _ (f.put (lb hn) _) (sm.setChan ..) (m.setChan k hk hH)
theorem TX.sendFull{x y:Operand}{e c cap s r:Nat}{z v:Value}{vs:List Value}(k:Nat)(ho:ops[i]?=some o)(hw:Want n D ops o L)(hop:o.op= .select #[⟨x,some y,e⟩] false)(hd:o.dst=some d)(hn:Nat.blt d n=true)(hz:(P.info? e).map (·.zero)=some (some z))
 (hx:cK L x=some (.chan (some c))) (hy:cK L y=some v) (hk:Nat.blt k H.length=true) (hH:H.getD k (λ_=>True)=ez c cap vs s r) (hfull:cap≤vs.length)
 (h:TX P w0 F n ops Q is D ((d, .tuple #[.int .i64 (-1), .bool false])::L) H):TX P w0 F n ops Q (i::is) D L H:=λa w f sm m=>by
 have hc:=m.chan k hk hH;have hr:=tc (P:=P) hop hz a.eval w;rw[f.eval hx]at hr;simp only[Option.map_some,f.eval hy]at hr;refine N4 (v:= .tuple #[.int .i64 (-1), .bool false]) (w2:=w) ho (hw a f) hr (λfr cs es hs=>?_) ?_
 · have:=step_lone_sel_default hs (λcc hcc=>by
    obtain rfl:cc=scase c v z:=by simpa [scase]using hcc
    exact noWay_send hc (by simpa using hfull))
   rw[this];simp[commResult,goInt]
 · rw[hd]
   exact h _ _ (f.put (lb hn) _) sm m
theorem TX.recvBuf{x:Operand}{e c cap s r:Nat}{z v:Value}{vs:List Value}(k:Nat)(ho:ops[i]?=some o)(hw:Want n D ops o L)(hop:o.op= .select #[⟨x,none,e⟩] false)(hd:o.dst=some d)(hn:Nat.blt d n=true)(hz:(P.info? e).map (·.zero)=some (some z))
 (hx:cK L x=some (.chan (some c))) (hk:Nat.blt k H.length=true) (hH:H.getD k (λ_=>True)=ez c cap (v::vs) s r)
 (h:TX P w0 F n ops Q is D ((d, .tuple #[.int .i64 0, .bool true,v])::L) (H.set k (ez c cap vs s (r+1)))):TX P w0 F n ops Q (i::is) D L H:=λa w f sm m=>by
 have hc:=m.chan k hk hH;have hr:=tc (P:=P) hop hz a.eval w;rw[f.eval hx]at hr;simp only[Option.map_none]at hr;refine N4 (v:= .tuple #[.int .i64 0, .bool true,v]) (w2:=w.setChan c cap vs.toArray false s (r+1) false) ho (hw a f) hr (λfr cs es hs=>?_) ?_
 · have:=step_lone_sel_recv_buf (k:=0) hs rfl (λj c' hj hjc=>by cases j with|zero=>exact absurd rfl hj|succ j=>simp at hjc) hc (by simp)
   rw[this];simp[commResult,goInt]
 · rw[hd]
   exact h _ _ (f.put (lb hn) _) (sm.setChan ..) (m.setChan k hk hH)
theorem TX.recvNone{x:Operand}{e c cap s r:Nat}{z:Value}(k:Nat)(ho:ops[i]?=some o)(hw:Want n D ops o L)(hop:o.op= .select #[⟨x,none,e⟩] false)(hd:o.dst=some d)(hn:Nat.blt d n=true)(hz:(P.info? e).map (·.zero)=some (some z))
 (hx:cK L x=some (.chan (some c))) (hk:Nat.blt k H.length=true) (hH:H.getD k (λ_=>True)=ez c cap [] s r)
 (h:TX P w0 F n ops Q is D ((d, .tuple #[.int .i64 (-1), .bool false,z])::L) H):TX P w0 F n ops Q (i::is) D L H:=λa w f sm m=>by
 have hc:=m.chan k hk hH;have hr:=tc (P:=P) hop hz a.eval w;rw[f.eval hx]at hr;simp only[Option.map_none]at hr;refine N4 (v:= .tuple #[.int .i64 (-1), .bool false,z]) (w2:=w) ho (hw a f) hr (λfr cs es hs=>?_) ?_
 · have:=step_lone_sel_default hs (λcc hcc=>by
    obtain rfl:cc=rcase c z:=by simpa [rcase]using hcc
    exact noWay_recv hc)
   rw[this];simp[commResult,goInt]
 · rw[hd]
   exact h _ _ (f.put (lb hn) _) sm m
end
end Leg
namespace Leg
open Go Codec Api Go.Conc
section
variable {P:Program} {w0:World} {F:Hl} {n:Nat} {ops:Array Oper} {Q:QQ} {D:List Deferred} {L:List (Nat×Value)} {H:List HP} {d:Nat} {o:Oper}
theorem PV.lenChan{t e:TypeId}{dir:ChanDir}{x:Operand}{c cap s r:Nat}{vs:List Value}(k:Nat)(ho:o.op= .call {callee:= .builtin .len,args:=#[x],argTypes:=#[t]})(ht:P.underlying t=some (.chan dir e))(hx:cK L x=some (.chan (some c)))
 (hk:Nat.blt k H.length=true) (hH:H.getD k (λ_=>True)=ez c cap vs s r):PV P n D L (Sat H F) o (.int .i64 ((vs.length:Nat):Int)):=λa w f m=>by
 have hl:=Conc.run_len_chan (P:=P) (w:=w) (dir:=dir) (e:=e) t o.type ht (m.chan k hk hH);simp[execOp,ho,resolve,f.eval hx,invoke,builtin,hl,goInt]
theorem PV.capChan{t e:TypeId}{dir:ChanDir}{x:Operand}{c cap s r:Nat}{vs:List Value}(k:Nat)(ho:o.op= .call {callee:= .builtin .cap,args:=#[x],argTypes:=#[t]})(ht:P.underlying t=some (.chan dir e))(hx:cK L x=some (.chan (some c)))
 (hk:Nat.blt k H.length=true) (hH:H.getD k (λ_=>True)=ez c cap vs s r):PV P n D L (Sat H F) o (.int .i64 ((cap:Nat):Int)):=λa w f m=>by
 have hl:=Conc.run_cap_chan (P:=P) (w:=w) (dir:=dir) (e:=e) t o.type ht (m.chan k hk hH);simp[execOp,ho,resolve,f.eval hx,invoke,builtin,hl,goInt]
end
abbrev iq(T U b:Nat)(ls:List (List UInt8)):HP:=pack (λq:Nat×List Value×Nat×Nat=>[ah b [.chan (some q.1)] T,ez q.1 8 q.2.1 q.2.2.1 q.2.2.2,eQ q.2.1 ls U])
def rJ(T U:Nat)(bs:List Nat)(W:List (List (List UInt8)))(k:Nat):HP:=if k%6=0 then(λ_=>True)else iq T U (bs.getD k 0) (W.getD k [])
def p5(T U:Nat)(bs:List Nat)(W:List (List (List UInt8))):List HP:=(List.range 25).map (rJ T U bs W)
def e9(T U:Nat)(bs:List Nat)(W:List (List (List UInt8))):HP:=bz (p5 T U bs W)
def fT(T U:Nat)(bs:List Nat)(W:List (List (List UInt8)))(k:Nat):HP:=bz ((p5 T U bs W).eraseIdx k)
def dM(bs:List Nat):List Value:=(List.range 25).map λk=>if k%6=0 then .pointer none else .pointer (some ⟨bs.getD k 0,0,none⟩)
theorem Dl(bs:List Nat){k:Nat}(h:k<25):(dM bs)[k]?=some (if k%6=0 then .pointer none else .pointer (some ⟨bs.getD k 0,0,none⟩)):=by unfold dM;simp[h]
theorem zA(bs:List Nat):(dM bs).length=25:=by simp[dM]
abbrev eB(NT T U n:Nat)(W:List (List (List UInt8))):HP:=pack (λbs:List Nat=>[ah n (dM bs) NT,e9 T U bs W])
section
variable {T U:Nat} {bs:List Nat} {W:List (List (List UInt8))} {k:Nat} {H:List HP} {h:Hl}
theorem Ek:(p5 T U bs W).length=25:=by simp[p5]
theorem xX(hk:k<25)(s:bz (e9 T U bs W::H) h):bz (rJ T U bs W k::fT T U bs W k::H) h:=by
 have s1:bz (p5 T U bs W++H) h:=(cb _ _).2 s;have e:(p5 T U bs W).getD k (λ_=>True)=rJ T U bs W k:=by simp[p5,List.getD_eq_getElem?_getD,hk]
 have p:=nE (λ_=>True) (p5 T U bs W) k (by rw[Ek];exact hk);rw[e]at p;have s2:=eH (p.append_right H) s1;exact cF s2 (λ_ a=>a) λ_ b=>(cb _ _).1 b
theorem vD{W':List (List (List UInt8))}(hk:k<25)(hW: ∀j,j≠k→W'.getD j []=W.getD j [])(s:bz (rJ T U bs W' k::fT T U bs W k::H) h):bz (e9 T U bs W'::H) h:=by
 have e0:(p5 T U bs W').eraseIdx k=(p5 T U bs W).eraseIdx k:=by
  refine List.ext_getElem? λj=>?_
  rw[List.getElem?_eraseIdx,List.getElem?_eraseIdx]
  have: ∀i,i≠k→(p5 T U bs W')[i]?=(p5 T U bs W)[i]?:=λi hi=>by
   simp only[p5,List.getElem?_map];cases q:(List.range 25)[i]?with
   |none=>rfl
   |some m=>
    have hm:m=i:=by
     by_cases hi25:i<25
     · simp[hi25]at q;exact q.symm
     · simp[hi25]at q
    subst hm;simp only[Option.map_some,rJ,hW m hi]
  split
  · exact this j (by omega)
  · exact this (j+1) (by omega)
 have e:(p5 T U bs W').getD k (λ_=>True)=rJ T U bs W' k:=by simp[p5,List.getD_eq_getElem?_getD,hk]
 have p:=nE (λ_=>True) (p5 T U bs W') k (by rw[Ek];exact hk);rw[e,e0]at p;have s2:bz ((rJ T U bs W' k::(p5 T U bs W).eraseIdx k)++H) h:=cF s (λ_ a=>a) λ_ b=>(cb _ _).2 b
 exact(cb _ _).1 (eH (p.symm.append_right H) s2)
end
def bt(from' to':Int):Nat:=from'.toNat*5+to'.toNat
def gP(w:Int):Bool:=decide (0≤w∧w<5)
theorem AF{f t:Int}(hf:gP f=true)(ht:gP t=true):bt f t<25:=by
 have h1:0≤f∧f<5:=of_decide_eq_true hf;have h2:0≤t∧t<5:=of_decide_eq_true ht;unfold bt;omega
theorem ug{f t:Int}(hf:gP f=true)(ht:gP t=true):bt f t%6=0↔f=t:=by
 have h1:0≤f∧f<5:=of_decide_eq_true hf;have h2:0≤t∧t<5:=of_decide_eq_true ht;unfold bt;omega
end Leg
end

section
namespace Wal
open Go Leg Codec Api Dsk
end Wal
namespace Leg
open Go Codec Api
end Leg
namespace Leg
open Go Codec Api
theorem rf{us:List Value}{ls:List (List UInt8)}{e:Nat}{H:List HP}{F:Hl}{w:World}(i:Nat)(hi:Nat.blt i H.length=true)(hH:H.getD i (λ_=>True)=eQ us ls e)(m:Sat H F w):us.length=ls.length∧∀u∈us,u.oneCell'=true:=by
 obtain⟨h,d,e',x⟩:=m;obtain⟨h1,h2,d',rfl,a,_⟩:=fm i (lb hi) x;rw[hH]at a;refine⟨a.1,λu hu=>?_⟩;obtain⟨j,hj,rfl⟩:=gJ hu;obtain⟨u,e1,k1,k2,dk,rfl,a3⟩:=xW us ls e _ a.1 a.2 j (by rw[←a.1];exact hj);rw[List.getElem?_eq_getElem hj]at e1;injection e1 with e1
 rw[e1];exact(Cq a3 (λb o q=>q):IsB u _ k1).one
section
variable {P:Program} {n:Nat} {D:List Deferred} {L:List (Nat×Value)} {S:World→Prop} {o:Oper}
end
end Leg
namespace Wal
open Go Leg Codec Api Dsk
end Wal
namespace Leg
open Go Codec Api
section
variable {P:Program} {n:Nat} {D:List Deferred} {L:List (Nat×Value)} {S:World→Prop} {o:Oper}
end
theorem IP{us:List Value}{ls:List (List UInt8)}{e:Nat}{u:Value}{l:List UInt8}{H:List HP}{h:Hl}(s:bz (eQ (u::us) (l::ls) e::H) h):bz (ic u l e::eQ us ls e::H) h:=by
 obtain⟨h1,h2,d,rfl,⟨hl,a⟩,b⟩:=s;obtain⟨g1,g2,d',rfl,a1,a2⟩:=a;exact nA.1 ⟨_,h2,d,rfl,⟨g1,g2,d',rfl,a1,⟨by simpa using hl,a2⟩⟩,b⟩
def Be(ls:List (List UInt8))(bs:List UInt8):List (List UInt8):=if ls.length<8 then ls++[bs]else ls
def dv(f t:Int):Bool:=gP f&&gP t&& !decide (f=t)
def pw(W:List (List (List UInt8)))(f t:Int)(bs:List UInt8):List (List (List UInt8)):=if dv f t then W.set (bt f t) (Be (W.getD (bt f t) []) bs)else W
theorem jb{f t:Int}(h:dv f t=true):bt f t<25∧¬bt f t%6=0:=by
 unfold dv at h;rw[an,an]at h;refine⟨AF h.1.1 h.1.2,λq=>?_⟩;have:=(ug h.1.1 h.1.2).1 q;rw[this]at h;simp at h
theorem rh{T U:Nat}{bs:List Nat}{W:List (List (List UInt8))}{k:Nat}(h: ¬k%6=0):rJ T U bs W k=iq T U (bs.getD k 0) (W.getD k []):=by unfold rJ;rw[if_neg h]
theorem oE{T U:Nat}{bs:List Nat}{W:List (List (List UInt8))}{f t:Int}(hv:dv f t=true){H:List HP}{h:Hl}(s:bz (e9 T U bs W::H) h):bz (iq T U (bs.getD (bt f t) 0) (W.getD (bt f t) [])::fT T U bs W (bt f t)::H) h:=by
 obtain⟨h1,h2⟩:=jb hv;have:=xX h1 s
 rwa [rh h2]at this
theorem ub{T U:Nat}{bs:List Nat}{W:List (List (List UInt8))}{f t:Int}{ls:List (List UInt8)}(hv:dv f t=true)(hW:W.length=25){H:List HP}{h:Hl}(s:bz (iq T U (bs.getD (bt f t) 0) ls::fT T U bs W (bt f t)::H) h):bz (e9 T U bs (W.set (bt f t) ls)::H) h:=by
 obtain⟨h1,h2⟩:=jb hv;refine vD (W:=W) h1 (λj hj=>?_) ?_
 · rw[List.getD_eq_getElem?_getD,List.getD_eq_getElem?_getD,List.getElem?_set_ne (λe=>hj e.symm)]
 · rw[rh h2,show(W.set (bt f t) ls).getD (bt f t) []=ls by rw[List.getD_eq_getElem?_getD,List.getElem?_set_self (by omega)];rfl]
   exact s
end Leg
namespace Leg
open Go Codec Api
def b8(w:Int):UInt8:=Wal.r8 w
theorem wq(w:Int):IntKind.u8.wrap w=(((b8 w).toNat:Nat):Int):=Wal.r8_wrap w
end Leg
end

section
namespace Go.Proofs.YtmcjhkbcmmddgaaGreat
open Go Leg Codec Api Dsk Wal
theorem tQ(b c s r:Nat)(us:List Value)(ls:List (List UInt8)):
 DT 57 #[(.pointer (some ⟨b,0,none⟩))] T0 [ah b [(.chan (some c))] 160,ez c 8 (us) (s) (r),eQ (us) (ls) 5] (RI (.int .i64 ((ls.length:Nat):Int)) [ah b [(.chan (some c))] 160,ez c 8 (us) (s) (r),eQ (us) (ls) 5]):=by
 refine BD 8 Tryz.func57 rfl rfl rfl λw0 F hF=>sr λ_ J1=>PS ?_
 refine nx J1 (sr λ_ J2=>yP (p:=us.length=ls.length) (λw m=>(rf 2 rfl rfl m).1) (λhul=>P2 ?_));refine FA 0 Eo va ?_;refine LA 0 vV ?_;refine tp (PV.lenChan 1 rfl vV rfl rfl rfl) ?_;refine PS ?_;refine nx J2 (aj (WK [0,0,0] (av rfl rfl ?_)));exact⟨by rw[hul],rfl⟩
theorem jQ(b:Nat)(ls:List (List UInt8)):DT 57 #[.pointer (some ⟨b,0,none⟩)] T0 [iq 160 5 b ls] (RI (.int .i64 ((ls.length:Nat):Int)) [iq 160 5 b ls]):=
 Leg.Does.pack (B:=[]) λq=>Leg.Does.fold (tQ b q.1 q.2.2.1 q.2.2.2 q.2.1 ls) λe H hp=>by
  cases e with
  |returned v=>
   obtain⟨rfl,rfl⟩:=hp;exact⟨_,λ_ s=>bn (p:=λq:Nat×List Value×Nat×Nat=>[ah b [.chan (some q.1)] 160,ez q.1 8 q.2.1 q.2.2.1 q.2.2.2,eQ q.2.1 ls 5]) (H:=[]) q s,rfl,rfl⟩
  |panicked c=>exact hp.elim
  |outgrown=>exact hp.elim
theorem BQ(b c s r:Nat)(us:List Value)(ls:List (List UInt8))(x:Value)(bs:List UInt8)(hb:bs.length≤1000000):
 DT 93 #[(.pointer (some ⟨b,0,none⟩)),x] (IsW x bs) [ah b [(.chan (some c))] 160,ez c 8 (us) (s) (r),eQ (us) (ls) 5] (dH (λv H=>(ls.length<8∧v= .bool true∧∃u,H=[ah b [(.chan (some c))] 160,ez c 8 (us++[u]) (s+1) r,eQ us ls 5,dZ u bs 5])∨(¬ls.length<8∧v= .bool false∧H=[ah b [(.chan (some c))] 160,ez c 8 (us) (s) (r),eQ (us) (ls) 5]))):=by
 refine Leg.Does.body (vs:=[(.pointer (some ⟨b,0,none⟩)),x]) (n:=15) Tryz.func93 rfl rfl rfl (λw0 F hF=>?_);refine sr λ_ J1=>?_
 refine qb ?_;refine nx J1 ?_;refine aa λ_ J2=>?_
 refine sr λ_ J3=>?_
 refine yP (p:=us.length=ls.length) (λw m=>(rf 2 rfl rfl m).1) (λhul=>?_);refine mv ?_;refine tp (gR rfl rfl) ?_;refine tp (bc (r:=0) rfl Eo rfl va rfl rfl) ?_;refine tp (ii (v:=(.chan (some c))) rfl vV rfl rfl (fD 0 rfl rfl) rfl) ?_;refine nx J3 ?_;refine ad ?_;refine Er (ab rfl) rfl rfl rfl ia lT (λv9=>?_);change TL _ _ _ _ _ _ _ _ _ [dZ v9 ([]) 5,ah b [(.chan (some c))] 160,ez c 8 (us) (s) (r),eQ (us) (ls) 5];refine mv ?_;refine cL (k:=0) (news:=ek (bs)) (nn':=(bs:List UInt8).length) (xs':=ek (bs)) (ab rfl) rfl rfl rfl ia z0 rfl rfl rfl rfl rfl rfl (λ_ _=>hF.src (λ_ h=>fE h)) (fl _) (by simp only[maxLen,aB];omega) (by simp only[aB];omega) (by simp) (aQ _) (λv11 ov11=>?_);change TL _ _ _ _ _ _ _ _ _ [dZ v11 (bs) 5,ah b [(.chan (some c))] 160,ez c 8 (us) (s) (r),eQ (us) (ls) 5];refine nx J2 ?_;refine aa λ_ J4=>?_
 refine yQ ?_;change TX _ _ _ _ _ _ [0,1,2] _ _ _
 by_cases hroom:us.length<8
 refine TX.sendRoom 2 rfl (ab rfl) rfl rfl rfl N1 rfl rfl rfl rfl hroom ?_;change TX _ _ _ _ _ _ _ _ _ [dZ v11 (bs) 5,ah b [(.chan (some c))] 160,ez c 8 (us++[v11]) (s+1) (r),eQ (us) (ls) 5];refine tU rfl (ab rfl) rfl rfl (iy (vs:=[(.int .i64 0),(.bool false)]) rfl rfl rfl) ?_;refine tU rfl (ab rfl) rfl rfl (PF rfl rfl rfl) ?_;refine Mw ?_;refine ac J4 ?_;refine aq ?_;refine nZ rfl ?_;refine sr λ_ J5=>?_
 refine qb ?_;refine nx J5 ?_;refine aj ?_;refine aJ ?_;refine aF (dV _) (λ_ s=>ak [1,1,1,0] rfl s) ?_;refine av rfl rfl ?_;exact Or.inl ⟨by omega,rfl,_,rfl⟩;refine TX.sendFull 2 rfl (ab rfl) rfl rfl rfl N1 rfl rfl rfl rfl (by omega) ?_;refine tU rfl (ab rfl) rfl rfl (iy (vs:=[(.int .i64 (-1)),(.bool false)]) rfl rfl rfl) ?_;refine tU rfl (ab rfl) rfl rfl (PF rfl rfl rfl) ?_;refine Mw ?_;refine ac J4 ?_;refine aq ?_;refine Ha rfl ?_;refine sr λ_ J6=>?_
 refine qb ?_;refine nx J6 ?_;refine aj ?_;refine aJ ?_;refine aF (dV _) (λ_ s=>ak [1,1,1] rfl s) ?_;refine av rfl rfl ?_;exact Or.inr ⟨by omega,rfl,rfl⟩
theorem vF(b:Nat)(ls:List (List UInt8))(x:Value)(bs:List UInt8)(hb:bs.length≤1000000):DT 93 #[.pointer (some ⟨b,0,none⟩),x] (IsW x bs) [iq 160 5 b ls] (RI (.bool (decide (ls.length<8))) [iq 160 5 b (Be ls bs)]):=
 Leg.Does.pack (B:=[]) λq=>Leg.Does.fold (BQ b q.1 q.2.2.1 q.2.2.2 q.2.1 ls x bs hb) λe H hp=>by
  cases e with
  |returned v=>
   unfold Be;rcases hp with⟨h8,rfl,u,rfl⟩| ⟨h8,rfl,rfl⟩
   · refine⟨[iq 160 5 b (ls++[bs])],λ_ s=>?_,by rw[decide_eq_true h8],by rw[if_pos h8]⟩
     have s1:=AZ 3 rfl rfl s;have s2:=az [2,2] rfl s1;have s3:=uX s2;exact bn (p:=λq:Nat×List Value×Nat×Nat=>[ah b [.chan (some q.1)] 160,ez q.1 8 q.2.1 q.2.2.1 q.2.2.2,eQ q.2.1 (ls++[bs]) 5]) (H:=[]) (q.1,q.2.1++[u],q.2.2.1+1,q.2.2.2) (az [1,1,0] rfl s3)
   · exact⟨[iq 160 5 b ls],λ_ s=>bn (p:=λq:Nat×List Value×Nat×Nat=>[ah b [.chan (some q.1)] 160,ez q.1 8 q.2.1 q.2.2.1 q.2.2.2,eQ q.2.1 ls 5]) (H:=[]) q s,by rw[decide_eq_false h8],by rw[if_neg h8]⟩
  |panicked c=>exact hp.elim
  |outgrown=>exact hp.elim
theorem yL(b c s r:Nat)(us:List Value)(ls:List (List UInt8)):
 DT 94 #[(.pointer (some ⟨b,0,none⟩))] T0 [ah b [(.chan (some c))] 160,ez c 8 (us) (s) (r),eQ (us) (ls) 5] (dH (λv H=>(ls=[]∧v= .tuple #[.slice none 0 0, .bool false]∧H=[ah b [(.chan (some c))] 160,ez c 8 [] s r,eQ [] ls 5])∨(∃u us' f ls',ls=f::ls'∧v= .tuple #[u, .bool true]∧H=[ah b [(.chan (some c))] 160,ez c 8 us' s (r+1),eQ (u::us') (f::ls') 5]))):=by
 refine BD 14 Tryz.func94 rfl rfl rfl λw0 F hF=>sr λ_ J1=>P2 ?_
 refine nx J1 (sr λ_ J2=>yP (p:=us.length=ls.length) (λw m=>(rf 2 rfl rfl m).1) (λhul=>P2 ?_));refine FA 0 Eo va ?_;refine LA 0 vV ?_;refine nx J2 (aa λ_ J3=>yQ ?_);rcases us with _| ⟨u,us⟩
 refine TX.recvNone 1 rfl (ab rfl) rfl rfl rfl N1 rfl rfl rfl (tU rfl (ab rfl) rfl rfl (iy (vs:=[(.int .i64 (-1)),(.bool false),(.slice none 0 0)]) rfl rfl rfl) (tU rfl (ab rfl) rfl rfl (PF rfl rfl rfl) (Mw (ac J3 (aq (CN (sr λ_ J4=>P2 ?_)))))));exact nx J4 (aj (aJ (WK [0,0,0] (jo rfl rfl rfl (Or.inl ⟨List.eq_nil_of_length_eq_zero hul.symm,rfl,rfl⟩)))));rcases ls with _| ⟨f,ls⟩
 · cases hul
 refine TX.recvBuf 1 rfl (ab rfl) rfl rfl rfl N1 rfl rfl rfl (tU rfl (ab rfl) rfl rfl (iy (vs:=[(.int .i64 0),(.bool true),u]) rfl rfl rfl) (tU rfl (ab rfl) rfl rfl (PF rfl rfl rfl) (Mw (ac J3 (aq (CY (sr λ_ J5=>P2 ?_)))))));refine nx J5 (sr λ_ J6=>P3 ?_);exact nx J6 (aj (aJ (WK [0,0,0] (jo rfl rfl rfl (Or.inr ⟨u,us,f,ls,rfl,rfl,rfl⟩)))))
theorem tP(b:Nat)(ls:List (List UInt8)):DT 94 #[.pointer (some ⟨b,0,none⟩)] T0 [iq 160 5 b ls] (dH (λv H=>(ls=[]∧v= .tuple #[.slice none 0 0, .bool false]∧H=[iq 160 5 b []])∨(∃u f ls',ls=f::ls'∧v= .tuple #[u, .bool true]∧H=[iq 160 5 b ls',ic u f 5]))):=
 Leg.Does.pack (B:=[]) λq=>Leg.Does.fold (yL b q.1 q.2.2.1 q.2.2.2 q.2.1 ls) λe H hp=>by
  cases e with
  |returned v=>
   rcases hp with⟨rfl,rfl,rfl⟩| ⟨u,us',f,ls',rfl,rfl,rfl⟩
   · exact⟨[iq 160 5 b []],λ_ s=>bn (p:=λq:Nat×List Value×Nat×Nat=>[ah b [.chan (some q.1)] 160,ez q.1 8 q.2.1 q.2.2.1 q.2.2.2,eQ q.2.1 [] 5]) (H:=[]) (q.1,[],q.2.2.1,q.2.2.2) s,Or.inl ⟨rfl,rfl,rfl⟩⟩
   · refine⟨[iq 160 5 b ls',ic u f 5],λ_ s=>?_,Or.inr ⟨u,f,ls',rfl,rfl,rfl⟩⟩
     have s1:=az [2] rfl s;have s2:=IP s1;exact bn (p:=λq:Nat×List Value×Nat×Nat=>[ah b [.chan (some q.1)] 160,ez q.1 8 q.2.1 q.2.2.1 q.2.2.2,eQ q.2.1 ls' 5]) (H:=[ic u f 5]) (q.1,us',q.2.2.1,q.2.2.2+1) (az [2,2,1,0] rfl s2)
  |panicked c=>exact hp.elim
  |outgrown=>exact hp.elim
theorem BR:
 DT 47 #[(.int .i64 8)] T0 [] (dH (λv H=>∃b c,v= .pointer (some ⟨b,0,none⟩)∧H=[ah b [(.chan (some c))] 160,ez c 8 [] 0 0])):=by
 refine BD 9 Tryz.func47 rfl rfl rfl λw0 F hF=>sr λ_ J1=>PS ?_
 refine nx J1 (sr λ_ J2=>PS ?_);refine tp (Ri (v':=(.int .i64 8)) (yW rfl rfl rfl) rfl) ?_;refine tp (Ri (v':=(.int .i64 8)) (PV.minI rfl rfl rfl) rfl) ?_;refine TL.makeChan (k:=8) (bytes:=24) (ab rfl) rfl rfl rfl vV (by kernel_rfl) rfl (by omega) (by omega) (λc6=>BV #[(.chan (some c6))] ?_);refine XB λb8=>?_
 refine PS ?_;exact nx J2 (aj (WK [0,0] (av rfl rfl ⟨b8,c6,rfl,rfl⟩)))
theorem Ej:DT 47 #[.int .i64 8] T0 [] (dH (λv H=>∃b,v= .pointer (some ⟨b,0,none⟩)∧H=[iq 160 5 b []])):=
 Leg.Does.fold BR λe H hp=>by
  cases e with
  |returned v=>
   obtain⟨b,c,rfl,rfl⟩:=hp;exact⟨[iq 160 5 b []],λ_ s=>bn (p:=λq:Nat×List Value×Nat×Nat=>[ah b [.chan (some q.1)] 160,ez q.1 8 q.2.1 q.2.2.1 q.2.2.2,eQ q.2.1 [] 5]) (H:=[]) (c,[],0,0) (az [1,1,0] rfl (At s)),b,rfl,rfl⟩
  |panicked c=>exact hp.elim
  |outgrown=>exact hp.elim
theorem pR(w:Int):
 DT 92 #[(.int .i64 (w))] T0 [] (RI (.bool (gP w)) []):=by
 refine BD 9 Tryz.func92 rfl rfl rfl λw0 F hF=>sr λ_ J1=>PS ?_
 refine nx J1 (sr λ_ J2=>P2 ?_);refine ap ?_ ?_<;>intro h4
 iterate 5 refine PS ?_
 refine nx J2 (aj (WK [] (av rfl rfl ?_)));exact⟨congrArg Value.bool (by unfold gP;simp only[decide_eq_decide];omega),rfl⟩;refine PS ?_;refine UF ?_;refine UF ?_;refine P2 ?_;refine nx J2 (aj (WK [] (av rfl rfl ?_)));exact⟨congrArg Value.bool (by unfold gP;symm;exact decide_eq_false (by omega)),rfl⟩
theorem nl(n:Nat)(bs:List Nat)(from' to':Int):
 DT 56 #[(.pointer (some ⟨n,0,none⟩)),(.int .i64 (from')),(.int .i64 (to'))] T0 [ah n (dM bs) 110] (dH (λv H=>((dv from' to'=true∧v= .pointer (some ⟨(bs.getD (bt from' to') 0),0,none⟩))∨(dv from' to'=false∧v= .pointer none))∧H=[ah n (dM bs) 110])):=by
 refine BD 23 Tryz.func56 rfl rfl rfl λw0 F hF=>sr λ_ J1=>PS ?_
 refine nx J1 (aa λ_ J2=>sr λ_ J3=>PS ?_);refine CE OE (pR from') ID ?_;refine bb ?_ ?_<;>intro h8;have hf:0≤from'∧from'<5:=of_decide_eq_true h8
 refine PS ?_;refine P2 ?_;refine CE OE (pR to') ID ?_;refine bb ?_ ?_<;>intro h12;have ht:0≤to'∧to'<5:=of_decide_eq_true h12;refine PS ?_;refine PS ?_;refine nx J3 (CN (qx J2 (sr λ_ J4=>P4 ?_)));refine FA 0 Tryz.underlying110 Gk ?_;refine IX (((from').toNat)*5) Mu Cn ?_;refine IX (((from').toNat)*5+(to').toNat) KI Gl ?_;refine LT 0 yd (if bt from' to'%6=0 then .pointer none else .pointer (some ⟨(bs.getD (bt from' to') 0),0,none⟩)) ?_ (hc:=by exact Dl bs (k:=bt from' to') (by unfold bt;omega));refine PS ?_;refine nx J4 (aj (WK [0] (av rfl rfl ⟨?_,rfl⟩)))
 by_cases hd:from'=to'
 · rw[if_pos ((ug h8 h12).2 hd)]
   exact Or.inr ⟨by unfold dv;rw[decide_eq_true hd];simp,rfl⟩
 · rw[if_neg (λq=>hd ((ug h8 h12).1 q))]
   exact Or.inl ⟨by unfold dv;rw[h8,h12,decide_eq_false hd];rfl,rfl⟩
 refine PS ?_;refine PS ?_;refine nx J3 (CY (sr λ_ J5=>PS ?_));refine nx J5 (aj (ae (WK [0] (av rfl rfl ?_))));exact⟨Or.inr ⟨by unfold dv;rw[h12];simp,rfl⟩,rfl⟩;refine PS ?_;refine PS ?_
 iterate 3 refine UT ?_
 refine PS ?_;refine nx J3 (CY (sr λ_ J6=>PS ?_));refine nx J6 (aj (ae (WK [0] (av rfl rfl ?_))));exact⟨Or.inr ⟨by unfold dv;rw[h8];simp,rfl⟩,rfl⟩
def tw(W:List (List (List UInt8)))(f t:Int):Bool:=dv f t&&decide ((W.getD (bt f t) []).length<8)
theorem yA(n:Nat)(bs:List Nat)(W:List (List (List UInt8)))(from' to':Int)(x:Value)(by':List UInt8)(hb:by'.length≤1000000)(hW:W.length=25):
 DT 179 #[(.pointer (some ⟨n,0,none⟩)),(.int .i64 (from')),(.int .i64 (to')),x] (IsW x by') [ah n (dM bs) 110,e9 160 5 bs W] (RI (.bool (tw W from' to')) [ah n (dM bs) 110,e9 160 5 bs (pw W from' to' by')]):=by
 refine BD 21 Tryz.func179 rfl rfl rfl λw0 F hF=>sr λ_ J1=>PS ?_
 refine nx J1 (sr λ_ J2=>P3 ?_);refine CR Fs (nl n bs from' to') ID λvR HR hR=>?_
 obtain⟨hw,rfl⟩:=hR;rcases hw with⟨hv,rfl⟩| ⟨hv,rfl⟩
 refine PS ?_;refine nx J2 (sr λ_ J3=>PS ?_);refine tp (gH rfl yd rfl rfl) ?_;refine P3 ?_;refine cr (H':=[iq 160 5 (bs.getD (bt from' to') 0) (W.getD (bt from' to') []),fT 160 5 bs W (bt from' to'),ah n (dM bs) 110]) (λ_ s=>oE hv (az [1] rfl s)) (CF Nr (vF (bs.getD (bt from' to') 0) (W.getD (bt from' to') []) x by' hb) ID (λ_ d _=>PJ hF d) ?_);refine P2 ?_;refine nx J3 (aj (aF (H':=[ah n (dM bs) 110,e9 160 5 bs (pw W from' to' by')]) (dV _) (λ_ s=>by unfold pw;rw[if_pos hv];exact az [1,0] rfl (ub hv hW (az [0,0,0] rfl s))) (av rfl rfl ?_)));exact⟨by unfold tw;rw[hv];rfl,rfl⟩;refine PS ?_;refine nx J2 (sr λ_ J4=>PS ?_);refine tp (gQ rfl yd rfl rfl) ?_;refine PS ?_
 iterate 3 refine UF ?_
 refine P2 ?_;refine nx J4 (aj (WK [0,0] (av rfl rfl ?_)));exact⟨by unfold tw;rw[hv];rfl,by unfold pw;rw[hv];rfl⟩
theorem Bl(n:Nat)(W:List (List (List UInt8)))(from' to':Int)(x:Value)(by':List UInt8)(hb:by'.length≤1000000)(hW:W.length=25):DT 179 #[.pointer (some ⟨n,0,none⟩), .int .i64 from', .int .i64 to',x] (IsW x by') [eB 110 160 5 n W] (RI (.bool (tw W from' to')) [eB 110 160 5 n (pw W from' to' by')]):=
 Leg.Does.pack (B:=[]) λbs=>Leg.Does.fold (yA n bs W from' to' x by' hb hW) λe H hp=>by
  cases e with
  |returned v=>
   obtain⟨rfl,rfl⟩:=hp;exact⟨_,λ_ s=>bn (p:=λbs:List Nat=>[ah n (dM bs) 110,e9 160 5 bs (pw W from' to' by')]) (H:=[]) bs s,rfl,rfl⟩
  |panicked c=>exact hp.elim
  |outgrown=>exact hp.elim
def jN(f t:Int)(bs:List UInt8):List UInt8:=qE ([b8 f,b8 t]++bs)
theorem xI(from' to':Int)(x:Value)(by':List UInt8)(hb:by'.length≤100000):
 DT 22 #[(.int .i64 (from')),(.int .i64 (to')),x] (IsW x by') [] (dH (λv H=>∃u,v=u∧H=[dZ u (jN from' to' by') 5])):=by
 refine BD 23 Tryz.func22 rfl rfl rfl λw0 F hF=>sr λ_ J1=>PS ?_
 refine nx J1 (sr λ_ J2=>PS ?_);refine tp (eA rfl ia rfl hF.len) ?_;refine AD ?_;refine TL.makeB (0) (2+by'.length) (ab rfl) rfl rfl rfl ia z0 rfl rfl rfl (by omega) (by omega) (by omega) (λb11=>cr (H':=[dZ (.slice (some ⟨b11,0,none⟩) 0 (2+by'.length)) ([]) 5]) (λ_ s=>Gv 0 rfl rfl (by omega) (by simp only[maxLen];omega) (by simp[ek]) rfl s) (PS ?_));refine nx J2 (sr λ_ J3=>P2 ?_);refine tp (eL (r:=(((b8 from').toNat:Nat):Int)) rfl Y3 Y5 rfl (wq _)) ?_;refine PS ?_;refine tp (eL (r:=(((b8 to').toNat:Nat):Int)) rfl Y3 Y5 rfl (wq _)) ?_;refine aV (cells:=#[(.int .u8 ((((b8 from').toNat:Nat):Int))),(.int .u8 ((((b8 to').toNat:Nat):Int)))]) (ab rfl) rfl rfl rfl ia z0 rfl rfl rfl (by as_aux_lemma=>kernel_rfl) (λb17=>cL (k:=1) (news:=ek ([(b8 from'),(b8 to')])) (nn':=([(b8 from'),(b8 to')]:List UInt8).length) (xs':=ek ([(b8 from'),(b8 to')])) (ab rfl) rfl rfl rfl ia z0 rfl rfl rfl rfl rfl rfl (λ_ _=>j7 rfl (RO 0) rfl) (fl [(b8 from'),(b8 to')]) (by simp only[maxLen,aB,ax];omega) (by simp only[aB,ax];omega) (by simp<;>omega) (aQ _) (λv18 ov18=>PS ?_));refine nx J3 (sr λ_ J4=>P2 ?_)
 refine cL (k:=1) (news:=ek (by')) (nn':=([(b8 from'),(b8 to')]++by':List UInt8).length) (xs':=ek ([(b8 from'),(b8 to')]++by')) (ab rfl) rfl rfl rfl ia z0 rfl rfl rfl rfl rfl rfl (λ_ _=>hF.src (λ_ h=>fE h)) (fl _) (by simp only[maxLen,ai,ax,aB];omega) (by simp only[ai,ax,aB];omega) (by simp<;>omega) (jy _ _).symm (λv21 ov21=>CQ OO (vc v21 ([(b8 from'),(b8 to')]++by') (by simp only[ai,ax,aB];omega)) ID (λg d s=>KQ (wm 1 rfl rfl g d s)) λvR HR hR=>?_);have hR:=hR;subst hR;refine PS ?_;exact nx J4 (aj (WK [0] (av rfl rfl ⟨_,rfl,rfl⟩)))
theorem pC(f t:Int)(bs:List UInt8):(jN f t bs).length=bs.length+6:=by
 unfold jN;rw[lv];simp only[ai,ax,aB];omega
theorem yE(n:Nat)(W:List (List (List UInt8)))(from' to':Int)(x:Value)(by':List UInt8)(hb:by'.length≤3000)(hW:W.length=25):
 DT 181 #[(.pointer (some ⟨n,0,none⟩)),(.int .i64 (from')),(.int .i64 (to')),x] (IsW x by') [eB 110 160 5 n (W)] (RI (.bool (tw W from' to')) [eB 110 160 5 n (pw W from' to' (jN from' to' by'))]):=by
 refine BD 24 Tryz.func181 rfl rfl rfl λw0 F hF=>?_
 have hfl:(jN from' to' by').length≤1000000:=by rw[pC];omega
 refine sr λ_ J1=>PS ?_
 refine nx J1 (aa λ_ J2=>sr λ_ J3=>PS ?_);refine tp (kE rfl KF rfl rfl) ?_;refine P2 ?_;refine tq (eA rfl ia rfl hF.len) ?_;refine PS ?_;refine ap ?_ ?_<;>intro h14
 · exact absurd h14 (by omega)
 refine PS ?_;refine nx J3 (CN (qx J2 (sr λ_ J4=>?_)))
 iterate 6 refine PS ?_
 refine CQ OV (xI from' to' x by' (by omega)) ID (λ_ d _=>PJ hF d) λvR HR hR=>?_
 obtain⟨_,rfl,rfl⟩:=hR;revert vR;intro uf;refine CF O1 (Bl n W from' to' uf (jN from' to' by') hfl hW) (SM [1]) (λg d s=>KQ (wm 0 rfl rfl g d s)) ?_;refine PS ?_;exact nx J4 (aj (WK [0] (av rfl rfl ⟨rfl,rfl⟩)))
theorem yF(from' to':Int)(x:Value)(by':List UInt8)(h0:0<by'.length)(hb:by'.length≤100000):
 DT 95 #[(.int .i64 (from')),(.int .i64 (to')),x] (IsW x (jN from' to' by')) [] (dH (λv H=>∃u,v= .tuple #[u, .bool true]∧H=[ic u by' 5])):=by
 refine BD 40 Tryz.func95 rfl rfl rfl λw0 F hF=>?_
 have hfl:(jN from' to' by').length≤1000000000:=by rw[pC];omega
 refine sr λ_ J1=>P2 ?_
 refine nx J1 (sr λ_ J2=>PS ?_);refine CQ MM (zc x (jN from' to' by') hfl) ID (λ_ d _=>PJ hF d) λvR HR hR=>?_
 rcases hR with⟨ht',_,_⟩| ⟨t,u,ht',rfl,rfl⟩
 · exact absurd ht' (by unfold jN;rw[rS];simp)
 obtain rfl:t=([b8 from',b8 to']++by'):=by unfold jN at ht';rw[rS]at ht';exact(bm ht').symm
 refine jh 0 rfl rfl (by simp) (λg cap hv hcap=>?_);have hv2:u= .slice (some ⟨g,0,none⟩) (by'.length+2) cap:=hv;refine P4 ?_;refine PS ?_;refine nx J2 (aa λ_ J3=>sr λ_ J4=>PS ?_);refine PS ?_;refine P2 ?_;refine tq (eA rfl ia rfl (by rw[hv2];exact⟨_,_,rfl⟩)) ?_;refine PS ?_;refine ap ?_ ?_<;>intro h20
 · exact absurd h20 (by omega)
 refine P3 ?_;refine tq (bT (r:=0) hv2 rfl ia lT rfl rfl (by omega) (by omega) rfl) ?_;refine tq (cZ (v:=(.int .u8 ((((b8 from').toNat:Nat):Int)))) rfl Y5 rfl rfl (gq 0 rfl hv rfl) (rP (l:=([b8 from',b8 to']++by')) (j:=0) (by simp))) ?_;refine PS ?_;refine tq (eL (r:=(((b8 from').toNat:Nat):Int)) rfl Y3 Y5 rfl (wq _)) ?_;refine PS ?_;refine ap ?_ ?_<;>intro h28
 · exact absurd rfl h28
 refine P3 ?_;refine tq (bT (r:=1) hv2 rfl ia lT rfl rfl (by omega) (by omega) rfl) ?_;refine tq (cZ (v:=(.int .u8 ((((b8 to').toNat:Nat):Int)))) rfl Y5 rfl rfl (gq 0 rfl hv rfl) (rP (l:=([b8 from',b8 to']++by')) (j:=1) (by simp))) ?_;refine PS ?_;refine tq (eL (r:=(((b8 to').toNat:Nat):Int)) rfl Y3 Y5 rfl (wq _)) ?_;refine PS ?_;refine ap ?_ ?_<;>intro h36
 · exact absurd rfl h36
 refine PS ?_;refine nx J4 (CN (qx J3 (sr λ_ J5=>PS ?_)));refine tp (Ri (PV.sliceL (a:=some ⟨g,0,none⟩) (len:=by'.length+2) (cap:=cap) (lo:=2) rfl ia lT (by rw[←hv2];rfl) rfl rfl (by omega)) (congrArg (λq=>kB q 2 (by'.length+2)) hv2.symm)) ?_;refine P2 ?_;exact nx J5 (aj (aF (H':=[ic (kB u 2 (by'.length+2)) by' 5]) (dV _) (λ_ s=>wZ 0 rfl rfl hv (by omega) (by simp) (by simp;omega) (by simp) s) (jo rfl rfl rfl ⟨_,rfl,rfl⟩)))
theorem xD(n:Nat)(bs:List Nat)(W:List (List (List UInt8)))(from' to':Int)(by':List UInt8)(ls:List (List UInt8))(hv:dv from' to'=true)(hW:W.length=25)(hk:W.getD (bt from' to') []=jN from' to' by'::ls)(h0:0<by'.length)(hb:by'.length≤100000):
 DT 60 #[(.pointer (some ⟨n,0,none⟩)),(.int .i64 (from')),(.int .i64 (to'))] T0 [ah n (dM bs) 110,e9 160 5 bs (W)] (dH (λv H=>∃u,v= .tuple #[u, .bool true]∧H=[ah n (dM bs) 110,e9 160 5 bs (W.set (bt from' to') ls),ic u by' 5])):=by
 refine BD 32 Tryz.func60 rfl rfl rfl λw0 F hF=>sr λ_ J1=>P2 ?_
 refine nx J1 (aa λ_ J2=>sr λ_ J3=>PS ?_);refine tp (kE rfl KF rfl rfl) ?_;refine nx J3 (CN (qx J2 (sr λ_ J4=>P3 ?_)));refine CR Fs (nl n bs from' to') ID λvR HR hR=>?_
 obtain⟨hw,rfl⟩:=hR;obtain⟨_,rfl⟩:dv from' to'=true∧vR= .pointer (some ⟨(bs.getD (bt from' to') 0),0,none⟩):=hw.resolve_right (λq=>by rw[hv]at q;cases q.1)
 refine PS ?_;refine nx J4 (aa λ_ J5=>sr λ_ J6=>PS ?_);refine tp (kE rfl yd rfl rfl) ?_;refine nx J6 (CN (qx J5 (sr λ_ J7=>PS ?_)));refine cr (H':=[iq 160 5 (bs.getD (bt from' to') 0) (W.getD (bt from' to') []),fT 160 5 bs W (bt from' to'),ah n (dM bs) 110]) (λ_ s=>oE hv (az [1] rfl s)) (CR OD (tP (bs.getD (bt from' to') 0) (W.getD (bt from' to') [])) ID λvR HR hR=>?_);rcases hR with⟨he,_,_⟩| ⟨u,f,ls',he,rfl,rfl⟩
 · rw[he]at hk;cases hk
 rw[hk]at he;obtain⟨rfl,rfl⟩:=List.cons.inj he;refine P4 ?_;refine PS ?_;refine nx J7 (aa λ_ J8=>sr λ_ J9=>PS ?_);refine PS ?_;refine nx J9 (CN (qx J8 (sr λ_ J10=>P3 ?_)));refine CQ Qu (yF from' to' u by' h0 hb) ID (λg d s=>KQ (Bs 1 rfl rfl g d s)) λvR HR hR=>?_
 obtain⟨uv,rfl,rfl⟩:=hR;refine P4 ?_;exact nx J10 (aj (aF (H':=[ah n (dM bs) 110,e9 160 5 bs (W.set (bt from' to') ls),ic uv by' 5]) (dV _) (λ_ s=>az [1,0] rfl (ub hv hW (ak [1,2,2,0] rfl s))) (jo rfl rfl rfl ⟨_,rfl,rfl⟩)))
theorem rC(n:Nat)(W:List (List (List UInt8)))(from' to':Int)(by':List UInt8)(ls:List (List UInt8))(hv:dv from' to'=true)(hW:W.length=25)(hk:W.getD (bt from' to') []=jN from' to' by'::ls)(h0:0<by'.length)(hb:by'.length≤100000):DT 60 #[.pointer (some ⟨n,0,none⟩), .int .i64 from', .int .i64 to'] T0 [eB 110 160 5 n W] (dH (λv H=>∃u,v= .tuple #[u, .bool true]∧H=[eB 110 160 5 n (W.set (bt from' to') ls),ic u by' 5])):=
 Leg.Does.pack (B:=[]) λbs=>Leg.Does.fold (xD n bs W from' to' by' ls hv hW hk h0 hb) λe H hp=>by
  cases e with
  |returned v=>
   obtain⟨u,rfl,rfl⟩:=hp;exact⟨[eB 110 160 5 n (W.set (bt from' to') ls),ic u by' 5],λ_ s=>bn (p:=λbs:List Nat=>[ah n (dM bs) 110,e9 160 5 bs (W.set (bt from' to') ls)]) (H:=[ic u by' 5]) bs s,u,rfl,rfl⟩
  |panicked c=>exact hp.elim
  |outgrown=>exact hp.elim
end Go.Proofs.YtmcjhkbcmmddgaaGreat
end

section
namespace Leg
open Go Codec Api
section
variable {P:Program} {n:Nat} {D:List Deferred} {L:List (Nat×Value)} {S:World→Prop} {o:Oper}
theorem PV.ptrNeIf{c:Prop}[Decidable c]{t t':TypeId}{x y:Operand}{a:Addr}(ho:o.op= .binOp .neq t x y t')(ht:P.underlying t=some (.pointer (P.pointee t)))(hx:cK L x=some (if c then .pointer none else .pointer (some a)))(hy:cK L y=some (.pointer none)):PV P n D L S o (.bool (!decide c)):=by
 by_cases h:c
 · rw[if_pos h]at hx;rw[decide_eq_true h];exact gQ ho ht hx hy
 · rw[if_neg h]at hx;rw[decide_eq_false h];exact gH ho ht hx hy
end
abbrev JC(bs:List Nat)(k:Nat):Value:=if k%6=0 then .pointer none else .pointer (some ⟨bs.getD k 0,0,none⟩)
def ti(bs:List Nat)(i:Nat):List Value:=(List.range 5).map λj=>JC bs (i*5+j)
theorem oP(bs:List Nat)(i:Nat):(ti bs i).length=5:=by simp[ti]
theorem Ju(bs:List Nat)(i:Nat): ∀v∈ti bs i,v.oneCell'=true:=by
 intro v hv;simp only[ti,gd]at hv;obtain⟨j,_,rfl⟩:=hv;show(if _ then _ else _:Value).oneCell'=true;split<;>rfl
theorem Gy(bs:List Nat)(i:Nat){j:Nat}(h:j<5):(ti bs i)[j]?=some (JC bs (i*5+j)):=by simp[ti,h]
theorem Jv(bs:List Nat){i:Nat}(h:i<5):((dM bs).drop (i*5)).take 5=ti bs i:=by
 refine List.ext_getElem? λj=>?_
 by_cases hj:j<5
 · rw[List.getElem?_take_of_lt hj,List.getElem?_drop,Dl bs (by omega),Gy bs i hj]
 · rw[List.getElem?_eq_none (by rw[bR];omega),List.getElem?_eq_none (by rw[oP];omega)]
def mc(W:List (List (List UInt8)))(k:Nat):Nat:=((List.range k).map λq=>if q%6=0 then 0 else(W.getD q []).length).sum
theorem se(W:List (List (List UInt8)))(k:Nat):mc W (k+1)=mc W k+(if k%6=0 then 0 else(W.getD k []).length):=by simp[mc,de]
def l8(bs:List Nat):List Value:=(List.range 25).map λq=>if q%6=0∨bs.length≤q then .pointer none else .pointer (some ⟨bs.getD q 0,0,none⟩)
theorem zB(bs:List Nat):(l8 bs).length=25:=by simp[l8]
theorem H3{bs:List Nat}{b:Nat}(h:bs.length<25)(hd: ¬bs.length%6=0):(l8 bs).set bs.length (.pointer (some ⟨b,0,none⟩))=l8 (bs++[b]):=by
 refine List.ext_getElem? λj=>?_
 by_cases hj:j=bs.length
 · subst hj
   rw[List.getElem?_set_self (by rw[zB];exact h)];simp[l8,h,hd,List.getD_eq_getElem?_getD]
 · rw[List.getElem?_set_ne (λe=>hj e.symm)]
   simp only[l8,List.getElem?_map];cases hr:(List.range 25)[j]?with
   |none=>rfl
   |some q=>
    have hq:q=j:=by
     by_cases h25:j<25
     · simp[h25]at hr;exact hr.symm
     · simp[h25]at hr
    subst hq;simp only[Option.map_some,ai,ax,aB];congr 1
    by_cases hlt:q<bs.length
    · simp[show ¬bs.length≤q by omega,show ¬bs.length+1≤q by omega,List.getElem?_append_left hlt]
    · simp[show bs.length≤q by omega,show bs.length+1≤q by omega]
theorem Fk{bs:List Nat}{b:Nat}(hd:bs.length%6=0):l8 (bs++[b])=l8 bs:=by
 unfold l8;refine ff λq hq=>?_
 rw[ai,gZ]
 by_cases hq6:q%6=0
 · simp[hq6]
 · by_cases hlt:q<bs.length
   · simp[hq6,show ¬bs.length≤q by omega,show ¬bs.length+1≤q by omega,List.getElem?_append_left hlt]
   · have: ¬q=bs.length:=λe=>hq6 (by rw[e];exact hd)
     simp[show bs.length≤q by omega,show bs.length+1≤q by omega]
theorem H4{bs:List Nat}(h:bs.length=25):l8 bs=dM bs:=by
 unfold l8 dM;refine ff λq hq=>?_
 rw[eX]at hq;simp[show ¬bs.length≤q by omega]
def pI(T U:Nat)(bs:List Nat)(q:Nat):HP:=if q%6=0 then(λ_=>True)else iq T U (bs.getD q 0) []
def kR(T U:Nat)(bs:List Nat):HP:=bz ((List.range bs.length).map (pI T U bs))
theorem F8(T U:Nat){H:List HP}{h:Hl}(s:bz H h):bz (kR T U []::H) h:=⟨em,h,Ex h,(rG h).symm,trivial,s⟩
theorem F9(T U:Nat)(bs:List Nat)(b:Nat):(List.range bs.length).map (pI T U (bs++[b]))=(List.range bs.length).map (pI T U bs):=
 ff λq hq=>by
  rw[eX]at hq;unfold pI;rw[show(bs++[b]).getD q 0=bs.getD q 0 by simp[List.getElem?_append_left hq]]
theorem vE(T U:Nat)(bs:List Nat)(b:Nat){H:List HP}{h:Hl}(s:bz (pI T U (bs++[b]) bs.length::kR T U bs::H) h):bz (kR T U (bs++[b])::H) h:=by
 have e:(List.range (bs++[b]).length).map (pI T U (bs++[b]))=(List.range bs.length).map (pI T U bs)++[pI T U (bs++[b]) bs.length]:=by
  rw[ai,gZ,de,ec,F9];rfl
 obtain⟨h1,h2,d,rfl,a,b'⟩:=s;have s2:bz ((pI T U (bs++[b]) bs.length::(List.range bs.length).map (pI T U bs))++H) (jn h1 h2):=⟨h1,h2,d,rfl,a,(cb _ _).2 b'⟩;have p:((pI T U (bs++[b]) bs.length::(List.range bs.length).map (pI T U bs))++H).Perm (((List.range bs.length).map (pI T U bs)++[pI T U (bs++[b]) bs.length])++H):=(List.perm_append_comm (l₁:=[pI T U (bs++[b]) bs.length])).append_right H;have s3:=eH p s2;rw[←e]at s3;exact(cb _ _).1 s3
theorem Ei(T U:Nat)(bs:List Nat)(hd:bs.length%6=0){H:List HP}{h:Hl}(s:bz (kR T U bs::H) h):bz (kR T U (bs++[0])::H) h:=by
 refine vE T U bs 0 ⟨em,h,Ex h,(rG h).symm,?_,s⟩;unfold pI;rw[if_pos hd];trivial
theorem Ga{T U:Nat}{bs:List Nat}(h:bs.length=25):kR T U bs=e9 T U bs (List.replicate 25 []):=by
 unfold kR e9 p5;rw[h];refine congrArg bz ?_;refine ff λq hq=>?_
 rw[eX]at hq;unfold pI rJ;rw[show(List.replicate 25 ([]:List (List UInt8))).getD q []=[]by rw[List.getD_eq_getElem?_getD,List.getElem?_replicate,if_pos hq];rfl]
theorem Ky{T U:Nat}{bs:List Nat}{W:List (List (List UInt8))}{k:Nat}(h6: ¬k%6=0)(hk:k<25){H:List HP}{h:Hl}(s:bz (e9 T U bs W::H) h):bz (iq T U (bs.getD k 0) (W.getD k [])::fT T U bs W k::H) h:=by
 have:=xX hk s
 rwa [rh h6]at this
theorem Kx{T U:Nat}{bs:List Nat}{W:List (List (List UInt8))}{k:Nat}(h6: ¬k%6=0)(hk:k<25){H:List HP}{h:Hl}(s:bz (iq T U (bs.getD k 0) (W.getD k [])::fT T U bs W k::H) h):bz (e9 T U bs W::H) h:=by
 refine vD (W:=W) hk (λ_ _=>rfl) ?_;rw[rh h6];exact s
end Leg
end

section
namespace Go.Proofs.YtmcjhkbcmmddgaaGreat
open Go Leg Codec Api Dsk Wal
theorem Bm(n:Nat)(bs:List Nat)(W:List (List (List UInt8)))(hsm: ∀k,k<25→mc W k+(W.getD k []).length≤1000000000):
 DT 35 #[(.pointer (some ⟨n,0,none⟩))] T0 [ah n (dM bs) 110,e9 160 5 bs (W)] (RI (.int .i64 ((mc W 25:Nat):Int)) [ah n (dM bs) 110,e9 160 5 bs W]):=by
 refine BD 28 Tryz.func35 rfl rfl rfl λw0 F hF=>sr λ_ J1=>PS ?_
 refine nx J1 (sr λ_ J2=>PS ?_);refine nx J2 (aa λ_ J3=>sr λ_ J4=>P2 ?_);refine FA 0 Tryz.underlying110 Gk ?_;refine tp (aM (vs:=dM bs) rfl Mu rfl Gk rfl (RO 0) (zA bs) (wI (zA bs))) ?_;refine PS ?_;refine nx J4 (aq ?_)
 refine bD (α:=(Nat)) (λi=>i≤5) (λi=>[(2,(.int .i64 0)),(3,(.int .i64 (((mc W (i*5):Nat):Int)))),(11,(.agg (dM bs).toArray)),(12,(.int .i64 (((i:Nat):Int))))]) (λi=>[ah n (dM bs) 110,e9 160 5 bs (W)]) (λi=>5-i) 0
  (aO _) SB
  (λ_ s=>s) (λi hinv=>?_)
 obtain hi:=hinv;refine sr λ_ J5=>PS ?_
 refine ap ?_ ?_<;>intro h13;refine nx J5 (aa λ_ J6=>CY (qx J6 (aa λ_ J7=>aq (sr λ_ J8=>tp (Rk (cs:=dM bs) (vs:=ti bs i) (r:=i*5) rfl Mu KI rfl Cn rfl rfl (by omega) (by omega) (by omega) (Jv bs (by omega))) ?_))));refine XA Qf λb5=>?_
 refine bL (vs:=ti bs i) (i:=0) (ab rfl) rfl rfl rfl rfl rfl (by rw[oP bs i];exact Cn) (Ju bs i) rfl rfl (by rw[oP bs i];exact aH _) (gC (Eq.trans (rfl:_=5) (by rw[oP bs i]:(ti bs i).length=5).symm)) rfl (nx J8 (sr λ_ J9=>tp (aM (vs:=ti bs i) rfl KI rfl Cn rfl (RO 0) (oP bs i) (wI (oP bs i))) ?_));refine PS ?_;refine nx J9 (aq ?_)
 refine bD (α:=(Nat)) (λj=>j≤5) (λj=>[(2,(.int .i64 0)),(3,(.int .i64 (((mc W (i*5+j):Nat):Int)))),(11,(.agg (dM bs).toArray)),(12,(.int .i64 (((i:Nat):Int)))),(15,(.agg (ti bs i).toArray)),(16,(.int .i64 (((j:Nat):Int))))]) (λj=>[ah n (dM bs) 110,e9 160 5 bs (W)]) (λj=>5-j) 0
  (aO _) SB
  (λ_ s=>ak [1,1] rfl s) (λj hinv=>?_)
 obtain hj:=hinv;refine sr λ_ J10=>PS ?_
 refine ap ?_ ?_<;>intro h17;refine nx J10 (aa λ_ J11=>CY (qx J11 (aa λ_ J12=>aq (sr λ_ J13=>tp (p9 (cs:=ti bs i) (v:=JC bs (i*5+j)) (r:=j) rfl KI yd rfl Gl rfl rfl (by omega) (by omega) (by omega) (Gy bs i (by omega))) ?_))));refine PS ?_;refine nx J13 (sr λ_ J14=>PS ?_);refine tp (PV.ptrNeIf rfl yd rfl rfl) ?_;refine bb ?_ ?_<;>intro h20;have h20: ¬((i*5+j)%6=0):=by simpa using h20
 refine TL.weak (L':=[(2,(.int .i64 0)),(3,(.int .i64 (((mc W (i*5+j):Nat):Int)))),(7,(.pointer (some ⟨(bs.getD (i*5+j) 0),0,none⟩))),(11,(.agg (dM bs).toArray)),(12,(.int .i64 (((i:Nat):Int)))),(15,(.agg (ti bs i).toArray)),(16,(.int .i64 (((j:Nat):Int)))),(17,(.bool true)),(18,(JC bs (i*5+j))),(19,(JC bs (i*5+j))),(20,(.bool true))]) (bE rfl rfl (bE rfl rfl (bE rfl (if_neg h20) (bE rfl rfl (bE rfl rfl (bE rfl rfl (bE rfl rfl (bE rfl rfl (bE rfl rfl (bE rfl rfl (bE rfl rfl SB))))))))))) (λ_ s=>s) (cr (H':=[iq 160 5 (bs.getD (i*5+j) 0) (W.getD (i*5+j) []),fT 160 5 bs W (i*5+j),ah n (dM bs) 110]) (λ_ s=>Ky h20 (by omega) (az [1] rfl s)) (nx J14 (CY (ad (P2 ?_)))));refine CE Ds (jQ (bs.getD (i*5+j) 0) (W.getD (i*5+j) [])) ID ?_;refine tp (cB (r:=((mc W (i*5+j)+(W.getD (i*5+j) []).length:Nat):Int)) rfl rfl rfl (by rw[←Int.natCast_add];exact bK (by omega) (by have:=hsm (i*5+j) (by omega);omega))) ?_;refine PS ?_;refine aw (af (ac J12 (ad (AD ?_))));refine PS ?_;refine aw ?_
 exact aL ((j+1):(Nat)) (by omega) (by show 5- (j+1)<5-j;omega)
  (aT (bE rfl (by rw[show mc W (i*5+(j+1))=mc W (i*5+j)+(W.getD (i*5+j) []).length from by rw[←nR,se,if_neg h20]]) SB))
  (λ_ s=>az [1,0] rfl (Kx h20 (by omega) (ak [0,0,0] rfl s)))
 refine nx J14 (CN (aS (af (ac J12 (ad (AD ?_))))));refine PS ?_;refine aw ?_
 exact aL ((j+1):(Nat)) (by omega) (by show 5- (j+1)<5-j;omega)
  (aT (bE rfl (by rw[show mc W (i*5+(j+1))=mc W (i*5+j)from by rw[←nR,se,if_pos (by simpa using h20),KO]]) SB))
  (λ_ s=>s)
 refine nx J10 (aa λ_ J15=>CN (bh (aC (aC (bC (af (ac J7 (ad (AD ?_)))))))));refine PS ?_;refine aw ?_
 exact aL ((i+1):(Nat)) (by omega) (by show 5- (i+1)<5-i;omega)
  (aT (bE rfl (by rw[show(i+1)*5=i*5+j by omega]) SB))
  (λ_ s=>s)
 refine nx J5 (aa λ_ J16=>CN (bh (aC (aC (bC (ac J3 (sr λ_ J17=>P2 ?_)))))));refine nx J17 (aj (WK [0,0] (av rfl rfl ?_)));exact⟨by rw[show i*5=25 by omega],rfl⟩
theorem Dv(n:Nat)(W:List (List (List UInt8)))(hsm: ∀k,k<25→mc W k+(W.getD k []).length≤1000000000):DT 35 #[.pointer (some ⟨n,0,none⟩)] T0 [eB 110 160 5 n W] (RI (.int .i64 ((mc W 25:Nat):Int)) [eB 110 160 5 n W]):=
 Leg.Does.pack (B:=[]) λbs=>Leg.Does.fold (Bm n bs W hsm) λe H hp=>by
  cases e with
  |returned v=>
   obtain⟨rfl,rfl⟩:=hp;exact⟨[eB 110 160 5 n W],λ_ s=>bn (p:=λbs:List Nat=>[ah n (dM bs) 110,e9 160 5 bs W]) (H:=[]) bs s,rfl,rfl⟩
  |panicked c=>exact hp.elim
  |outgrown=>exact hp.elim
theorem Kz{T U:Nat}{bs:List Nat}{b:Nat}(h: ¬bs.length%6=0):pI T U (bs++[b]) bs.length=iq T U b []:=by
 unfold pI;rw[if_neg h,List.getD_eq_getElem?_getD,List.getElem?_append_right (aH _),yZ];rfl
theorem Gb{T U:Nat}{bs:List Nat}{b:Nat}(hl: ¬bs.length%6=0){H:List HP}{h:Hl}(s:bz (iq T U b []::kR T U bs::H) h):bz (kR T U (bs++[b])::H) h:=vE T U bs b (by rw[Kz hl];exact s)
theorem Du:
 DT 23 #[] T0 [] (dH (λv H=>∃n,v= .pointer (some ⟨n,0,none⟩)∧H=[eB 110 160 5 n (List.replicate 25 [])])):=by
 refine Leg.Does.body (vs:=[]) (n:=26) Tryz.func23 rfl rfl rfl (λw0 F hF=>?_);refine sr λ_ J1=>?_
 refine qb ?_;refine nx J1 ?_;refine sr λ_ J2=>?_
 refine tp (kF (cells:=#[(.pointer none),(.pointer none),(.pointer none),(.pointer none),(.pointer none),(.pointer none),(.pointer none),(.pointer none),(.pointer none),(.pointer none),(.pointer none),(.pointer none),(.pointer none),(.pointer none),(.pointer none),(.pointer none),(.pointer none),(.pointer none),(.pointer none),(.pointer none),(.pointer none),(.pointer none),(.pointer none),(.pointer none),(.pointer none)]) rfl rfl (by as_aux_lemma=>kernel_rfl)) ?_;refine TL.box (ab rfl) rfl rfl rfl rfl (λb5=>?_);change TL _ _ _ _ _ _ _ _ _ [ah b5 [(.pointer none),(.pointer none),(.pointer none),(.pointer none),(.pointer none),(.pointer none),(.pointer none),(.pointer none),(.pointer none),(.pointer none),(.pointer none),(.pointer none),(.pointer none),(.pointer none),(.pointer none),(.pointer none),(.pointer none),(.pointer none),(.pointer none),(.pointer none),(.pointer none),(.pointer none),(.pointer none),(.pointer none),(.pointer none)] 110];refine qb ?_;refine nx J2 ?_;refine aa λ_ J3=>?_
 refine sr λ_ J4=>?_
 refine mv ?_;refine nx J4 ?_;refine aq ?_
 refine bD (α:=(Nat)×(List Nat)) (λ⟨i,bs⟩=>i≤5∧bs.length=i*5) (λ⟨i,bs⟩=>[(0,(.pointer none)),(1,(.pointer (some ⟨b5,0,none⟩))),(6,(.int .i64 (((i:Nat):Int))))]) (λ⟨i,bs⟩=>[ah b5 (l8 (bs)) 110,kR 160 5 (bs)]) (λ⟨i,bs⟩=>5-i) (0,[])
  ⟨aO _,rfl⟩ (aT (aT (bE rfl (by congr 1) (N6 _))))
  (λ_ s=>az [1,0] rfl (F8 160 5 s)) (λ⟨i,bs⟩ hinv=>?_)
 obtain⟨hi,hbs⟩:=hinv;refine sr λ_ J5=>?_
 refine tp (PV.lss rfl rfl rfl) ?_;refine ap (λh7=>?_) (λh7=>?_);refine nx J5 ?_;refine aa λ_ J6=>?_
 refine nZ rfl ?_;refine aS ?_;refine ac J6 ?_;refine aa λ_ J7=>?_
 refine aq ?_;refine sr λ_ J8=>?_
 refine mv ?_;refine qb ?_;refine nx J8 ?_;refine sr λ_ J9=>?_
 refine mv ?_;refine nx J9 ?_;refine aq ?_
 refine bD (α:=(Nat)×(List Nat)) (λ⟨j,bs2⟩=>j≤5∧bs2.length=i*5+j) (λ⟨j,bs2⟩=>[(0,(.pointer none)),(1,(.pointer (some ⟨b5,0,none⟩))),(2,(.int .i64 (((i:Nat):Int)))),(6,(.int .i64 (((i:Nat):Int)))),(9,(.int .i64 (((j:Nat):Int))))]) (λ⟨j,bs2⟩=>[ah b5 (l8 (bs2)) 110,kR 160 5 (bs2)]) (λ⟨j,bs2⟩=>5-j) (0,bs)
  ⟨aO _,hbs⟩ (aT (aT (aT (aT (bE rfl (by congr 1) (N6 _))))))
  (λ_ s=>s) (λ⟨j,bs2⟩ hinv=>?_)
 obtain⟨hj,hbl⟩:=hinv;refine sr λ_ J10=>?_
 refine tp (PV.lss rfl rfl rfl) ?_;refine ap (λh10=>?_) (λh10=>?_);refine nx J10 ?_;refine aa λ_ J11=>?_
 refine nZ rfl ?_;refine aS ?_;refine ac J11 ?_;refine aa λ_ J12=>?_
 refine aq ?_;refine sr λ_ J13=>?_
 refine mv ?_;refine qb ?_;refine nx J13 ?_;refine sr λ_ J14=>?_
 refine mv ?_;refine mv ?_;refine tp (PV.neq rfl rfl rfl) ?_;refine ap (λh14=>?_) (λh14=>?_);refine nx J14 ?_;refine nZ rfl ?_;refine oZ (λw=>Frm F w∧True) dA rfl (λ_ s=>⟨fE s,trivial⟩) ?_;refine ta 0 rfl (kn rfl rfl) ?_;refine ta 1 rfl (kn rfl rfl) ?_;refine ta 2 rfl (kn rfl rfl) ?_;refine ta 4 rfl (gR rfl rfl) ?_;refine ta 5 rfl (bc (r:=0) rfl Tryz.underlying110 rfl Gk rfl rfl) ?_;refine ta 6 rfl (oo (r:=i*5) rfl Mu Cn rfl rfl (by omega) (by omega) (by omega)) ?_;refine cT [3] (by kernel_rfl) rfl ?_;refine aG rfl ?_ ?_;refine lC (A:=[]) (ab rfl) rfl rfl rfl QK rfl (Ej) (λ_ s=>s) (λ_ _ _=>trivial) (λvR HR hR=>?_);obtain⟨bx,rfl,rfl⟩:=hR;change TL _ _ _ _ _ _ _ _ _ [iq 160 5 bx [],ah b5 (l8 (bs2)) 110,kR 160 5 (bs2)];refine aw ?_;refine vJ (λ_ s=>⟨fE s,trivial⟩) ?_;refine ta 7 rfl (oo (r:=i*5+j) rfl KI Gl rfl rfl (by omega) (by omega) (by omega)) ?_;refine cT [8] (by kernel_rfl) rfl ?_;refine aG rfl ?_ ?_;refine bO (i:=1) (H':=[iq 160 5 bx [],ah b5 (l8 (bs2++[bx])) 110,kR 160 5 (bs2)]) (ab rfl) rfl rfl rfl rfl rfl Gl rfl rfl (by rw[zB];omega) (by rw[show i*5+j=bs2.length by omega];exact H3 (by omega) (by omega)) rfl ?_;refine aw ?_;refine vJ (λ_ s=>⟨fE s,trivial⟩) ?_;refine TD.done (by kernel_rfl) ?_;refine af ?_;refine ac J12 ?_;refine ad ?_;refine tp (cB rfl rfl rfl (bK (by omega) (by omega))) ?_;refine mv ?_;refine aw ?_
 exact aL ((j+1,bs2++[bx]):(Nat)×(List Nat)) ⟨by omega,by rw[ai,gZ];omega⟩ (by show 5- (j+1)<5-j;omega)
  (aT (aT (aT (aT (bE rfl (by simp) (N6 _))))))
  (λ_ s=>show bz [ah b5 (l8 (bs2++[bx])) 110,kR 160 5 (bs2++[bx])] _ from az [1,0] rfl (Gb (by omega) (ak [0,1,0] rfl s)))
 exact bJ;exact bJ;refine nx J14 ?_;refine Ha rfl ?_;refine aS ?_;refine af ?_;refine ac J12 ?_;refine ad ?_;refine tp (cB rfl rfl rfl (bK (by omega) (by omega))) ?_;refine mv ?_;refine aw ?_
 exact aL ((j+1,bs2++[0]):(Nat)×(List Nat)) ⟨by omega,by rw[ai,gZ];omega⟩ (by show 5- (j+1)<5-j;omega)
  (aT (aT (aT (aT (bE rfl (by simp) (N6 _))))))
  (λ_ s=>show bz [ah b5 (l8 (bs2++[0])) 110,kR 160 5 (bs2++[0])] _ by rw[Fk (by omega)];exact az [1,0] rfl (Ei 160 5 bs2 (by omega) (az [1,0] rfl s)))
 refine nx J10 ?_;refine aa λ_ J15=>?_
 refine Ha rfl ?_;refine bh ?_;refine aC ?_;refine aC ?_;refine bC ?_;refine af ?_;refine ac J7 ?_;refine ad ?_;refine tp (cB rfl rfl rfl (bK (by omega) (by omega))) ?_;refine mv ?_;refine aw ?_
 exact aL ((i+1,bs2):(Nat)×(List Nat)) ⟨by omega,by omega⟩ (by show 5- (i+1)<5-i;omega)
  (aT (aT (bE rfl (by simp) (N6 _))))
  (λ_ s=>s)
 refine nx J5 ?_;refine aa λ_ J16=>?_
 refine Ha rfl ?_;refine bh ?_;refine aC ?_;refine aC ?_;refine bC ?_;refine ac J3 ?_;refine sr λ_ J17=>?_
 refine mv ?_;refine qb ?_;refine nx J17 ?_;refine aj ?_;refine aF (H':=[eB 110 160 5 b5 (List.replicate 25 [])]) (dV _) (λ_ s=>bn (p:=λbs:List Nat=>[ah b5 (dM bs) 110,e9 160 5 bs (List.replicate 25 [])]) (H:=[]) bs (by rw[←H4 (by omega),←Ga (by omega)];exact s)) ?_;refine av rfl rfl ?_;exact⟨b5,rfl,rfl⟩
end Go.Proofs.YtmcjhkbcmmddgaaGreat
end

section
namespace Leg
open Go Codec Api
def eZ(n:Nat)(D M P:Nat→Value):List Value:= .pointer (some ⟨n,0,none⟩)::((List.range 5).map D++((List.range 5).map M++(List.range 5).map P))
section
variable (n:Nat) (D M P:Nat→Value) {i:Nat}
theorem sv:(eZ n D M P).length=16:=by simp[eZ]
theorem BI:(eZ n D M P)[0]?=some (.pointer (some ⟨n,0,none⟩)):=rfl
theorem Ee(h:i<5):(eZ n D M P)[1+i]?=some (D i):=by
 rw[mL,eZ,List.getElem?_cons_succ,List.getElem?_append_left (by simpa using h)];simp[h]
theorem xS(h:i<5):(eZ n D M P)[6+i]?=some (M i):=by
 rw[show 6+i=(5+i)+1 by omega,eZ,List.getElem?_cons_succ,List.getElem?_append_right (by simp),List.getElem?_append_left (by simp;omega)];simp[h]
theorem Pw(h:i<5):(eZ n D M P)[11+i]?=some (P i):=by
 rw[show 11+i=(10+i)+1 by omega,eZ,List.getElem?_cons_succ,List.getElem?_append_right (by simp;omega),List.getElem?_append_right (by simp;omega)];simp only[bY,vL];rw[show 10+i-5-5=i by omega];simp[h]
end
def kT{α:Type}(f:Nat→α)(i:Nat)(v:α):Nat→α:=λj=>if j=i then v else f j
theorem jx{α:Type}(f:Nat→α)(i:Nat)(v:α):kT f i v i=v:=if_pos rfl
theorem np{α:Type}(f:Nat→α){i j:Nat}(v:α)(h:j≠i):kT f i v j=f j:=if_neg h
theorem Br{α:Type}(f:Nat→α){i k:Nat}(h:i<k)(v:α):((List.range k).map f).set i v=(List.range k).map (kT f i v):=by
 refine List.ext_getElem? λj=>?_
 by_cases hj:j=i
 · subst hj
   rw[List.getElem?_set_self (by simpa using h)];simp[h,jx]
 · rw[List.getElem?_set_ne (λe=>hj e.symm)]
   by_cases hk:j<k
   · simp[hk,np f v hj]
   · simp[hk]
section
variable (n:Nat) (D M P:Nat→Value) {i:Nat} (v:Value)
theorem Mm(h:i<5):(eZ n D M P).set (1+i) v=eZ n (kT D i v) M P:=by
 rw[mL,eZ,bU,qW _ _ (by simpa using h),Br D h];rfl
theorem wn(h:i<5):(eZ n D M P).set (6+i) v=eZ n D (kT M i v) P:=by
 rw[show 6+i=(5+i)+1 by omega,eZ,bU,gY _ _ (by simp),qW _ _ (by simp;omega)];simp only[bY,vL];rw[show 5+i-5=i by omega,Br M h];rfl
theorem G4(h:i<5):(eZ n D M P).set (11+i) v=eZ n D M (kT P i v):=by
 rw[show 11+i=(10+i)+1 by omega,eZ,bU,gY _ _ (by simp;omega),gY _ _ (by simp;omega)];simp only[bY,vL];rw[show 10+i-5-5=i by omega,Br P h];rfl
end
abbrev Ox(c i:Nat):Value:= .agg #[.pointer (some ⟨c,0,none⟩), .int .i64 ((i:Nat):Int)]
end Leg
namespace Go.Proofs.YtmcjhkbcmmddgaaGreat
open Go Leg Codec Api Dsk Wal
section
variable {CT NT BT U c n d i:Nat} {D M P:Nat→Value} {W:List (List (List UInt8))} {recs:List (List UInt8)} {l:List SaidT} {H:List HP} {h:Hl}
end
end Go.Proofs.YtmcjhkbcmmddgaaGreat
end

section
namespace Api
open Go Leg Codec Dsk Wal
structure MS(δ:Type) where
 id:Int
 view:ViewT
 own:RowT
 mirror:MirT
 acc:AccT
 round:Int
 vote:Option VoteT
 book:BookT
 busy:Bool
 kept:Int
 waits:Int
 ops:Int
 replies:List ReplyT
 told:Vector Int 5
 last:Vector RowT 5
 e:δ
 o:List SaidT
structure Adr where
 lg:Nat
 vo:Value
 rs:Value
structure Dk(δ:Type) where
 pt:δ→List UInt8→δ×Int
 dn:δ→Bool
 ok:δ→Prop
 sure: ∀(e:δ) (bs:List UInt8),ok e→bs.length≤3000→ok (pt e bs).1
variable {δ:Type}
abbrev MS.rep(s:MS δ)(a:Adr):RepT:=⟨s.id, .pointer (some ⟨a.lg,0,none⟩),s.view,s.own,s.mirror,s.acc,s.round,a.vo,s.book,s.busy,s.kept,s.waits,s.ops,a.rs,s.told,s.last⟩
def MS.setView(s:MS δ)(v:ViewT):MS δ:= {s with view:=v}
def MS.setOwn(s:MS δ)(v:RowT):MS δ:= {s with own:=v}
def MS.setAcc(s:MS δ)(v:AccT):MS δ:= {s with acc:=v}
def MS.setRound(s:MS δ)(v:Int):MS δ:= {s with round:=v}
def MS.setBusy(s:MS δ)(v:Bool):MS δ:= {s with busy:=v}
def MS.setKept(s:MS δ)(v:Int):MS δ:= {s with kept:=v}
def MS.setWaits(s:MS δ)(v:Int):MS δ:= {s with waits:=v}
def MS.setOps(s:MS δ)(v:Int):MS δ:= {s with ops:=v}
def MS.setTold(s:MS δ)(v:Vector Int 5):MS δ:= {s with told:=v}
def MS.setLast(s:MS δ)(v:Vector RowT 5):MS δ:= {s with last:=v}
def Adr.nil:Adr:=⟨0, .pointer none, .slice none 0 0⟩
def cN(w:Int):Int:=IntKind.i64.wrap (1*2^min w.toNat IntKind.i64.bits)
def Dz(a b:BallotT):Bool:=if a.round≠b.round then decide (a.round<b.round)else decide (a.who<b.who)
def Au(a:AccT)(ep:Int)(b:BallotT):Bool:=decide (ep≠a.epoch)||(decide (b.round<1)||Dz b a.vow)
def bS(a:AccT)(ep:Int)(b:BallotT):AccT×Bool:=if Au a ep b then(a,false)else({a with vow:=b},true)
def hX(a:AccT)(ep:Int)(b:BallotT)(c:ChangeT):AccT×Bool:=if Au a ep b then(a,false)else({a with vow:=b,had:=b,change:=c},true)
def lG(bits:Int)(k:Nat):List Int:=((List.range k).filter λi:Nat=>IQ bits ((i:Nat):Int)).map λi:Nat=>((i:Nat):Int)
def E5(bits:Int):List Int:=lG bits 5
def MU(part all:Int):Bool:=decide (2* (((E5 (tS .i64 part all)).length:Nat):Int)>(((E5 all).length:Nat):Int))
def ie(v:ViewT)(bits:Int):Bool:=MU bits v.members
def jr(v:ViewT)(b:BallotT)(c:ChangeT):VoteT:= {VoteT.zero with view:=v,ballot:=b,change:=c}
def ot(v:VoteT)(who:Int)(b:BallotT):Bool:=decide (b.flat=v.ballot.flat)&&iS v.view who
def wG(v:VoteT)(who:Int)(had:BallotT)(c:ChangeT):VoteT:=
 if decide (0<had.round)&&Dz v.best had then {v with vowed:=iP .i64 v.vowed (cN who),best:=had,change:=c}else {v with vowed:=iP .i64 v.vowed (cN who)}
def fi(v:VoteT)(who:Int)(b had:BallotT)(c:ChangeT):VoteT×Bool:=
 if v.putting|| !ot v who b then(v,false)else({wG v who had c with putting:=ie v.view (iP .i64 v.vowed (cN who))},ie v.view (iP .i64 v.vowed (cN who)))
def hO(v:VoteT)(who:Int)(b:BallotT):VoteT×Bool:=
 if !v.putting|| !ot v who b then(v,false)else({v with took:=iP .i64 v.took (cN who)},ie v.view (iP .i64 v.took (cN who)))
def setHeir(x:RowT)(who v:Int)(l:Vector CellT 4):RowT:=if h:cI who=true then {x with heir:=x.heir.set who.toNat v (cS h),left:=x.left.set who.toNat l (cS h)}else x
def uK(x:RowT)(who:Int):Vector CellT 4:=if h:cI who=true then x.left[who.toNat]'(cS h)else RowT.zero.cells
def m6(who:Int)(dead:RowT)(x:RowT)(i:Nat):RowT:=if((i:Nat):Int)≠who∧0<heirAt dead ((i:Nat):Int)∧heirAt x ((i:Nat):Int)=0 then setHeir x ((i:Nat):Int) (heirAt dead ((i:Nat):Int)) (uK dead ((i:Nat):Int))else x
def inhTo(x:RowT)(who:Int)(dead:RowT)(k:Nat):RowT:=(List.range k).foldl (m6 who dead) (setHeir x who (fx (dead.version+1)) dead.cells)
def cC(x:RowT)(who:Int)(dead:RowT):RowT×Int:=
 if !cI who then(.zero,5)else if 0<heirAt x who then(.zero,8)else({inhTo x who dead 5 with version:=fx ((inhTo x who dead 5).version+1)},0)
def kj(s:MS δ)(who:Int):Int:=if h:cI who=true then s.told[who.toNat]'(cS h)else 0
def lastAt(s:MS δ)(who:Int):RowT:=if h:cI who=true then s.last[who.toNat]'(cS h)else .zero
def um{α:Type}(v:Vector α 5)(w:Int)(x:α):Vector α 5:=if h:cI w=true then v.set w.toNat x (cS h)else v
def mf(s:MS δ)(who:Int)(y:RowT):MS δ:= {s with last:=if kj s who=0∨(lastAt s who).version<y.version then um s.last who y else s.last}
def toldS(s:MS δ)(from' who:Int)(y:RowT):MS δ:= {mf s who y with told:=um s.told who (iP .i64 (kj s who) (cN from'))}
def qo(s:MS δ)(who w:Int):Bool:=decide ((kj s who).fdiv (2^min w.toNat IntKind.i64.bits)%2=1)
def Bx(s:MS δ)(i:Nat):Bool:=decide (mg s.view ((i:Nat):Int)=some s.id)&&decide (heirAt s.own ((i:Nat):Int)≤0)
def iu(s:MS δ)(k:Nat):List Int:=((List.range k).filter (Bx s)).map λi:Nat=>((i:Nat):Int)
def bu(s:MS δ):List Int:=iu s 5
def toldAll(s:MS δ):Bool:=(bu s).all λi=>(ix i).all λw=>qo s i w
def mE(s:MS δ)(l:List Int):RowT:=l.foldl (λx i=>if 0<heirAt x i then x else(cC x i (lastAt s i)).1) s.own
def jp(v:ViewT):MsgT:= {MsgT.zero with kind:=7,view:=v}
def mX(i:Int)(v:ViewT):MsgT:= {MsgT.zero with kind:=8,whose:=i,view:=v}
def fI(ep:Int)(b:BallotT):MsgT:= {MsgT.zero with kind:=3,epoch:=ep,ballot:=b}
def j0(ep:Int)(b had:BallotT)(c:ChangeT):MsgT:= {MsgT.zero with kind:=4,epoch:=ep,ballot:=b,had:=had,change:=c}
def iO(ep:Int)(b:BallotT)(c:ChangeT):MsgT:= {MsgT.zero with kind:=5,epoch:=ep,ballot:=b,change:=c}
def jc(ep:Int)(b:BallotT):MsgT:= {MsgT.zero with kind:=6,epoch:=ep,ballot:=b}
def fW(ep:Int)(b:BallotT):RecT:= {RecT.zero with kind:=3,epoch:=ep,ballot:=b}
def mU(ep:Int)(b:BallotT)(c:ChangeT):RecT:= {RecT.zero with kind:=4,epoch:=ep,ballot:=b,change:=c}
def dx(s:MS δ)(n:Int):MS δ:= {s with round:=n}
def kS(s:MS δ)(v:VoteT):MS δ:= {s with vote:=some v}
def tT(s:MS δ)(a:AccT):MS δ:= {s with acc:=a}
variable (K:Dk δ)
def iG(s:MS δ)(l:List SaidT):MS δ:= {s with o:=if K.dn s.e then s.o else s.o++l}
def yt(s:MS δ)(to':Int)(m:MsgT):MS δ:=iG K s [⟨to',m⟩]
theorem qA(s:MS δ):iG K s []=s:=by
 unfold iG;rw[aW,ite_self]
theorem Jp(s:MS δ)(a b:List SaidT):iG K (iG K s a) b=iG K s (a++b):=by
 unfold iG
 by_cases h:K.dn s.e=true<;>simp[h]
def kr(f:MS δ→MS δ)(s:MS δ)(to':Int)(m:MsgT):MS δ:=if to'=s.id then f s else yt K s to' m
def dL(s:MS δ)(r:RecT):MS δ:= {s with e:=(K.pt s.e (eO r)).1}
def l7(s:MS δ)(r:RecT):Int:=(K.pt s.e (eO r)).2
def dp(s:MS δ)(op err val:Int):MS δ:= {s with replies:=s.replies++[⟨op,err,val⟩]}
def eV(s:MS δ):MS δ:=iG K s (oa (s.rep .nil))
def nF(id:Int)(m:MsgT)(p:Nat→Bool)(k:Nat):List SaidT:=((List.range k).filter λi:Nat=> !decide (((i:Nat):Int)=id)&&p i).map λi:Nat=>⟨((i:Nat):Int),m⟩
theorem jl(id:Int)(m:MsgT)(p:Nat→Bool)(k:Nat):nF id m p (k+1)=nF id m p k++(if((k:Nat):Int)≠id∧p k=true then [⟨((k:Nat):Int),m⟩]else []):=by
 unfold nF;rw[de,List.filter_append,ec]
 by_cases h:((k:Nat):Int)=id<;>by_cases h2:p k=true<;>simp[h,h2]
def jW(s:MS δ)(y:RowT):MS δ:=iG K s (nF s.id (pu s.id y) (λ_=>true) 5)
def kU(s:MS δ)(v:ViewT):MS δ:=iG K s (nF s.id (jp v) (λ_=>true) 5)
def pS(s:MS δ)(x:RowT)(op:Int):MS δ:= {s with own:=x,busy:=true,kept:=0,waits:=op}
def dD(s:MS δ)(x:RowT)(op:Int):MS δ×Int:=if l7 K s (e8 x)≠0 then(dL K s (e8 x),l7 K s (e8 x))else(eV K (pS (dL K s (e8 x)) x op),0)
def kW(s:MS δ):MS δ:=if s.busy||decide ((bu s).length=0)then s else if toldAll s then(dD K s (mE s (bu s)) 0).1 else s
def gO(s:MS δ):MS δ:= {s with busy:=false,book:=(eU s.book s.id s.own).1}
def li(s:MS δ):MS δ:= {s with replies:=if 0<s.waits then s.replies++[⟨s.waits,0,0⟩]else s.replies,waits:=if 0<s.waits then 0 else s.waits}
theorem y7{s:MS δ}(h:0<s.waits):li s= {dp s s.waits 0 0 with waits:=0}:=by unfold li;rw[if_pos h,if_pos h];rfl
theorem y8{s:MS δ}(h: ¬0<s.waits):li s=s:=by unfold li;rw[if_neg h,if_neg h]
def kC(s:MS δ):MS δ:=kW K (jW K (li (gO s)) s.own)
def kl(s:MS δ)(from' ver:Int):Bool:=s.busy&&(decide (ver=s.own.version)&&decide (from'∈ix s.id))
def rD(s:MS δ):Bool:=(ix s.id).all λw=> !uY s.kept w
def keptM(s:MS δ)(from':Int):MS δ:= {s with kept:=iP .i64 s.kept (cN from')}
def dh(s:MS δ)(from':Int)(m:MsgT):MS δ:=if kl s from' m.version then(if rD (keptM s from')then kC K (keptM s from')else keptM s from')else s
def xZ(s:MS δ)(w:Int)(y:RowT):MS δ:= {s with book:=(eU s.book w y).1}
def gN(s:MS δ)(w:Int)(y:RowT):MS δ:= {s with mirror:=(iz s.mirror w y).1}
def gD(s:MS δ)(from':Int)(m:MsgT):MS δ:=
 if m.whose≠from'∨eS s.mirror m.whose=true then s
 else if gX s.mirror m.whose m.row then(if l7 K s (gz m.whose m.row)≠0 then dL K s (gz m.whose m.row)else yt K (gN (dL K s (gz m.whose m.row)) m.whose m.row) from' (pB (mirRow (gN (dL K s (gz m.whose m.row)) m.whose m.row).mirror m.whose).version))
 else yt K s from' (pB (mirRow s.mirror m.whose).version)
def dw(s:MS δ)(from':Int)(m:MsgT):MS δ:=kW K (if from'∈ix m.whose then toldS s from' m.whose m.row else s)
def kQ(s:MS δ)(w:Int):MS δ:= {s with mirror:=je s.mirror w}
def eu(s:MS δ)(from' w:Int):MS δ:=
 let back:=λs:MS δ=>kr K (λs=>dw K s s.id (eR w (mirRow s.mirror w))) s from' (eR w (mirRow s.mirror w))
 if mg s.view w≠some from' then s
 else if eS s.mirror w then back s
 else if l7 K s (jX w)≠0 then dL K s (jX w)else back (kQ (dL K s (jX w)) w)
def gA(s:MS δ)(i w:Int):MS δ:=if qo s i w then s else kr K (λs=>eu K s s.id i) s w (mX i s.view)
def lP(s:MS δ)(i:Int):MS δ:=gA K (gA K s i ((i+1)%5)) i ((i+2)%5)
def fY(l:List Int)(s:MS δ):MS δ:=l.foldl (lP K) s
def nN(s:MS δ):MS δ:=fY K (bu s) s
def lA(s:MS δ)(v:ViewT):MS δ:= {s with view:=v,acc:= {AccT.zero with epoch:=v.epoch},vote:=none,round:=0}
def iT(s:MS δ)(v:ViewT):Bool:=decide (s.view.epoch<v.epoch)&&decide (l7 K s (kK v)=0)
def gl(s:MS δ)(v:ViewT):MS δ:=if v.epoch≤s.view.epoch then s else if l7 K s (kK v)≠0 then dL K s (kK v)else nN K (lA (dL K s (kK v)) v)
def iD(s:MS δ)(from':Int)(m:MsgT):MS δ:=eu K (gl K s m.view) from' m.whose
def iX(s:MS δ)(c:ChangeT):MS δ:=if(dF s.view c).2≠0 then s else if iT K s (dF s.view c).1 then kU K (gl K s (dF s.view c).1) (dF s.view c).1 else gl K s (dF s.view c).1
def el(f:MS δ→MS δ)(s:MS δ)(from':Int)(m:MsgT):MS δ:=
 if m.epoch<s.view.epoch then(if m.kind=3∨m.kind=5 then yt K s from' (jp s.view)else s)
 else if s.view.epoch<m.epoch∨iS s.view s.id=false then s
 else f (dx s (max s.round m.ballot.round))
def kc(from':Int)(m:MsgT)(s:MS δ):MS δ:=match s.vote with
 |none=>s
 |some vt=>if(hO vt from' m.ballot).2 then iX K (kS s (hO vt from' m.ballot).1) vt.change else(kS s (hO vt from' m.ballot).1)
def mA(s:MS δ)(from':Int)(m:MsgT):MS δ:=el K (kc K from' m) s from' m
def jC(from':Int)(m:MsgT)(s:MS δ):MS δ:=kr K (λs=>mA K s s.id (jc m.epoch m.ballot)) s from' (jc m.epoch m.ballot)
def l4(from':Int)(m:MsgT)(s:MS δ):MS δ:=
 if(dF s.view m.change).2≠0 then s else if(hX s.acc m.epoch m.ballot m.change).2=false then s
 else if(hX s.acc m.epoch m.ballot m.change).1.flat≠s.acc.flat then(if l7 K s (mU m.epoch m.ballot m.change)≠0 then dL K s (mU m.epoch m.ballot m.change)else jC K from' m (tT (dL K s (mU m.epoch m.ballot m.change)) (hX s.acc m.epoch m.ballot m.change).1))
 else jC K from' m s
def nu(s:MS δ)(from':Int)(m:MsgT):MS δ:=el K (l4 K from' m) s from' m
def iR(s:MS δ)(m:MsgT):MS δ:=iG K s (nF s.id m (λi=>iS s.view ((i:Nat):Int)) 5)
def gW(f:MS δ→MsgT→MS δ)(s:MS δ)(m:MsgT):MS δ:=if iS s.view s.id then f (iR K s m) m else iR K s m
def iH(s:MS δ)(vt:VoteT):MS δ:=gW K (λs m=>nu K s s.id m) s (iO s.view.epoch vt.ballot vt.change)
def nX(from':Int)(m:MsgT)(s:MS δ):MS δ:=match s.vote with
 |none=>s
 |some vt=>if(fi vt from' m.ballot m.had m.change).2 then iH K (kS s (fi vt from' m.ballot m.had m.change).1) (fi vt from' m.ballot m.had m.change).1 else(kS s (fi vt from' m.ballot m.had m.change).1)
def mB(s:MS δ)(from':Int)(m:MsgT):MS δ:=el K (nX K from' m) s from' m
def jS(from':Int)(m:MsgT)(a:AccT)(s:MS δ):MS δ:=kr K (λs=>mB K s s.id (j0 m.epoch m.ballot a.had a.change)) s from' (j0 m.epoch m.ballot a.had a.change)
def mR(from':Int)(m:MsgT)(s:MS δ):MS δ:=
 if(bS s.acc m.epoch m.ballot).2=false then s
 else if(bS s.acc m.epoch m.ballot).1.vow.flat≠s.acc.vow.flat then(if l7 K s (fW m.epoch m.ballot)≠0 then dL K s (fW m.epoch m.ballot)else jS K from' m (bS s.acc m.epoch m.ballot).1 (tT (dL K s (fW m.epoch m.ballot)) (bS s.acc m.epoch m.ballot).1))
 else jS K from' m (bS s.acc m.epoch m.ballot).1 s
def nv(s:MS δ)(from':Int)(m:MsgT):MS δ:=el K (mR K from' m) s from' m
def jE(s:MS δ)(vt:VoteT):MS δ:=gW K (λs m=>nv K s s.id m) s (fI s.view.epoch vt.ballot)
def lw(s:MS δ)(vt:VoteT):MS δ:=if vt.putting then iH K s vt else jE K s vt
def cR(s:MS δ):BallotT:=⟨fx (s.round+1),s.id⟩
def mG(s:MS δ)(c:ChangeT):MS δ:=kS (dx (tT (dL K s (fW s.view.epoch (cR s))) (bS s.acc s.view.epoch (cR s)).1) (cR s).round) (jr s.view (cR s) c)
def bF(s:MS δ)(c:ChangeT):MS δ×Int:=
 if(bS s.acc s.view.epoch (cR s)).2=false then(s,6)else if l7 K s (fW s.view.epoch (cR s))≠0 then(dL K s (fW s.view.epoch (cR s)),l7 K s (fW s.view.epoch (cR s)))else(mG K s c,0)
def fw(s:MS δ)(c:ChangeT):Int:=if(dF s.view c).2=0∧s.vote.isSome=true then 8 else(dF s.view c).2
def dm(s:MS δ)(op:Int)(c:ChangeT):MS δ×Int:=
 if fw s c≠0 then(dp s op (fw s c) 0,fw s c)
 else if(bF K s c).2≠0 then(dp (bF K s c).1 op (bF K s c).2 0,(bF K s c).2)
 else(lw K (dp (bF K s c).1 op 0 0) (jr s.view (cR s) c),0)
def cx(s:MS δ)(o:OpT):RowT×Int×Int:=kx (s.rep .nil) o
def opsS(s:MS δ):MS δ:= {s with ops:=fx (s.ops+1)}
def ld(s:MS δ)(o:OpT):MS δ×Int:=
 if(cx s o).2.2≠0∨o.kind=3 then(dp s s.ops (cx s o).2.2 (cx s o).2.1,(cx s o).2.2)
 else if(dD K s (cx s o).1 s.ops).2≠0 then(dp (dD K s (cx s o).1 s.ops).1 s.ops (dD K s (cx s o).1 s.ops).2 0,(dD K s (cx s o).1 s.ops).2)
 else((dD K s (cx s o).1 s.ops).1,0)
def bv(s:MS δ)(o:OpT):MS δ×Int:=if iS s.view s.id&&decide (o.kind=4)then dm K (opsS s) (opsS s).ops o.change else ld K (opsS s) o
def fQ(s:MS δ)(from':Int)(m:MsgT):MS δ:=
 if m.kind=0 then gD K s from' m else if m.kind=1 then dh K s from' m else if m.kind=2 then xZ s m.whose m.row
 else if m.kind=7 then gl K s m.view else if m.kind=8 then iD K s from' m else if m.kind=9 then dw K s from' m
 else if m.kind=3 then nv K s from' m else if m.kind=4 then mB K s from' m else if m.kind=5 then nu K s from' m else if m.kind=6 then mA K s from' m else s
def bG(s:MS δ):MS δ:=nN K (kW K (if s.busy=true then eV K s else s))
def bQ(s:MS δ):MS δ:=if 1<s.view.epoch then kU K s s.view else s
def fz(s:MS δ):MS δ:=if 0< (cj s.book s.id).version then jW K s (cj s.book s.id)else s
def pM(s:MS δ):MS δ:=match s.vote with
 |none=>s
 |some vt=>if(dF s.view vt.change).2=0 then(if(bF K s vt.change).2=0 then lw K (bF K s vt.change).1 (jr s.view (cR s) vt.change)else(bF K s vt.change).1)else s
def gU(s:MS δ):MS δ:=if iS (bQ K (bG K s)).view (bQ K (bG K s)).id then pM K (fz K (bQ K (bG K s)))else bQ K (bG K s)
def ir(s:MS δ)(m:RecT):MS δ:=
 if m.kind=0 then {s with own:=m.row,busy:=true,kept:=0}
 else if m.kind=1 then gN s m.whose m.row
 else if m.kind=2 then kQ s m.whose
 else if m.kind=3 then {s with acc:= {s.acc with vow:=m.ballot},round:=max s.round m.ballot.round}
 else if m.kind=4 then {s with acc:= {s.acc with vow:=m.ballot,had:=m.ballot,change:=m.change},round:=max s.round m.ballot.round}
 else if m.kind=5 then lA s m.view
 else s
def lr:List (List UInt8)→MS δ→Option (MS δ)
 | [],s=>some s
 |b::bs,s=>if(io b).2≠0 then none else lr bs (ir s (io b).1)
def Gf(id:Int)(e:δ):MS δ:=⟨id, .zero, .zero, .zero, .zero,0,none, .zero,false,0,0,0,[], #v[0,0,0,0,0], #v[RowT.zero,RowT.zero,RowT.zero,RowT.zero,RowT.zero],e,[]⟩
def tv(id:Int)(e:δ):MS δ:=lA (Gf id e) firstV
theorem HV{ls:List (List UInt8)}{k:Nat}{s:MS δ}(h:k<ls.length)(g:(io ls[k]).2≠0):lr (ls.drop k) s=none:=by
 rw[dI h,lr,if_pos g]
theorem Jy{ls:List (List UInt8)}{k:Nat}{s:MS δ}(h:k<ls.length)(g: ¬(io ls[k]).2≠0):lr (ls.drop k) s=lr (ls.drop (k+1)) (ir s (io ls[k]).1):=by
 rw[dI h,lr,if_neg g]
end Api
end

section
namespace Api
open Go Leg Codec Dsk Wal
theorem xN(m:RecT):(eO m).length≤3000:=by
 have h1:=iW m.row;have h2:=aU m.ballot.flat;have h4:=aU m.change.flat;have h5:=aU m.view.flat;have h6:=aU [m.kind,m.whose];have h8:=aU [m.kind,m.epoch];have h9:=aU [m.kind];simp only[BallotT.flat,ChangeT.flat,ViewT.flat,ax,aB,aA]at h2 h4 h5 h6 h8 h9;unfold eO
 repeat' split
 all_goals first|omega| (simp only[ai,BallotT.flat,ChangeT.flat,ViewT.flat,aB];omega)
abbrev yi(n:Int):Prop:= -9223372036854775808≤n∧n<9223372036854775808
theorem n4{n:Int}(h:yi n):(Lit.int .i64 n).wf=true:=by
 have m1:IntKind.i64.min= -9223372036854775808:=by decide
 have m2:IntKind.i64.max=9223372036854775807:=by decide
 simp only[Lit.wf,m1,m2,an,decide_eq_true_eq];omega
theorem n6(n:Int):yi (fx n):=by
 unfold fx yi;simp only[IntKind.wrap,IntKind.bits,IntKind.signed];simp;omega
structure CW(c:CellT):Prop where
 inn:yi c.inn
 out:yi c.out
 given: ∀(j:Nat) (h:j<5),yi c.given[j]
class OkRow(y:RowT):Prop where
 version:yi y.version
 cells: ∀(k:Nat) (h:k<4),CW y.cells[k]
 heir: ∀(i:Nat) (h:i<5),yi y.heir[i]
 left: ∀(i k:Nat) (h:i<5) (g:k<4),CW y.left[i][k]
theorem sN{α:Type}{n:Nat}{v:Vector α n}{x:α}(h:x∈v.toList): ∃(j:Nat) (h:j<n),x=v[j]:=by
 obtain⟨j,hj,rfl⟩:=gJ h;rw[aA]at hj;exact⟨j,hj,by simp⟩
theorem Bq{α:Type}{n:Nat}(v:Vector α n)(j:Nat)(h:j<n):v[j]∈v.toList:=by simp
theorem y5{m:Nat}{v:Vector CellT m}(h: ∀(k:Nat) (h:k<m),CW v[k]):WF (bI v.toList):=λn hn=>by
 obtain⟨c,hc,hn⟩:=kH.1 hn;obtain⟨k,hk,rfl⟩:=sN hc;simp only[CellT.flat,cn]at hn;rcases hn with rfl|rfl|hn
 · exact n4 (h k hk).inn
 · exact n4 (h k hk).out
 · obtain⟨j,hj,rfl⟩:=sN hn
   exact n4 ((h k hk).given j hj)
theorem OkRow.wf{x:RowT}(h:OkRow x):WF x.flat:=λn hn=>by
 simp only[RowT.flat,cn,eY]at hn;rcases hn with rfl|hn|hn|hn
 · exact n4 h.version
 · exact y5 h.cells n hn
 · obtain⟨j,hj,rfl⟩:=sN hn
   exact n4 (h.heir j hj)
 · obtain⟨v,hv,hn⟩:=kH.1 hn
   obtain⟨j,hj,rfl⟩:=sN hv;exact y5 (λk hk=>h.left j k hj hk) n hn
abbrev Eu:= @OkRow.wf
theorem CW.of{m:Nat}{v:Vector CellT m}(h:WF (bI v.toList))(k:Nat)(hk:k<m):CW v[k]:=by
 have q: ∀n∈v[k].flat,yi n:=λn hn=>y6 (h n (kH.2 ⟨_,Bq v k hk,hn⟩))
 exact⟨q _ (by simp[CellT.flat]),q _ (by simp[CellT.flat]),λj hj=>q _ (by simp[CellT.flat])⟩
theorem OkRow.of{x:RowT}(h:WF x.flat):OkRow x:=
 ⟨y6 (h _ (by simp[RowT.flat])),CW.of λn hn=>h n (by simp[RowT.flat,hn]),λi hi=>y6 (h _ (by simp[RowT.flat])),
  λi k hi hk=>CW.of (λn hn=>h n (by simp only[RowT.flat,cn,eY,kH];exact .inr (.inr (.inr ⟨_,Bq x.left i hi,hn⟩)))) k hk⟩
class OkVw(v:ViewT):Prop where
 rng:Rng v
 wf:WF v.flat
class OkVt(v:VoteT):Prop where
 view:OkVw v.view
 ballot:WF v.ballot.flat
 change:WF v.change.flat
 best:WF v.best.flat
class OkMg(m:MsgT):Prop where
 row:OkRow m.row
 view:OkVw m.view
 ballot:WF m.ballot.flat
 had:WF m.had.flat
 change:WF m.change.flat
variable {δ:Type}
class OkR(K:outParam (Dk δ))(s:MS δ):Prop where
 e:K.ok s.e
 id:cI s.id=true
 view:OkVw s.view
 own:OkRow s.own
 mir: ∀(i:Nat) (h:i<5),OkRow s.mirror.rows[i]
 book: ∀(i:Nat) (h:i<5),OkRow s.book.rows[i]
 last: ∀(i:Nat) (h:i<5),OkRow s.last[i]
 acc:WF s.acc.flat
 vote: ∀vt,s.vote=some vt→OkVt vt
variable {K:Dk δ}
instance OkRow.zero:OkRow RowT.zero:=OkRow.of tame_rzero.wf
theorem CW.zero:CW .zero:=⟨by decide,by decide,λj hj=>by
 match j,hj with
 |0,_|1,_|2,_|3,_|4,_=>exact⟨(by decide:(-9223372036854775808:Int)≤0),(by decide:(0:Int)<9223372036854775808)⟩⟩
instance {s:MS δ}[h:OkR K s]:OkRow s.own:=h.own
instance {s:MS δ}[h:OkR K s]:OkVw s.view:=h.view
instance {m:MsgT}[h:OkMg m]:OkRow m.row:=h.row
instance {m:MsgT}[h:OkMg m]:OkVw m.view:=h.view
theorem n7{α:Type}{n:Nat}{p:α→Prop}{v:Vector α n}{i:Nat}(hi:i<n){x:α}(h: ∀(j:Nat) (hj:j<n),p v[j])(hx:p x)(j:Nat)(hj:j<n):p (v.set i x hi)[j]:=by
 rw[Vector.getElem_set];split
 · exact hx
 · exact h j hj
instance {s:MS δ}[h:OkR K s](w:Int):OkRow (mirRow s.mirror w):=by unfold mirRow;split;exact h.mir _ _;exact .zero
instance {s:MS δ}[h:OkR K s](w:Int):OkRow (cj s.book w):=by unfold cj;split;exact h.book _ _;exact .zero
instance {s:MS δ}[h:OkR K s](w:Int):OkRow (lastAt s w):=by unfold lastAt;split;exact h.last _ _;exact .zero
theorem uW{x:RowT}[h:OkRow x](key:Int):CW (cellAt x key):=by unfold cellAt;split;exact h.cells _ _;exact .zero
theorem Iv{x:RowT}[h:OkRow x](i:Int):yi (heirAt x i):=by unfold heirAt;split;exact h.heir _ _;exact⟨by decide,by decide⟩
theorem Im{x:RowT}[h:OkRow x](i:Int)(k:Nat)(hk:k<4):CW (uK x i)[k]:=by unfold uK;split;exact h.left _ _ _ _;exact OkRow.zero.cells k hk
theorem xu{x:RowT}[h:OkRow x]{key n counts:Int}{c:CellT}(hc:CW c):OkRow (jJ x key n counts c).1:=by
 unfold jJ;split
 · exact .zero
 · refine⟨n6 _,λk hk=>?_,λi hi=>?_,λi k hi hk=>?_⟩
   · show CW (eF x key c).cells[k]
     unfold eF;split
     · exact n7 (p:=CW) (uO (by assumption)) h.cells hc k hk
     · exact h.cells k hk
   · show yi (eF x key c).heir[i]
     unfold eF;split<;>exact h.heir i hi
   · show CW (eF x key c).left[i][k]
     unfold eF;split<;>exact h.left i k hi hk
instance {x:RowT}[OkRow x](key n:Int):OkRow (pk x key n).1:=by
 unfold pk;split
 · have:=uW (x:=x) key
   exact xu ⟨n6 _,this.out,this.given⟩
 · exact .zero
instance {x:RowT}[OkRow x](key n:Int):OkRow (pm x key n).1:=by
 unfold pm;split
 · have:=uW (x:=x) key
   exact xu ⟨this.inn,n6 _,this.given⟩
 · exact .zero
instance {x:RowT}[OkRow x](key n to':Int):OkRow (lV x key n to').1:=by
 unfold lV;split
 · have:=uW (x:=x) key
   refine xu ?_;unfold qK;split
   · exact⟨this.inn,this.out,n7 (p:=yi) (cS (by assumption)) this.given (n6 _)⟩
   · exact this
 · exact .zero
theorem wY{x:RowT}(h:OkRow x){w v:Int}{l:Vector CellT 4}(hv:yi v)(hl: ∀(k:Nat) (h:k<4),CW l[k]):OkRow (setHeir x w v l):=by
 unfold setHeir;split
 · exact⟨h.version,h.cells,n7 (p:=yi) (cS (by assumption)) h.heir hv,λi k hi hk=>n7 (p:=λu:Vector CellT 4=>CW u[k]) (cS (by assumption)) (λj hj=>h.left j k hj hk) (hl k hk) i hi⟩
 · exact h
instance {x d:RowT}[h:OkRow x][g:OkRow d](who:Int):OkRow (cC x who d).1:=by
 have q: ∀k,OkRow (inhTo x who d k):=λk=>by
  induction k with
  |zero=>exact wY h (n6 _) g.cells
  |succ k ih=>
   have e:inhTo x who d (k+1)=m6 who d (inhTo x who d k) k:=by unfold inhTo;rw[de,fk];rfl
   rw[e];unfold m6;split
   · exact wY ih (Iv _) (Im _)
   · exact ih
 unfold cC;split
 · exact .zero
 split
 · exact .zero
 · exact⟨n6 _,(q 5).cells,(q 5).heir,(q 5).left⟩
instance {s:MS δ}[h:OkR K s](l:List Int):OkRow (mE s l):=by
 have: ∀(l:List Int) (x:RowT),OkRow x→OkRow (l.foldl (λx i=>if 0<heirAt x i then x else(cC x i (lastAt s i)).1) x):=λl=>by
  induction l with
  |nil=>exact λx hx=>hx
  |cons i l ih=>exact λx hx=>ih _ (by dsimp only;split;exact hx;exact inferInstance)
 exact this l _ h.own
instance {s:MS δ}[h:OkR K s](o:OpT):OkRow (cx s o).1:=by
 have:OkRow (fL (s.rep .nil) o).1:=by
  unfold fL
  repeat' split
  all_goals first|exact .zero|exact inferInstanceAs (OkRow (pk s.own _ _).1)|exact inferInstanceAs (OkRow (pm s.own _ _).1)|exact inferInstanceAs (OkRow (lV s.own _ _ _).1)
 unfold cx kx
 repeat' split
 all_goals first|exact .zero|exact this
theorem xG{l:List Int}{k:Nat}(h:k<l.length):(ints l)[k]?=some (.int .i64 (l.getD k 0)):=by simp[ints,h,List.getD_eq_getElem?_getD]
theorem pE(s:MS δ)(k:Nat):iu s (k+1)=iu s k++(if Bx s k then [((k:Nat):Int)]else []):=by
 unfold iu;rw[de,List.filter_append,ec]
 by_cases h:Bx s k=true<;>simp[h]
theorem wX(b:Int)(k:Nat):lG b (k+1)=lG b k++(if IQ b ((k:Nat):Int)then [((k:Nat):Int)]else []):=by
 unfold lG;rw[de,List.filter_append,ec]
 by_cases h:IQ b ((k:Nat):Int)=true<;>simp[h]
theorem uo(b:Int)(k:Nat):(lG b k).length≤k:=by
 unfold lG;rw[bY];exact jT (BY _ _) (by simp)
theorem uR{v:ViewT}{w i:Int}(h:(mg v w).isSome=true)(g:(mg v w).getD 0=i):mg v w=some i:=by
 cases q:mg v w with
 |none=>rw[q]at h;cases h
 |some z=>rw[q]at g;rw[←g];rfl
theorem Bw{s:MS δ}{k:Nat}(h:Bx s k=true):mg s.view ((k:Nat):Int)=some s.id∧heirAt s.own ((k:Nat):Int)≤0:=by
 unfold Bx at h;rw[an,decide_eq_true_iff,decide_eq_true_iff]at h;exact h
theorem NR{s:MS δ}{k:Nat}(h1:(mg s.view ((k:Nat):Int)).isSome=true)(h2:(mg s.view ((k:Nat):Int)).getD 0=s.id)(h3:heirAt s.own ((k:Nat):Int)≤0):Bx s k=true:=by
 unfold Bx;rw[an,decide_eq_true_iff,decide_eq_true_iff];refine⟨?_,h3⟩;cases q:mg s.view ((k:Nat):Int)with
 |none=>rw[q]at h1;cases h1
 |some z=>rw[q]at h2;rw[←h2];rfl
theorem Ah(s:MS δ)(k:Nat):(iu s k).length≤k:=by
 unfold iu;rw[bY];exact jT (BY _ _) (by simp)
theorem NN{x d:RowT}{who:Int}(h:cI who=true)(h2: ¬0<heirAt x who):(cC x who d).2=0:=by
 rw[cC,h,if_neg (by decide),if_neg h2]
theorem Ed(K:Dk δ){l:List Int}{q:Nat}(h:q<l.length)(s:MS δ):fY K (l.take (q+1)) s=lP K (fY K (l.take q) s) (l.getD q 0):=by
 unfold fY;rw[da h,fk,List.getD_eq_getElem?_getD,List.getElem?_eq_getElem h];rfl
theorem vz(s:MS δ){l:List Int}{q:Nat}(h:q<l.length):mE s (l.take (q+1))=(if 0<heirAt (mE s (l.take q)) (l.getD q 0)then mE s (l.take q)else(cC (mE s (l.take q)) (l.getD q 0) (lastAt s (l.getD q 0))).1):=by
 unfold mE;rw[da h,fk,List.getD_eq_getElem?_getD,List.getElem?_eq_getElem h];rfl
theorem tL{s:MS δ}{i:Int}(h:i∈bu s):cI i=true∧mg s.view i=some s.id∧heirAt s.own i≤0:=by
 unfold bu iu at h;rw[gd]at h;obtain⟨k,hk,rfl⟩:=h;rw[List.mem_filter,eX]at hk;have h2:=hk.2;unfold Bx at h2;rw[an,decide_eq_true_iff,decide_eq_true_iff]at h2;exact⟨decide_eq_true ⟨by omega,by omega⟩,h2.1,h2.2⟩
theorem hY(x:RowT){k:Nat}(h:k<5):heirAt x ((k:Nat):Int)=x.heir[k]:=by
 rw[heirAt,dif_pos (show cI ((k:Nat):Int)=true from decide_eq_true ⟨by omega,by omega⟩)];rfl
theorem I8(w:Int):(ix w).length≤1000000:=by unfold ix;split<;>simp
theorem GQ{k:Nat}(h:k<5):cI ((k:Nat):Int)=true:=decide_eq_true ⟨by omega,by omega⟩
theorem Io(x:RowT){k:Nat}(h:k<5):uK x ((k:Nat):Int)=x.left[k]:=by
 rw[uK,dif_pos (GQ h)];rfl
theorem E6(x:RowT){k:Nat}(h:k<5)(v:Int)(l:Vector CellT 4):setHeir x ((k:Nat):Int) v l= {x with heir:=x.heir.set k v h,left:=x.left.set k l h}:=by
 rw[setHeir,dif_pos (GQ h)];rfl
theorem lN(x:RowT)(who:Int)(dead:RowT)(k:Nat):inhTo x who dead (k+1)=m6 who dead (inhTo x who dead k) k:=by unfold inhTo;rw[de,fk];rfl
instance OkVw.first:OkVw firstV:=⟨Rng.first,λn hn=>by
 have h:n∈[(1:Int),7,0,0,0,0,0]:=hn;simp only[cn,List.not_mem_nil,or_false,or_self]at h
 rcases h with rfl|rfl|rfl<;>decide⟩
instance OkVw.zero:OkVw ViewT.zero:=⟨Rng.zero,λn hn=>by
 have h:n∈[(0:Int),0,0,0,0,0,0]:=hn;simp only[cn,List.not_mem_nil,or_false,or_self]at h
 rcases h with rfl;decide⟩
theorem EK{v:ViewT}(h1:yi v.epoch)(h2:yi v.members)(hr:Rng v):WF v.flat:=λn hn=>by
 simp only[ViewT.flat,cn]at hn;rcases hn with rfl|rfl|hn
 · exact n4 h1
 · exact n4 h2
 · obtain⟨j,hj,rfl⟩:=sN hn
   have:=hr j hj;exact n4 ⟨by omega,by omega⟩
theorem sG(n:Int):yi (IntKind.i64.wrap n):=n6 n
instance OkVw.next{v:ViewT}[h:OkVw v](c:ChangeT):OkVw (dF v c).1:=by
 unfold dF;split
 · exact .zero
 split
 · split
   · exact .zero
   · exact⟨h.rng,EK (sG _) (sG _) h.rng⟩
 split
 · split
   · exact .zero
   · have hr:Rng ⟨IntKind.i64.wrap (v.epoch+1),nb .i64 v.members (2^c.who.toNat),si v c⟩:=λi hi=>by
      show 0≤(si v c)[i]∧(si v c)[i]≤5;unfold si;rw[Vector.getElem_mapIdx];unfold uM;split
      · have hm:cI c.heir=true:=by
         rename_i q _ _ _ _;simp only[rr,Bool.not_eq_true',not_or,Bool.not_eq_false]at q;exact q.2
        have hm2:0≤c.heir∧c.heir<5:=of_decide_eq_true hm;omega
      · exact h.rng i hi
     exact⟨hr,EK (sG _) (sG _) hr⟩
 · exact .zero
theorem KC{b:BallotT}(h1:yi b.round)(h2:yi b.who):WF b.flat:=λn hn=>by
 have h:n∈[b.round,b.who]:=hn;simp only[cn,List.not_mem_nil,or_false]at h;rcases h with rfl|rfl
 · exact n4 h1
 · exact n4 h2
theorem iv:WF BallotT.zero.flat:=KC (by decide) (by decide)
theorem p4:WF ChangeT.zero.flat:=λn hn=>by
 have h:n∈[(0:Int),0,0]:=hn;simp only[cn,List.not_mem_nil,or_false,or_self]at h;rcases h with rfl;decide
instance OkMg.sealed(w:Int)(y:RowT)[h:OkRow y]:OkMg (eR w y):=⟨h, .zero,iv,iv,p4⟩
instance OkMg.sealW(w:Int)(v:ViewT)[h:OkVw v]:OkMg (mX w v):=⟨.zero,h,iv,iv,p4⟩
section
variable {s:MS δ}
instance [h:OkR K s](l:List SaidT):OkR K (iG K s l):=⟨h.e,h.id,h.view,h.own,h.mir,h.book,h.last,h.acc,h.vote⟩
instance {p:Prop}[Decidable p]{a b:MS δ}[ha:OkR K a][hb:OkR K b]:OkR K (if p then a else b):=by split;exact ha;exact hb
instance {f:MS δ→MS δ}{t:Int}{m:MsgT}[h:OkR K s][hf:OkR K (f s)]:OkR K (kr K f s t m):=by
 unfold kr;split
 · exact hf
 · exact⟨h.e,h.id,h.view,h.own,h.mir,h.book,h.last,h.acc,h.vote⟩
instance [h:OkR K s](t:Int)(m:MsgT):OkR K (yt K s t m):=inferInstanceAs (OkR K (iG K s _))
instance [h:OkR K s](r:RecT):OkR K (dL K s r):=⟨K.sure _ _ h.e (xN r),h.id,h.view,h.own,h.mir,h.book,h.last,h.acc,h.vote⟩
instance [h:OkR K s](a b c:Int):OkR K (dp s a b c):=⟨h.e,h.id,h.view,h.own,h.mir,h.book,h.last,h.acc,h.vote⟩
instance [h:OkR K s]:OkR K (opsS s):=⟨h.e,h.id,h.view,h.own,h.mir,h.book,h.last,h.acc,h.vote⟩
instance [h:OkR K s](f:Int):OkR K (keptM s f):=⟨h.e,h.id,h.view,h.own,h.mir,h.book,h.last,h.acc,h.vote⟩
instance [h:OkR K s]:OkR K (li s):=⟨h.e,h.id,h.view,h.own,h.mir,h.book,h.last,h.acc,h.vote⟩
theorem zy{b:BookT}{w:Int}{x:RowT}(h: ∀(i:Nat) (h:i<5),OkRow b.rows[i])(hx:OkRow x): ∀(i:Nat) (h:i<5),OkRow (eU b w x).1.rows[i]:=by
 unfold eU;split
 · unfold xk
   split
   · exact n7 (p:=OkRow) (cS (by assumption)) h hx
   · exact h
 · exact h
instance OkR.merge[h:OkR K s](w:Int)(x:RowT)[hx:OkRow x]:OkR K (xZ s w x):=⟨h.e,h.id,h.view,h.own,h.mir,zy h.book hx,h.last,h.acc,h.vote⟩
instance [h:OkR K s]:OkR K (gO s):=⟨h.e,h.id,h.view,h.own,h.mir,zy h.book h.own,h.last,h.acc,h.vote⟩
theorem Fz{b:MirT}{w:Int}{x:RowT}(h: ∀(i:Nat) (h:i<5),OkRow b.rows[i])(hx:OkRow x): ∀(i:Nat) (h:i<5),OkRow (iz b w x).1.rows[i]:=by
 unfold iz;split
 · unfold sc
   split
   · exact n7 (p:=OkRow) (cS (by assumption)) h hx
   · exact h
 · exact h
instance [h:OkR K s](w:Int)(x:RowT)[hx:OkRow x]:OkR K (gN s w x):=⟨h.e,h.id,h.view,h.own,Fz h.mir hx,h.book,h.last,h.acc,h.vote⟩
instance [h:OkR K s](w:Int):OkR K (kQ s w):=⟨h.e,h.id,h.view,h.own,λi hi=>by
 show OkRow (je s.mirror w).rows[i]
 unfold je;split<;>exact h.mir i hi,h.book,h.last,h.acc,h.vote⟩
instance [h:OkR K s](x:RowT)[hx:OkRow x](op:Int):OkR K (pS s x op):=⟨h.e,h.id,h.view,hx,h.mir,h.book,h.last,h.acc,h.vote⟩
instance [OkR K s]:OkR K (eV K s):=inferInstanceAs (OkR K (iG K s _))
instance [OkR K s](y:RowT):OkR K (jW K s y):=inferInstanceAs (OkR K (iG K s _))
instance [OkR K s](v:ViewT):OkR K (kU K s v):=inferInstanceAs (OkR K (iG K s _))
instance [OkR K s](m:MsgT):OkR K (iR K s m):=inferInstanceAs (OkR K (iG K s _))
instance [OkR K s](x:RowT)[OkRow x](op:Int):OkR K (dD K s x op).1:=by unfold dD;split<;>exact inferInstance
instance [h:OkR K s]:OkR K (kW K s):=by
 unfold kW;split
 · exact h
 split
 · exact inferInstance
 · exact h
instance [OkR K s]:OkR K (kC K s):=by unfold kC;exact inferInstance
instance [h:OkR K s](f:Int)(m:MsgT):OkR K (dh K s f m):=by
 unfold dh
 repeat' split
 all_goals exact inferInstance
instance [h:OkR K s](f:Int)(m:MsgT)[OkMg m]:OkR K (gD K s f m):=by
 unfold gD
 repeat' split
 all_goals exact inferInstance
theorem Lt{v:Vector RowT 5}{w:Int}{x:RowT}(h: ∀(i:Nat) (h:i<5),OkRow v[i])(hx:OkRow x): ∀(i:Nat) (h:i<5),OkRow (um v w x)[i]:=by
 unfold um;split
 · exact n7 (p:=OkRow) (cS (by assumption)) h hx
 · exact h
instance [h:OkR K s](w:Int)(x:RowT)[hx:OkRow x]:OkR K (mf s w x):=⟨h.e,h.id,h.view,h.own,h.mir,h.book,by
 show ∀(i:Nat) (h:i<5),OkRow (if kj s w=0∨(lastAt s w).version<x.version then um s.last w x else s.last)[i];split
 · exact Lt h.last hx
 · exact h.last,h.acc,h.vote⟩
instance [OkR K s](f w:Int)(y:RowT)[OkRow y]:OkR K (toldS s f w y):=by
 have h:OkR K (mf s w y):=inferInstance;exact⟨h.e,h.id,h.view,h.own,h.mir,h.book,h.last,h.acc,h.vote⟩
instance [h:OkR K s](f:Int)(m:MsgT)[OkMg m]:OkR K (dw K s f m):=by unfold dw;split<;>exact inferInstance
theorem w4[OkR K s]{f:MS δ→MS δ}(hf:OkR K (f s))(t:Int)(m:MsgT):OkR K (kr K f s t m):=by unfold kr;split;exact hf;exact inferInstance
instance [h:OkR K s](f w:Int):OkR K (eu K s f w):=by
 unfold eu
 repeat' split
 · exact h
 · exact w4 inferInstance _ _
 · exact inferInstance
 · exact w4 inferInstance _ _
instance [h:OkR K s](i w:Int):OkR K (gA K s i w):=by
 unfold gA;split
 · exact h
 · exact w4 inferInstance _ _
instance [OkR K s](i:Int):OkR K (lP K s i):=by unfold lP;exact inferInstance
theorem uV: ∀(l:List Int) (s:MS δ),OkR K s→OkR K (fY K l s)
 | [],_,h=>h
 |i::l,s,h=>uV l (lP K s i) inferInstance
instance [h:OkR K s]:OkR K (nN K s):=uV _ _ h
theorem PA(n:Int)(h:yi n):WF ({AccT.zero with epoch:=n}:AccT).flat:=λk hk=>by
 have q:k∈[n,0,0,0,0,0,0,0]:=hk;simp only[cn,List.not_mem_nil,or_false,or_self]at q;rcases q with rfl|rfl
 · exact n4 h
 · decide
instance [h:OkR K s](v:ViewT)[hv:OkVw v]:OkR K (lA s v):=⟨h.e,h.id,hv,h.own,h.mir,h.book,h.last,PA _ (y6 (hv.wf _ (by simp[ViewT.flat]))),λ_ e=>nomatch e⟩
instance [h:OkR K s](v:ViewT)[OkVw v]:OkR K (gl K s v):=by
 unfold gl
 repeat' split
 all_goals exact inferInstance
instance [h:OkR K s](f:Int)(m:MsgT)[OkMg m]:OkR K (iD K s f m):=by unfold iD;exact inferInstance
instance [h:OkR K s](c:ChangeT):OkR K (iX K s c):=by
 unfold iX
 repeat' split
 all_goals exact inferInstance
class OkAc(a:AccT):Prop where wf:WF a.flat
instance [h:OkR K s]:OkAc s.acc:=⟨h.acc⟩
theorem oD{a b:List Int}(h:WF (a++b)):WF a:=λn hn=>h n (List.mem_append_left _ hn)
theorem ua{a b:List Int}(h:WF (a++b)):WF b:=λn hn=>h n (List.mem_append_right _ hn)
theorem OkAc.vow{a:AccT}(h:OkAc a):WF a.vow.flat:=ua (oD (oD h.wf))
theorem OkAc.had{a:AccT}(h:OkAc a):WF a.had.flat:=ua (oD h.wf)
theorem OkAc.change{a:AccT}(h:OkAc a):WF a.change.flat:=ua h.wf
theorem OkAc.epoch{a:AccT}(h:OkAc a):WF [a.epoch]:=oD (oD (oD h.wf))
theorem OkAc.ask{a:AccT}(h:OkAc a){ep:Int}{b:BallotT}(hb:WF b.flat):OkAc (bS a ep b).1:=by
 unfold bS;split
 · exact h
 · exact⟨mz (mz (mz h.epoch hb) h.had) h.change⟩
theorem OkAc.put{a:AccT}(h:OkAc a){ep:Int}{b:BallotT}{c:ChangeT}(hb:WF b.flat)(hc:WF c.flat):OkAc (hX a ep b c).1:=by
 unfold hX;split
 · exact h
 · exact⟨mz (mz (mz h.epoch hb) hb) hc⟩
instance [h:OkR K s](n:Int):OkR K (dx s n):=⟨h.e,h.id,h.view,h.own,h.mir,h.book,h.last,h.acc,h.vote⟩
instance [h:OkR K s](v:VoteT)[hv:OkVt v]:OkR K (kS s v):=⟨h.e,h.id,h.view,h.own,h.mir,h.book,h.last,h.acc,λ_ e=>bm e▸hv⟩
instance [h:OkR K s](a:AccT)[ha:OkAc a]:OkR K (tT s a):=⟨h.e,h.id,h.view,h.own,h.mir,h.book,h.last,ha.wf,h.vote⟩
instance {v:VoteT}[h:OkVt v]{m:MsgT}[hm:OkMg m](w:Int):OkVt (fi v w m.ballot m.had m.change).1:=by
 unfold fi;split
 · exact h
 · unfold wG
   split
   · exact⟨h.view,h.ballot,hm.change,hm.had⟩
   · exact⟨h.view,h.ballot,h.change,h.best⟩
instance {v:VoteT}[h:OkVt v](w:Int)(b:BallotT):OkVt (hO v w b).1:=by
 unfold hO;split
 · exact h
 · exact⟨h.view,h.ballot,h.change,h.best⟩
instance {m:MsgT}[hm:OkMg m][h:OkR K s](ep:Int):OkAc (bS s.acc ep m.ballot).1:=OkAc.ask ⟨h.acc⟩ hm.ballot
instance {m:MsgT}[hm:OkMg m][h:OkR K s](ep:Int):OkAc (hX s.acc ep m.ballot m.change).1:=OkAc.put ⟨h.acc⟩ hm.ballot hm.change
instance tookF_ok[h:OkR K s](f:Int)(m:MsgT):OkR K (kc K f m s):=by
 unfold kc;split
 · exact h
 · rename_i vt hv
   have:=h.vote vt hv;split<;>exact inferInstance
theorem sL[h:OkR K s]{f:MS δ→MS δ}(hf: ∀s:MS δ,OkR K s→OkR K (f s))(w:Int)(m:MsgT):OkR K (el K f s w m):=by
 unfold el
 repeat' split
 · exact inferInstance
 · exact h
 · exact h
 · exact hf _ inferInstance
instance [OkR K s](w:Int)(m:MsgT):OkR K (mA K s w m):=sL (λ_ _=>inferInstance) w m
instance [h:OkR K s](w:Int)(m:MsgT):OkR K (jC K w m s):=by unfold jC;exact inferInstance
instance [h:OkR K s](w:Int)(m:MsgT)[OkMg m]:OkR K (l4 K w m s):=by
 unfold l4
 repeat' split
 all_goals exact inferInstance
instance [OkR K s](w:Int)(m:MsgT)[OkMg m]:OkR K (nu K s w m):=sL (λ_ _=>inferInstance) w m
instance OkMg.putM(ep:Int){vt:VoteT}[h:OkVt vt]:OkMg (iO ep vt.ballot vt.change):=⟨.zero, .zero,h.ballot,iv,h.change⟩
instance OkMg.askM(ep:Int){vt:VoteT}[h:OkVt vt]:OkMg (fI ep vt.ballot):=⟨.zero, .zero,h.ballot,iv,p4⟩
instance OkMg.takenM(ep:Int){m:MsgT}[h:OkMg m]:OkMg (jc ep m.ballot):=⟨.zero, .zero,h.ballot,iv,p4⟩
theorem OkMg.promM(ep:Int){m:MsgT}[h:OkMg m]{a:AccT}(ha:OkAc a):OkMg (j0 ep m.ballot a.had a.change):=⟨.zero, .zero,h.ballot,ha.had,ha.change⟩
theorem vl[h:OkR K s]{f:MS δ→MsgT→MS δ}{m:MsgT}(hf: ∀s:MS δ,OkR K s→OkR K (f s m)):OkR K (gW K f s m):=by
 unfold gW;split
 · exact hf _ inferInstance
 · exact inferInstance
instance [h:OkR K s](vt:VoteT)[OkVt vt]:OkR K (iH K s vt):=vl λ_ _=>inferInstance
instance [h:OkR K s](f:Int)(m:MsgT)[OkMg m]:OkR K (nX K f m s):=by
 unfold nX;split
 · exact h
 · rename_i vt hv
   have:=h.vote vt hv;split<;>exact inferInstance
instance [OkR K s](w:Int)(m:MsgT)[OkMg m]:OkR K (mB K s w m):=sL (λ_ _=>inferInstance) w m
theorem ya[h:OkR K s](w:Int)(m:MsgT)[OkMg m]{a:AccT}(ha:OkAc a):OkR K (jS K w m a s):=by
 have:=OkMg.promM m.epoch (m:=m) ha;unfold jS;exact inferInstance
instance [h:OkR K s](w:Int)(m:MsgT)[OkMg m]:OkR K (mR K w m s):=by
 unfold mR
 repeat' split
 · exact h
 · exact inferInstance
 · exact ya w m inferInstance
 · exact ya w m inferInstance
instance [OkR K s](w:Int)(m:MsgT)[OkMg m]:OkR K (nv K s w m):=sL (λ_ _=>inferInstance) w m
instance [h:OkR K s](vt:VoteT)[OkVt vt]:OkR K (jE K s vt):=vl λ_ _=>inferInstance
instance [h:OkR K s](vt:VoteT)[OkVt vt]:OkR K (lw K s vt):=by unfold lw;split<;>exact inferInstance
theorem EI{v:VoteT}{w:Int}{b had:BallotT}{c:ChangeT}(h:(fi v w b had c).2=true):(fi v w b had c).1.putting=true:=by
 unfold fi at h ⊢;split
 · rename_i q;rw[if_pos q]at h;cases h
 · rename_i q;rw[if_neg q]at h;exact h
theorem Jg(s:MS δ)[h:OkR K s]:WF (cR s).flat:=KC (n6 _) (by have:0≤s.id∧s.id<5:=of_decide_eq_true h.id;exact⟨by show _≤s.id;omega,by show s.id<_;omega⟩)
class OkCh(c:ChangeT):Prop where wf:WF c.flat
instance newVote_ok[h:OkR K s](c:ChangeT)[hc:OkCh c]:OkVt (jr s.view (cR s) c):=⟨h.view,Jg s,hc.wf,iv⟩
instance {vt:VoteT}[h:OkVt vt]:OkCh vt.change:=⟨h.change⟩
instance [h:OkR K s](c:ChangeT)[OkCh c]:OkR K (mG K s c):=by
 have:OkAc (bS s.acc s.view.epoch (cR s)).1:=OkAc.ask ⟨h.acc⟩ (Jg s);unfold mG;exact inferInstance
instance [h:OkR K s](c:ChangeT)[OkCh c]:OkR K (bF K s c).1:=by
 unfold bF
 repeat' split
 all_goals exact inferInstance
theorem sx{c:ChangeT}(h:(bF K s c).2=0):(bF K s c).1.vote=some (jr s.view (cR s) c):=by
 unfold bF at h ⊢
 by_cases h1:(bS s.acc s.view.epoch (cR s)).2=false
 · rw[if_pos h1]at h;cases h
 by_cases h2:l7 K s (fW s.view.epoch (cR s))≠0
 · rw[if_neg h1,if_pos h2]at h;exact absurd h h2
 · rw[if_neg h1,if_neg h2];rfl
instance [h:OkR K s](op:Int)(c:ChangeT)[OkCh c]:OkR K (dm K s op c).1:=by
 unfold dm
 repeat' split
 all_goals exact inferInstance
instance [h:OkR K s](o:OpT):OkR K (ld K s o).1:=by
 unfold ld
 repeat' split
 all_goals exact inferInstance
instance [h:OkR K s](o:OpT)[OkCh o.change]:OkR K (bv K s o).1:=by unfold bv;split<;>exact inferInstance
instance [h:OkR K s]:OkR K (bG K s):=by unfold bG;exact inferInstance
instance [h:OkR K s]:OkR K (bQ K s):=by unfold bQ;exact inferInstance
instance [h:OkR K s]:OkR K (fz K s):=by unfold fz;exact inferInstance
instance [h:OkR K s]:OkR K (pM K s):=by
 unfold pM;split
 · exact h
 · rename_i vt hv
   have:=h.vote vt hv
   repeat' split
   all_goals exact inferInstance
instance [h:OkR K s]:OkR K (gU K s):=by unfold gU;exact inferInstance
instance [h:OkR K s](f:Int)(m:MsgT)[OkMg m]:OkR K (fQ K s f m):=by
 unfold fQ
 repeat' split
 all_goals exact inferInstance
theorem jm(s:MS δ)(c:ChangeT):(bF K s c).1.replies=s.replies:=by
 unfold bF;split
 · rfl
 · split<;>rfl
theorem j5(s:MS δ)(x:RowT)(op:Int):(dD K s x op).1.replies=s.replies:=by unfold dD;split<;>rfl
end
end Api
end

section
namespace Leg
open Go Codec Api Go.Conc
section
variable {P:Program} {w0:World} {F:Hl} {n:Nat} {ops:Array Oper} {Q:QQ} {is:List Nat} {D:List Deferred} {L:List (Nat×Value)} {H:List HP} {i d:Nat} {o:Oper}
theorem TX.recv1{x:Operand}{t e:TypeId}{dir:ChanDir}{c cap s r:Nat}{z v:Value}{vs vs0:List Value}(k:Nat)(ho:ops[i]?=some o)(hw:Want n D ops o L)(hop:o.op= .recv t x false)(hd:o.dst=some d)(hn:Nat.blt d n=true)(ht:P.underlying t=some (.chan dir e))(hz:(P.info? e).map (·.zero)=some (some z))
 (hx:cK L x=some (.chan (some c))) (hk:Nat.blt k H.length=true) (hH:H.getD k (λ_=>True)=ez c cap vs0 s r) (he:vs0=v::vs)
 (h:TX P w0 F n ops Q is D ((d,v)::L) (H.set k (ez c cap vs s (r+1)))):TX P w0 F n ops Q (i::is) D L H:=λa w f sm m=>by
 subst he;have hc:=m.chan k hk hH
 have hr:(execOp a.eval o).run P w= .ok (.comm #[{chan:= .chan (some c),send:=none,zero:=z}] true (.recv false)) w:=by
  simp[execOp,hop,f.eval hx,Sem.run_bind,run_underlying ht,oN hz]
 refine N4 (v:=v) (w2:=w.setChan c cap vs.toArray false s (r+1) false) ho (hw a f) hr (λfr cs es hs=>?_) ?_
 · have:=step_lone_recv_buf false hs hc (by simp)
   rw[this];simp[got]
 · rw[hd]
   exact h _ _ (f.put (lb hn) _) (sm.setChan ..) (m.setChan k hk hH)
theorem TX.send1{x y:Operand}{c cap s r:Nat}{v:Value}{vs:List Value}(k:Nat)(ho:ops[i]?=some o)(hw:Want n D ops o L)(hop:o.op= .send x y)(hd:o.dst=none)
 (hx:cK L x=some (.chan (some c))) (hy:cK L y=some v) (hk:Nat.blt k H.length=true) (hH:H.getD k (λ_=>True)=ez c cap vs s r) (hroom:vs.length<cap)
 (h:TX P w0 F n ops Q is D L (H.set k (ez c cap (vs++[v]) (s+1) r))):TX P w0 F n ops Q (i::is) D L H:=λa w f sm m=>by
 have hc:=m.chan k hk hH
 have hr:(execOp a.eval o).run P w= .ok (.comm #[{chan:= .chan (some c),send:=some v,zero:= .tuple #[]}] true .send) w:=by
  simp[execOp,hop,f.eval hx,f.eval hy,Sem.run]
 refine N4 (v:=undef) (w2:=w.setChan c cap (vs++[v]).toArray false (s+1) r false) ho (hw a f) hr (λfr cs es hs=>?_) ?_
 · have:=step_lone_send_room hs hc (by simpa using hroom)
   rw[this];simp
 · rw[hd]
   exact h _ _ f (sm.setChan ..) (m.setChan k hk hH)
end
def DL(k:Nat)(u:Value):Value:=if k=0 then .slice none 0 0 else u
theorem Jw{α:Type}{l:List α}{k:Nat}(h:k<l.length):l.drop k++l.take k=l[k]::(l.drop (k+1)++l.take k):=by rw[dI h];rfl
theorem Dc{α:Type}{l:List α}{k:Nat}(h:k<l.length):(l.drop (k+1)++l.take k)++[l[k]]=l.drop (k+1)++l.take (k+1):=by rw[aE,da h]
end Leg
namespace Leg
open Go
theorem Kl{us:List Value}{k:Nat}(h:k=0)(hk:k<us.length):us[k]=DL (k+1) (us.getD 0 undef):=by
 subst h;unfold DL;rw[if_neg (by omega)];simp[List.getD_eq_getElem?_getD,hk]
theorem Kj{u:Value}{k:Nat}(h: ¬k=0):DL k u=DL (k+1) u:=by unfold DL;rw[if_neg h,if_neg (by omega)]
theorem Kk{u:Value}{k:Nat}(h: ¬k=0):DL k u=u:=if_neg h
end Leg
namespace Leg
open Go
def sP{α:Type}:List α→List α
 | []=>[]
 |a::l=>l++[a]
def I1{α:Type}(l:List α):Bool:=decide (l.length≠0∧l.length≠8)
def Ez{α:Type}[Inhabited α](l:List α):List α:=if l.length≠0∧l.length≠8 then l++[l.getD 0 default]else l
end Leg
namespace Leg
open Go
def jz{α:Type}:Nat→List α→List α
 |0,l=>l
 |n+1,l=>sP (jz n l)
theorem Hr{α:Type}(l:List α):(sP l).length=l.length:=by cases l<;>simp[sP]
theorem kP{α:Type}: ∀(n:Nat) (l:List α),(jz n l).length=l.length
 |0,_=>rfl
 |n+1,l=>by rw[jz,Hr,kP n l]
theorem Hq{α:Type}{l:List α}{x:α}:x∈sP l↔x∈l:=by
 cases l with
 |nil=>rfl
 |cons a l=>simp[sP,or_comm]
theorem pe{α:Type}{x:α}: ∀(n:Nat) (l:List α),x∈jz n l↔x∈l
 |0,_=>Iff.rfl
 |n+1,l=>by rw[jz,Hq,pe n l]
theorem zb{α β:Type}(f:α→β)(l:List α):sP (l.map f)=(sP l).map f:=by cases l<;>simp[sP]
theorem Ld{α β:Type}[Inhabited α][Inhabited β](f:α→β)(l:List α):Ez (l.map f)=(Ez l).map f:=by
 unfold Ez;rw[bY];split
 · rename_i h
   cases l with
   |nil=>exact absurd rfl h.1
   |cons a l=>simp
 · rfl
theorem Lg{α β:Type}(f:α→β)(l:List α):I1 (l.map f)=I1 l:=by unfold I1;rw[bY]
end Leg
end

section
namespace Api
open Go Leg Codec Dsk Wal
instance :Inhabited MsgT:=⟨.zero⟩
structure LD where
 cnt:Nat
 used:Int
 D:DS
structure DkOk(D:DS):Prop where
 ok:D.Ok
 inn:Wal.DS.In D
 ws:D.ws.length≤2048
 up:D.dn=false→D.ws=[]
def Wrote(D:DS)(n:Nat)(r:Int×DS):Prop:=r.2.Ok∧Wal.DS.In r.2∧((D.dn=true∧r.2=D)∨(D.dn=false∧r.2.ws.length≤D.ws.length+n∧(r.1=0→r.2.dn=false)∧(r.1≠0→r.2.dn=true)))
theorem Wrote.none{D:DS}(h:D.Ok)(hi:Wal.DS.In D):Wrote D 0 (0,D):=⟨h,hi,by
 cases hd:D.dn
 · exact .inr ⟨rfl,aH _,λ_=>by first|exact hd|rfl,λq=>absurd rfl q⟩
 · exact .inl ⟨rfl,rfl⟩⟩
theorem Wrote.more{D:DS}{n m:Nat}{r:Int×DS}(h:Wrote D n r)(hm:n≤m):Wrote D m r:=⟨h.1,h.2.1,h.2.2.imp id λ⟨a,b,c⟩=>⟨a,by omega,c⟩⟩
theorem Wrote.one{D:DS}(h:D.Ok)(hi:Wal.DS.In D){at':Int}{bs:List UInt8}(h1:0≤at'∧at'<2048)(h2:bs.length≤64):Wrote D 1 (D.write at' bs):=by
 cases hd:D.dn
 · by_cases hc:D.ar=true∧D.lf=0
   · rw[ww h1 h2 hc]
     exact⟨⟨h.s,h.ws,h.lf⟩,hi, .inr ⟨hd,Nat.le_succ _,(λq=>absurd q (by show ¬(4:Int)=0;decide)),λ_=>rfl⟩⟩
   · have h4:D.ar=false∨0<D.lf:=by
      have:=h.lf;cases q:D.ar
      · exact .inl rfl
      · right
        have:D.lf≠0:=λe=>hc ⟨q,e⟩
        omega
     rw[nj h1 h2 hd h4];exact⟨Bc h h2 h4,Bd hi h1, .inr ⟨hd,by simp[vQ],λ_=>rfl,λq=>absurd rfl q⟩⟩
 · have e:D.write at' bs=(4,D):=by
    rw[DS.write,if_neg (by omega),if_pos (.inl hd)];cases D;simp only at hd;rw[hd]
   rw[e];exact⟨h,hi, .inl ⟨hd,rfl⟩⟩
theorem Wrote.then{D:DS}{n m:Nat}{r q:Int×DS}(h:Wrote D n r)(h0:r.1=0)(g:Wrote r.2 m q):Wrote D (n+m) q:=by
 obtain⟨_,_,h⟩:=h;refine⟨g.1,g.2.1,?_⟩;rcases h with⟨hd,e⟩| ⟨hd,hl,hz,_⟩
 · rw[e]at g
   rcases g.2.2 with⟨_,e2⟩| ⟨hd2,_⟩
   · exact .inl ⟨hd,e2⟩
   · rw[hd]at hd2;cases hd2
 · rcases g.2.2 with⟨hd2,_⟩| ⟨_,hl2,h3⟩
   · rw[hz h0]at hd2;cases hd2
   · exact .inr ⟨hd,by omega,h3⟩
theorem Wrote.writes: ∀(ss:List jt) (at':Int) (D:DS),D.Ok→Wal.DS.In D→0≤at'→at'+ss.length≤2048→(∀s∈ss,s.length=64)→Wrote D ss.length (gK ss at' D)
 | [],_,D,h,hi,_,_,_=>Wrote.none h hi
 |s::ss,at',D,h,hi,h0,h1,hs=>by
  simp only[ax]at h1;have h2:=hs s (by simp);have o:=Wrote.one h hi (at':=at') (bs:=s) (by omega) (by omega);rw[gK];split
  · rename_i hz
    have:=o.then hz (Wrote.writes ss (at'+1) _ o.1 o.2.1 (by omega) (by omega) λx hx=>hs x (by simp[hx]))
    rwa [mL]at this
  · exact o.more (by simp)
theorem Wrote.wipes: ∀(n:Nat) (at':Int) (D:DS),D.Ok→Wal.DS.In D→0≤at'→at'+n≤2048→Wrote D n (kb n at' D)
 |0,_,D,h,hi,_,_=>Wrote.none h hi
 |n+1,at',D,h,hi,h0,h1=>by
  rw[kb];split
  · exact(Wrote.wipes n (at'+1) D h hi (by omega) (by omega)).more (by omega)
  · have o:=Wrote.one h hi (at':=at') (bs:=[]) (by omega) (by simp)
    split
    · rename_i hz
      have:=o.then hz (Wrote.wipes n (at'+1) _ o.1 o.2.1 (by omega) (by omega))
      rwa [mL]at this
    · exact o.more (by omega)
theorem DkOk.wrote{D:DS}(h:DkOk D){n:Nat}{r:Int×DS}(g:Wrote D n r)(hn:n≤2048):(r.1≠0→DkOk r.2)∧DkOk r.2.sync.2:=by
 obtain⟨ho,hi,hr⟩:=g;rcases hr with⟨hd,e⟩| ⟨hd,hl,h0,h1⟩
 · rw[e]
   refine⟨λ_=>h,?_⟩;rw[DS.sync,if_pos hd];exact h
 · rw[h.up hd]at hl
   simp only[aB,bq]at hl;refine⟨λq=>⟨ho,hi,by omega,λz=>by rw[h1 q]at z;cases z⟩,?_⟩
   by_cases q:r.1=0
   · obtain⟨_,s2,_⟩:=oJ (h0 q)
     exact⟨DS.sync_ok ho,AU hi,by rw[s2];exact aO _,λ_=>s2⟩
   · rw[DS.sync,if_pos (h1 q)]
     exact⟨ho,hi,by show r.2.ws.length≤2048;omega,λz=>by rw[show r.2.dn=true from h1 q]at z;cases z⟩
theorem w9{D:DS}(hI:Wal.DS.In D)(hD:D.Ok): ∀(f:Nat) (cnt used:Int),0≤used→used≤2048→0≤(gF D.read f cnt used).2∧(gF D.read f cnt used).2≤2048∧(gF D.read f cnt used).1.length≤f
 |0,_,_,h0,h1=>⟨h0,h1,aH _⟩
 |f+1,cnt,used,h0,h1=>by
  rw[gF];split
  · exact⟨h0,h1,aO _⟩
  · rename_i b all h
    have h2:=pj hI hD h0 h;have h3:=(lU (mw hD _) h).1;obtain⟨a,b',c⟩:=w9 hI hD f (cnt+1) (used+all) (by omega) h2;exact⟨a,b',by simp only[ax];omega⟩
theorem DkOk.open{D:DS}(h:DkOk D):DkOk (bN D).D∧0≤(bN D).used∧(bN D).used≤2048∧(bN D).recs.length≤2049:=by
 obtain⟨a,b,c⟩:=w9 h.inn h.ok jM 0 0 (by omega) (by omega);rw[tE]at c;have w:=h.wrote (Wrote.wipes (2048- (gF D.read jM 0 0).2).toNat _ D h.ok h.inn a (by omega)) (by omega);unfold bN;simp only;split
 · rename_i q;exact⟨w.1 q,by show(0:Int)≤0;omega,by show(0:Int)≤2048;omega,aO _⟩
 · split
   · exact⟨w.2,by show(0:Int)≤0;omega,by show(0:Int)≤2048;omega,aO _⟩
   · exact⟨w.2,a,b,by rw[←tE]at c;exact c⟩
theorem DkOk.arm{D:DS}(h:DkOk D)(n:Int)(hn:n≤9223372036854775807):DkOk (D.arm n):=⟨⟨h.ok.s,h.ok.ws,by show 0≤max n 0∧max n 0≤9223372036854775807;omega⟩,h.inn,h.ws,h.up⟩
theorem DkOk.crash{D:DS}(h:DkOk D)(mask torn cut:Int):DkOk (D.crash mask torn cut):=by
 have c:=Calm.crash h.ok h.inn mask torn cut;exact⟨c.ok,c.inn,aO _,λ_=>rfl⟩
theorem DkOk.new:DkOk .new:=⟨⟨nf,nf,by simp[DS.new],by simp[DS.new]⟩,⟨MA,MA⟩,aO _,λ_=>rfl⟩
structure LD.Ok(e:LD):Prop where
 dk:DkOk e.D
 used:0≤e.used∧e.used≤2048
 cnt:(e.cnt:Int)≤4100+e.used
def LD.put(e:LD)(bs:List UInt8):LD×Int:=(⟨(l6 e.D e.cnt e.used bs).cnt,(l6 e.D e.cnt e.used bs).used,(l6 e.D e.cnt e.used bs).D⟩,(l6 e.D e.cnt e.used bs).err)
theorem LD.put_ok(e:LD)(bs:List UInt8)(h:e.Ok)(hb:bs.length≤3000):(e.put bs).1.Ok:=by
 obtain⟨⟨ho,hi,hw,hu⟩,h1,h2⟩:=h;unfold LD.put l6;rw[if_neg (by omega)]
 by_cases hf:(bj bs.length:Int)>2048-e.used
 · rw[if_pos hf];exact⟨⟨ho,hi,hw,hu⟩,h1,h2⟩
 rw[if_neg hf];have hp:0<bj bs.length:=qG _;have hl:(bW ((e.cnt+1:Nat):Int) bs).length=bj bs.length:=dQ _ _;have w:=DkOk.wrote ⟨ho,hi,hw,hu⟩ (Wrote.writes (bW ((e.cnt+1:Nat):Int) bs) e.used e.D ho hi h1.1 (by omega) (s8 _ _)) (by omega);simp only;split
 · rename_i q;exact⟨w.1 q,h1,h2⟩
 · split
   · exact⟨w.2,h1,h2⟩
   · exact⟨w.2,(by show 0≤e.used+(bj bs.length:Int)∧e.used+(bj bs.length:Int)≤2048;omega),by show((e.cnt+1:Nat):Int)≤4100+(e.used+bj bs.length);omega⟩
def KD:Dk LD:=⟨LD.put,λe=>e.D.dn,LD.Ok,LD.put_ok⟩
structure Slot where
 run:Option (MS LD)
 D:DS
 past:List ReplyT
structure CL where
 ms:List Slot
 W:List (List MsgT)
def Slot.nil:Slot:=⟨none, .new,[]⟩
def CL.at'(a:CL)(i:Nat):Slot:=a.ms.getD i .nil
def Slot.dk(x:Slot):DS:=match x.run with
 |some s=>s.e.D
 |none=>x.D
def Slot.reps(x:Slot):List ReplyT:=x.past++(match x.run with
 |some s=>s.replies
 |none=>[])
def Slot.up(x:Slot):Bool:=match x.run with
 |some s=> !s.e.D.dn
 |none=>false
def CL.set(a:CL)(i:Nat)(x:Slot):CL:= {a with ms:=a.ms.set i x}
def qD(W:List (List MsgT))(f:Nat)(s:SaidT):List (List MsgT):=if dv ((f:Nat):Int) s.to' then W.set (bt ((f:Nat):Int) s.to') (if(W.getD (bt ((f:Nat):Int) s.to') []).length<8 then W.getD (bt ((f:Nat):Int) s.to') []++[s.msg]else W.getD (bt ((f:Nat):Int) s.to') [])else W
def g9(W:List (List MsgT))(f:Nat)(l:List SaidT):List (List MsgT):=l.foldl (λW s=>qD W f s) W
def MS.hush{δ:Type}(s:MS δ):MS δ:= {s with o:=[]}
def CL.did(a:CL)(i:Nat)(s:MS LD):CL:=⟨a.ms.set i {a.at' i with run:=some s.hush},g9 a.W i s.o⟩
def MS.dsk(s:MS LD)(D:DS):MS LD:= {s with e:= {s.e with D:=D}}
def yM(x:Slot)(n:Int):Slot:=match x.run with
 |some s=> {x with run:=some (s.dsk (s.e.D.arm n))}
 |none=> {x with D:=x.D.arm n}
def nL(x:Slot)(mask torn cut:Int):Slot:=⟨none,x.dk.crash mask torn cut,x.reps⟩
def cO(i:Nat)(D:DS):Option (MS LD)×Int:=
 if(bN D).err≠0 then(none,(bN D).err)
 else match lr (bN D).recs (tv ((i:Nat):Int) (⟨(bN D).recs.length,(bN D).used,(bN D).D⟩:LD))with
  |none=>(none,1)
  |some s=>(some s,0)
def iF(i:Nat)(x:Slot):Slot×Int:=match x.run with
 |some _=>(x,5)
 |none=>({x with run:=(cO i x.D).1,D:=(bN x.D).D},(cO i x.D).2)
def pT(a:CL)(f t:Nat)(m:MsgT):CL×Int:=match(a.at' t).run with
 |none=>(a,0)
 |some s=>if s.e.D.dn then(a,0)else if(ju (cQ m)).2=0 then(a.did t (fQ KD s ((f:Nat):Int) (ju (cQ m)).1),0)else(a,(ju (cQ m)).2)
def CL.way(a:CL)(k:Nat)(l:List MsgT):CL:= {a with W:=a.W.set k l}
def nW(a:CL)(o:OpT):CL×Int:=
 if dv o.at' o.to'=false then(a,5)
 else match a.W.getD (bt o.at' o.to') []with
  | []=>(a,10)
  |m::l=>
   if o.kind=7 then(if I1 (m::l)then(a.way (bt o.at' o.to') (Ez (m::l)),0)else(a,3))
   else match jz (max o.n 0% ((m::l).length:Int)).toNat (m::l)with
    | []=>(a,0)
    |m::l=>if o.kind=6 then(a.way (bt o.at' o.to') l,0)else pT (a.way (bt o.at' o.to') l) o.at'.toNat o.to'.toNat m
def xR(a:CL)(i:Nat)(o:OpT):CL×Int:=match(a.at' i).run with
 |none=>(a,4)
 |some s=>if s.e.D.dn then(a,4)else(a.did i (bv KD s o).1,(bv KD s o).2)
def Cj(a:CL)(i:Nat):CL×Int:=match(a.at' i).run with
 |none=>(a,4)
 |some s=>if s.e.D.dn then(a,4)else(a.did i (gU KD s),0)
def pG(a:CL)(o:OpT):CL×Int:=
 if gP o.at'=false then(a,5)
 else if 0≤o.kind∧o.kind≤4 then xR a o.at'.toNat o
 else if o.kind=5∨o.kind=6∨o.kind=7 then nW a o
 else if o.kind=8 then Cj a o.at'.toNat
 else if o.kind=9 then(a.set o.at'.toNat (yM (a.at' o.at'.toNat) o.n),0)
 else if o.kind=10 then(a.set o.at'.toNat (nL (a.at' o.at'.toNat) o.mask o.torn o.cut),0)
 else if o.kind=11 then(a.set o.at'.toNat (iF o.at'.toNat (a.at' o.at'.toNat)).1,(iF o.at'.toNat (a.at' o.at'.toNat)).2)
 else(a,5)
def pv(i:Nat):Slot:=(iF i .nil).1
def CL.new:CL:=⟨(List.range 5).map pv,List.replicate 25 []⟩
structure Fresh{δ:Type}(i:Int)(e:δ)(s:MS δ):Prop where
 id:s.id=i
 vote:s.vote=none
 replies:s.replies=[]
 e:s.e=e
 o:s.o=[]
 waits:s.waits=0
 ops:s.ops=0
theorem Fresh.rest{δ:Type}{i:Int}{e:δ}{s:MS δ}(h:Fresh i e s)(m:RecT):Fresh i e (ir s m):=by
 obtain⟨h1,h2,h3,h4,h5,h6,h7⟩:=h;unfold ir
 repeat' split
 all_goals exact⟨h1,by first|exact h2|rfl,h3,h4,h5,h6,h7⟩
theorem Fresh.new{δ:Type}(i:Int)(e:δ):Fresh i e (tv i e):=⟨rfl,rfl,rfl,rfl,rfl,rfl,rfl⟩
theorem Fresh.read{δ:Type}{i:Int}{e:δ}: ∀(l:List (List UInt8)) {s s':MS δ},Fresh i e s→lr l s=some s'→Fresh i e s'
 | [],s,s',h,q=>by
  obtain rfl:=bm q;exact h
 |b::l,s,s',h,q=>by
  rw[lr]at q;split at q
  · cases q
  · exact Fresh.read l (h.rest _) q
theorem ve{i:Nat}{D:DS}{s:MS LD}(h:(cO i D).1=some s):(bN D).err=0∧lr (bN D).recs (tv ((i:Nat):Int) (⟨(bN D).recs.length,(bN D).used,(bN D).D⟩:LD))=some s:=by
 unfold cO at h;split at h
 · cases h
 · rename_i h0
   refine⟨Decidable.not_not.1 h0,?_⟩;split at h
   · cases h
   · rename_i h2;rw[h2];exact h
theorem AK{v:ViewT}{bs r:List UInt8}(h:lF bs=some (v,r)):OkVw v:=by
 obtain⟨⟨h1,h2,_⟩,_⟩:=oG h;have hr:=sM h;exact⟨hr,EK ⟨by omega,by omega⟩ ⟨by omega,by omega⟩ hr⟩
theorem ri{b:BallotT}{bs r:List UInt8}(h:js bs=some (b,r)):WF b.flat:=by
 obtain⟨⟨h1,h2⟩,_⟩:=jR h;exact OkB.wf ⟨h1,h2⟩
theorem F5{c:ChangeT}{bs r:List UInt8}(h:kN bs=some (c,r)):WF c.flat:=by
 obtain⟨⟨h1,h2,h3⟩,_⟩:=oe h;exact OkC.wf ⟨h1,h2,h3⟩
theorem Fc{x:RowT}{bs r:List UInt8}(h:th bs=some (x,r)):OkRow x:=OkRow.of (A4 h)
theorem NJ{m:MsgT}{g:Bool}{bs r:List UInt8}(h:cD bs=some ((m,g),r)):OkMg m:=by
 obtain⟨k,r1,_,h⟩:=bk h
 have fin: ∀{m':MsgT} {g':Bool} {b r:List UInt8},pr (m',g') b=some ((m,g),r)→OkMg m'→OkMg m:=λh q=>by
  obtain⟨e,_⟩:=gj h;injection e with e1 e2
  exact e1▸q
 split at h
 · obtain⟨_,_,_,h⟩:=bk h;obtain⟨x,_,hx,h⟩:=bk h;exact fin h ⟨Fc hx, .zero,iv,iv,p4⟩
 split at h
 · obtain⟨_,_,_,h⟩:=bk h;exact fin h ⟨.zero, .zero,iv,iv,p4⟩
 split at h
 · obtain⟨_,_,_,h⟩:=bk h;obtain⟨b,_,hb,h⟩:=bk h;exact fin h ⟨.zero, .zero,ri hb,iv,p4⟩
 split at h
 · obtain⟨_,_,_,h⟩:=bk h;obtain⟨b,_,hb,h⟩:=bk h;obtain⟨d,_,hd,h⟩:=bk h;obtain⟨c,_,hc,h⟩:=bk h;exact fin h ⟨.zero, .zero,ri hb,ri hd,F5 hc⟩
 split at h
 · obtain⟨_,_,_,h⟩:=bk h;obtain⟨b,_,hb,h⟩:=bk h;obtain⟨c,_,hc,h⟩:=bk h;exact fin h ⟨.zero, .zero,ri hb,iv,F5 hc⟩
 split at h
 · obtain⟨v,_,hv,h⟩:=bk h;exact fin h ⟨.zero,AK hv,iv,iv,p4⟩
 split at h
 · obtain⟨_,_,_,h⟩:=bk h;obtain⟨v,_,hv,h⟩:=bk h;exact fin h ⟨.zero,AK hv,iv,iv,p4⟩
 · exact fin h ⟨.zero, .zero,iv,iv,p4⟩
class OkRd(m:RecT):Prop where
 row:OkRow m.row
 view:OkVw m.view
 ballot:WF m.ballot.flat
 change:WF m.change.flat
theorem Ng{m:RecT}{g:Bool}{bs r:List UInt8}(h:dy bs=some ((m,g),r)):OkRd m:=by
 obtain⟨k,r1,_,h⟩:=bk h
 have fin: ∀{m':RecT} {g':Bool} {b r:List UInt8},pr (m',g') b=some ((m,g),r)→OkRd m'→OkRd m:=λh q=>by
  obtain⟨e,_⟩:=gj h;injection e with e1 e2
  exact e1▸q
 split at h
 · obtain⟨x,_,hx,h⟩:=bk h;exact fin h ⟨Fc hx, .zero,iv,p4⟩
 split at h
 · obtain⟨_,_,_,h⟩:=bk h;obtain⟨x,_,hx,h⟩:=bk h;exact fin h ⟨Fc hx, .zero,iv,p4⟩
 split at h
 · obtain⟨_,_,_,h⟩:=bk h;exact fin h ⟨.zero, .zero,iv,p4⟩
 split at h
 · obtain⟨_,_,_,h⟩:=bk h;obtain⟨b,_,hb,h⟩:=bk h;exact fin h ⟨.zero, .zero,ri hb,p4⟩
 split at h
 · obtain⟨_,_,_,h⟩:=bk h;obtain⟨b,_,hb,h⟩:=bk h;obtain⟨c,_,hc,h⟩:=bk h;exact fin h ⟨.zero, .zero,ri hb,F5 hc⟩
 split at h
 · obtain⟨v,_,hv,h⟩:=bk h;exact fin h ⟨.zero,AK hv,iv,p4⟩
 · exact fin h ⟨.zero, .zero,iv,p4⟩
theorem G1(bs:List UInt8):OkMg (ju bs).1:=by
 unfold ju;split
 · rename_i m h;exact NJ h
 · exact⟨.zero, .zero,iv,iv,p4⟩
theorem Mf(bs:List UInt8):OkRd (io bs).1:=by
 unfold io;split
 · rename_i m h;exact Ng h
 · exact⟨.zero, .zero,iv,p4⟩
section
variable {δ:Type} {K:Dk δ} {s:MS δ}
theorem Ly(h:OkR K s)(m:RecT)(hm:OkRd m):OkR K (ir s m):=by
 have ha:OkAc s.acc:=⟨h.acc⟩;unfold ir;split
 · exact⟨h.e,h.id,h.view,hm.row,h.mir,h.book,h.last,h.acc,h.vote⟩
 split
 · have:=hm.row;exact inferInstance
 split
 · exact inferInstance
 split
 · exact⟨h.e,h.id,h.view,h.own,h.mir,h.book,h.last,mz (mz (mz ha.epoch hm.ballot) ha.had) ha.change,h.vote⟩
 split
 · exact⟨h.e,h.id,h.view,h.own,h.mir,h.book,h.last,mz (mz (mz ha.epoch hm.ballot) hm.ballot) hm.change,h.vote⟩
 split
 · have:=hm.view;exact inferInstance
 · exact h
theorem AM{v:Vector RowT 5}(h:v= #v[.zero, .zero, .zero, .zero, .zero])(i:Nat)(hi:i<5):OkRow v[i]:=by
 subst h
 match i,hi with
 |0,_|1,_|2,_|3,_|4,_=>exact OkRow.zero
theorem L2{i:Int}{e:δ}(he:K.ok e)(hi:cI i=true):OkR K (tv i e):=
 ⟨he,hi, .first, .zero,AM rfl,AM rfl,AM rfl,PA _ (by decide),λ_ q=>nomatch q⟩
theorem Dg: ∀(l:List (List UInt8)) {s s':MS δ},OkR K s→lr l s=some s'→OkR K s'
 | [],s,s',h,q=>by
  obtain rfl:=bm q;exact h
 |b::l,s,s',h,q=>by
  rw[lr]at q;split at q
  · cases q
  · exact Dg l (Ly h _ (Mf b)) q
theorem ul{i:Nat}(hi:i<5){D:DS}(hD:DkOk D){s:MS LD}(h:(cO i D).1=some s):OkR KD s∧Fresh ((i:Nat):Int) (⟨(bN D).recs.length,(bN D).used,(bN D).D⟩:LD) s:=by
 obtain⟨_,h2⟩:=ve h;obtain⟨o1,o2,o3,o4⟩:=hD.open;exact⟨Dg _ (L2 (K:=KD) ⟨o1,⟨o2,o3⟩,by show(((bN D).recs.length:Nat):Int)≤4100+(bN D).used;omega⟩ (decide_eq_true ⟨by omega,by omega⟩)) h2,Fresh.read _ (Fresh.new _ _) h2⟩
end
end Api
end

section
namespace Go.Proofs.YtmcjhkbcmmddgaaGreat
open Go Leg Codec Api Dsk Wal
theorem BP(b c s r:Nat)(us:List Value)(x:Value)(bs:List UInt8)(hb:bs.length≤1000000)(hroom:us.length<8):
 DT 93 #[(.pointer (some ⟨b,0,none⟩)),x] (IsW x bs) [ah b [(.chan (some c))] 160,ez c 8 (us) (s) (r)] (dH (λv H=>v= .bool true∧∃u,H=[ah b [(.chan (some c))] 160,ez c 8 (us++[u]) (s+1) r,dZ u bs 5])):=by
 refine Leg.Does.body (vs:=[(.pointer (some ⟨b,0,none⟩)),x]) (n:=15) Tryz.func93 rfl rfl rfl (λw0 F hF=>?_);refine sr λ_ J1=>?_
 refine qb ?_;refine nx J1 ?_;refine aa λ_ J2=>?_
 refine sr λ_ J3=>?_
 refine mv ?_;refine tp (gR rfl rfl) ?_;refine tp (bc (r:=0) rfl Eo rfl va rfl rfl) ?_;refine tp (ii (v:=(.chan (some c))) rfl vV rfl rfl (fD 0 rfl rfl) rfl) ?_;refine nx J3 ?_;refine ad ?_;refine Er (ab rfl) rfl rfl rfl ia lT (λv9=>?_);change TL _ _ _ _ _ _ _ _ _ [dZ v9 ([]) 5,ah b [(.chan (some c))] 160,ez c 8 (us) (s) (r)];refine mv ?_;refine cL (k:=0) (news:=ek (bs)) (nn':=(bs:List UInt8).length) (xs':=ek (bs)) (ab rfl) rfl rfl rfl ia z0 rfl rfl rfl rfl rfl rfl (λ_ _=>hF.src (λ_ h=>fE h)) (fl _) (by simp only[maxLen,aB];omega) (by simp only[aB];omega) (by simp) (aQ _) (λv11 ov11=>?_);change TL _ _ _ _ _ _ _ _ _ [dZ v11 (bs) 5,ah b [(.chan (some c))] 160,ez c 8 (us) (s) (r)];refine nx J2 ?_;refine aa λ_ J4=>?_
 refine yQ ?_;change TX _ _ _ _ _ _ [0,1,2] _ _ _;refine TX.sendRoom 2 rfl (ab rfl) rfl rfl rfl N1 rfl rfl rfl rfl hroom ?_;change TX _ _ _ _ _ _ _ _ _ [dZ v11 (bs) 5,ah b [(.chan (some c))] 160,ez c 8 (us++[v11]) (s+1) (r)];refine tU rfl (ab rfl) rfl rfl (iy (vs:=[(.int .i64 0),(.bool false)]) rfl rfl rfl) ?_;refine tU rfl (ab rfl) rfl rfl (PF rfl rfl rfl) ?_;refine Mw ?_;refine ac J4 ?_;refine aq ?_;refine nZ rfl ?_;refine sr λ_ J5=>?_
 refine qb ?_;refine nx J5 ?_;refine aj ?_;refine aJ ?_;refine aF (dV _) (λ_ s=>ak [1,1,0] rfl s) ?_;refine av rfl rfl ?_;exact⟨rfl,_,rfl⟩
theorem xY(b c s r:Nat)(us:List Value)(ls:List (List UInt8))(h8:ls.length≤8)(hb: ∀x∈ls,x.length≤1000000):
    DT 58 #[(.pointer (some ⟨b,0,none⟩))] T0 [ah b [(.chan (some c))] 160,ez c 8 (us) (s) (r),eQ (us) (ls) 5] (dH (λv H=>((ls.length=0∨ls.length=8)∧v= .bool false∧H=[ah b [(.chan (some c))] 160,ez c 8 us s r,eQ us ls 5])∨(ls.length≠0∧ls.length≠8∧v= .bool true∧∃un,H=[ah b [(.chan (some c))] 160,ez c 8 (us++[un]) (s+us.length+1) (r+us.length),eQ us ls 5,dZ un (ls.getD 0 []) 5]))):=by
 refine BD 41 Tryz.func58 rfl rfl rfl λw0 F hF=>sr λ_ J1=>PS ?_
 refine nx J1 (sr λ_ J2=>PS ?_);refine CE Ds (tQ b c s r us ls) ID ?_;change TL _ _ _ _ _ _ _ _ _ [ah b [(.chan (some c))] 160,ez c 8 (us) (s) (r),eQ (us) (ls) 5];refine yP (p:=us.length=ls.length) (λw m=>(rf 2 rfl rfl m).1) (λhul=>PS ?_);refine nx J2 (aa λ_ J3=>sr λ_ J4=>P2 ?_);refine ap ?_ ?_<;>intro h10;refine PS ?_
 iterate 7 refine UT ?_
 refine PS ?_;refine nx J4 (CY (sr λ_ J5=>PS ?_));refine nx J5 (aj (ae (WK [0,0,0] (av rfl rfl ?_))));exact .inl ⟨by omega,rfl,rfl⟩;refine P4 ?_;refine FA 0 Eo va ?_;refine LA 0 vV ?_;refine tq (PV.capChan 1 rfl vV rfl rfl rfl) ?_;refine PS ?_;refine ap ?_ ?_<;>intro h18;refine PS ?_;refine nx J4 (CY (sr λ_ J6=>PS ?_));refine nx J6 (aj (ae (WK [0,0,0] (av rfl rfl ?_))));exact .inl ⟨by omega,rfl,rfl⟩;refine PS ?_;refine nx J4 (CN (qx J3 (sr λ_ J7=>PS ?_)));refine nx J7 (aa λ_ J8=>sr λ_ J9=>P2 ?_);refine nx J9 (aq ?_)
 refine bD (α:=(Nat)) (λk=>k≤us.length) (λk=>[(0,(.pointer (some ⟨b,0,none⟩))),(2,(.bool false)),(4,(DL k (us.getD 0 undef))),(20,(.int .i64 (((ls.length:Nat):Int)))),(21,(.int .i64 (((k:Nat):Int))))]) (λk=>[ah b [(.chan (some c))] 160,ez c 8 (us.drop k++us.take k) (s+k) (r+k),eQ (us) (ls) 5]) (λk=>us.length-k) 0
     (aO _) SB
     (λ_ q=>by simpa using q) (λk hinv=>?_)
 obtain hk:=hinv;refine sr λ_ J10=>PS ?_
 refine ap ?_ ?_<;>intro h22;have hku:k<us.length:=by omega
 refine nx J10 (aa λ_ J11=>CY (qx J11 (aa λ_ J12=>aq (sr λ_ J13=>P2 ?_))));refine nx J13 (aa λ_ J14=>yQ (tU rfl (ab rfl) rfl rfl (kn rfl rfl) (tU rfl (ab rfl) rfl rfl (gR rfl rfl) (tU rfl (ab rfl) rfl rfl (bc (r:=0) rfl Eo rfl va rfl rfl) (tU rfl (ab rfl) rfl rfl (ii (v:=(.chan (some c))) rfl vV rfl rfl (RO 0) rfl) (TX.recv1 1 rfl (ab rfl) rfl rfl rfl vV N1 rfl rfl rfl (Jw hku) (tU rfl (ab rfl) rfl rfl (Rn rfl rfl) (Mw (ac J14 (aa λ_ J15=>?_))))))))));refine sr λ_ J16=>P2 ?_
 refine ap ?_ ?_<;>intro h30;refine nx J16 (CY (ad (P2 ?_)));refine nx J15 (yQ (tU rfl (ab rfl) rfl rfl (kn rfl rfl) (tU rfl (ab rfl) rfl rfl (gR rfl rfl) (tU rfl (ab rfl) rfl rfl (bc (r:=0) rfl Eo rfl va rfl rfl) (tU rfl (ab rfl) rfl rfl (ii (v:=(.chan (some c))) rfl vV rfl rfl (RO 0) rfl) (tU rfl (ab rfl) rfl rfl (kn rfl rfl) (TX.send1 1 rfl (ab rfl) rfl rfl rfl rfl rfl rfl (by simp only[ai,ej,bR];omega) (Mw (af (ac J12 (ad ?_)))))))))));refine AD ?_;refine PS ?_;refine aw ?_
 exact aL ((k+1):(Nat)) (by omega) (by show us.length- (k+1)<us.length-k;omega)
   (aT (aT (bE rfl (by first|exact Kl (by omega) hku|exact Kj (by omega)) SB)))
   (λ_ q=>by
      rw[Dc hku]at q
      exact q)
 refine nx J16 (CN (qx J15 (yQ (tU rfl (ab rfl) rfl rfl (kn rfl rfl) (tU rfl (ab rfl) rfl rfl (gR rfl rfl) (tU rfl (ab rfl) rfl rfl (bc (r:=0) rfl Eo rfl va rfl rfl) (tU rfl (ab rfl) rfl rfl (ii (v:=(.chan (some c))) rfl vV rfl rfl (RO 0) rfl) (tU rfl (ab rfl) rfl rfl (kn rfl rfl) (TX.send1 1 rfl (ab rfl) rfl rfl rfl rfl rfl rfl (by simp only[ai,ej,bR];omega) (Mw (af ?_)))))))))));refine ac J12 (ad (AD ?_));refine PS ?_;refine aw ?_
 exact aL ((k+1):(Nat)) (by omega) (by show us.length- (k+1)<us.length-k;omega)
   (aT (aT (bE rfl (by first|exact Kl (by omega) hku|exact Kj (by omega)) SB)))
   (λ_ q=>by
      rw[Dc hku]at q
      exact q)
 obtain rfl:k=us.length:=by omega
 have hpos:0<ls.length:=by omega
 have hg:ls.getD 0 []=ls[0]:=by simp[List.getD_eq_getElem?_getD,hpos]
 refine cr (H':=[ah b [(.chan (some c))] 160,ez c 8 us (s+us.length) (r+us.length),eQ us ls 5]) (λ_ q=>by simpa using q) (nx J10 (aa λ_ J17=>CN (bh (aC (aC (bC (ac J8 (sr λ_ J18=>P2 ?_))))))))
 refine lC (ab rfl) rfl rfl rfl Nr rfl (BP b c (s+us.length) (r+us.length) us (DL us.length (us.getD 0 undef)) (ls.getD 0 []) (hb _ (hg▸fc hpos)) (by omega)) (λ_ s=>s) (λg d s=>by
          rw[Kk (by omega),hg]
          exact KQ (uP 0 hpos rfl rfl g d s)) (λvR HR hR=>?_)
 obtain⟨rfl,un,rfl⟩:=hR;refine PS ?_;refine nx J18 (aj (WK [0,0,1,0] (av rfl rfl ?_)));exact .inr ⟨by omega,by omega,rfl,un,rfl⟩
theorem yK(b:Nat)(ls:List (List UInt8))(h8:ls.length≤8)(hb: ∀x∈ls,x.length≤1000000):DT 58 #[.pointer (some ⟨b,0,none⟩)] T0 [iq 160 5 b ls] (RI (.bool (I1 ls)) [iq 160 5 b (Ez ls)]):=
 Leg.Does.pack (B:=[]) λq=>Leg.Does.fold (xY b q.1 q.2.2.1 q.2.2.2 q.2.1 ls h8 hb) λe H hp=>by
  cases e with
  |returned v=>
   unfold I1 Ez;rcases hp with⟨h,rfl,rfl⟩| ⟨h1,h2,rfl,un,rfl⟩
   · exact⟨[iq 160 5 b ls],λ_ s=>bn (p:=λq:Nat×List Value×Nat×Nat=>[ah b [.chan (some q.1)] 160,ez q.1 8 q.2.1 q.2.2.1 q.2.2.2,eQ q.2.1 ls 5]) (H:=[]) q s,by rw[decide_eq_false (by omega)],by rw[if_neg (by omega)]⟩
   · refine⟨[iq 160 5 b (ls++[ls.getD 0 []])],λ_ s=>?_,by rw[decide_eq_true (by omega)],by rw[if_pos (by omega)];rfl⟩
     have s1:=AZ 3 rfl rfl s;have s2:=az [2,2] rfl s1;have s3:=uX s2;exact bn (p:=λq:Nat×List Value×Nat×Nat=>[ah b [.chan (some q.1)] 160,ez q.1 8 q.2.1 q.2.2.1 q.2.2.2,eQ q.2.1 (ls++[ls.getD 0 []]) 5]) (H:=[]) (q.1,q.2.1++[un],q.2.2.1+q.2.1.length+1,q.2.2.2+q.2.1.length) (az [1,1,0] rfl s3)
  |panicked c=>exact hp.elim
  |outgrown=>exact hp.elim
theorem tO(b:Nat)(ls:List (List UInt8))(h8:ls.length≤8)(hb: ∀x∈ls,x.length≤1000000):
 DT 59 #[(.pointer (some ⟨b,0,none⟩))] T0 [iq 160 5 b (ls)] (dH (λv H=>H=[iq 160 5 b (sP ls)])):=by
 refine BD 16 Tryz.func59 rfl rfl rfl λw0 F hF=>sr λ_ J1=>PS ?_
 refine nx J1 (sr λ_ J2=>PS ?_);refine CR OD (tP b ls) ID λvR HR hR=>?_
 rcases hR with⟨rfl,rfl,rfl⟩| ⟨u,f,lt,rfl,rfl,rfl⟩
 refine P4 ?_;refine PS ?_;refine nx J2 (sr λ_ J3=>P2 ?_)
 iterate 3 refine UF ?_
 refine P2 ?_;exact nx J3 (aj (WK [0] (av rfl rfl rfl)));refine P4 ?_;refine PS ?_;refine nx J2 (sr λ_ J4=>P4 ?_);refine CF Nr (vF b lt u f (hb f (la ..))) ID (λg d s=>KQ (Bs 0 rfl rfl g d s)) ?_;refine P2 ?_;refine nx J4 (aj (WK [0] (av rfl rfl ?_)));exact congrArg (λq=>[iq 160 5 b q]) (if_pos (show lt.length<8 by have:=h8;rw[ax]at this;omega))
end Go.Proofs.YtmcjhkbcmmddgaaGreat
end

section
namespace Leg
open Go
def RdG(S:World→Prop)(b:Nat){α:Type}(c:α→List Value)(T:TypeId):Prop:=∀w,S w→∃a,w.heap[b]?=some (.cells (c a).toArray T (0,0))
abbrev hid{α:Type}(b:Nat)(c:α→List Value)(T:TypeId)(R:α→List HP):HP:=pack (λa=>ah b (c a) T::R a)
section
variable {P:Program} {w0:World} {F:Hl} {n:Nat} {ops:Array Oper} {Q:QQ} {D:List Deferred} {L:List (Nat×Value)} {H:List HP} {o:Oper} {l:List Oper} {d:Nat} {S:World→Prop} {α:Type} {b j:Nat} {c c':α→List Value} {T:TypeId} {R R':α→List HP}
theorem Sat.packOpen{p:α→List HP}{w:World}(i:Nat)(s:Sat H F w)(hi:i<H.length)(hH:H.getD i (λ_=>True)=pack p): ∃a,Sat (p a++H.eraseIdx i) F w:=by
 obtain⟨h,d,e,x⟩:=s;have y:=fm i hi x;rw[hH]at y;obtain⟨a,z⟩:=fR (p:=p) (H:=H.eraseIdx i) (h:=h) y;exact⟨a,h,d,e,z⟩
theorem Sat.packShut{p:α→List HP}{w:World}(i:Nat)(hi:i<H.length)(a:α)(s:Sat (p a++H.eraseIdx i) F w):Sat (H.set i (pack p)) F w:=by
 obtain⟨h,d,e,x⟩:=s;exact⟨h,d,e,lq i hi (bn a x)⟩
theorem RdG.own(i:Nat)(hi:Nat.blt i H.length=true)(hH:H.getD i (λ_=>True)=hid b c T R):RdG (Sat H F) b c T:=λw s=>by
 obtain⟨a,t⟩:=s.packOpen i (lb hi) hH;exact⟨a,t.block 0 (by simp) rfl⟩
abbrev cY:= @RdG.own
theorem PV.load1G{t:TypeId}{x:Operand}{dt:TypeDesc}{v:Value}(ho:o.op= .load t x)(ht:P.underlying t=some dt)(hp:dR dt=true)(hx:cK L x=some (.pointer (some ⟨b,j,none⟩)))(hR:RdG S b c T)(hc: ∀a,(c a)[j]?=some v):PV P n D L S o v:=
 λa w f m=>by
  obtain⟨y,hy⟩:=hR w m;exact ii (S:=λw'=>w'=w) ho ht hp hx (λ_ e=>e▸hy) (hc y) a w f rfl
abbrev dz:= @PV.load1G
theorem PV.loadNG{t:TypeId}{x:Operand}{dt:TypeDesc}{m:Nat}{vs:List Value}(ho:o.op= .load t x)(ht:P.underlying t=some dt)(hp:dR dt=false)(hm:(P.info? t).map (·.size)=some m)(hx:cK L x=some (.pointer (some ⟨b,j,none⟩)))(hR:RdG S b c T)(hl:vs.length=m)(hc: ∀a,((c a).drop j).take m=vs):PV P n D L S o (.agg vs.toArray):=
 λa w f s=>by
  obtain⟨y,hy⟩:=hR w s;exact aM (S:=λw'=>w'=w) ho ht hp hm hx (λ_ e=>e▸hy) hl (hc y) a w f rfl
abbrev gI:= @PV.loadNG
theorem TL.storeG{i:Nat}{t:TypeId}{x y:Operand}{v:Value}{vs:List Value}(hw:Want n D ops o L)(ho:o.op= .store t x y)(hd:o.dst=none)
 (hx:cK L x=some (.pointer (some ⟨b,j,none⟩))) (hy:cK L y=some v) (hv:v.cells=vs.toArray) (hs:(P.info? t).map (·.size)=some vs.length) (h1: ∀u∈vs,u.oneCell'=true)
 (hi:Nat.blt i H.length=true) (hH:H.getD i (λ_=>True)=hid b c T R) (hl: ∀a,j+vs.length≤(c a).length) (hcs: ∀a,wr (c a) j vs=c' a)
 (h:TL P w0 F n ops Q l D L (H.set i (hid b c' T R))):TL P w0 F n ops Q (o::l) D L H:=
 TL.eff hw hd (λa w f _ m=>by
  obtain⟨q,m1⟩:=m.packOpen i (lb hi) hH;have hb:=m1.block 0 (by simp) rfl;refine⟨w.setRow b (wr (c q) j vs).toArray,by simp[execOp,ho,f.eval hx,f.eval hy,xa hv hs h1 hb (hl q)],⟨rfl,rfl,rfl,by simp⟩,?_⟩;rw[hcs q]
  exact Sat.packShut (p:=λa=>ah b (c' a) T::R a) i (lb hi) q (m1.write 0 (by simp) rfl (setRow_heap w b (c q).toArray _ T _ hb) (λk hk=>setRow_other w b k _ hk))) h
abbrev iw:= @TL.storeG
theorem TL.store1G{i:Nat}{t:TypeId}{x y:Operand}{v:Value}(hw:Want n D ops o L)(ho:o.op= .store t x y)(hd:o.dst=none)
 (hx:cK L x=some (.pointer (some ⟨b,j,none⟩))) (hy:cK L y=some v) (h1:v.oneCell'=true) (hs:(P.info? t).map (·.size)=some 1)
 (hi:Nat.blt i H.length=true) (hH:H.getD i (λ_=>True)=hid b c T R) (hl: ∀a,j< (c a).length) (hcs: ∀a,(c a).set j v=c' a)
 (h:TL P w0 F n ops Q l D L (H.set i (hid b c' T R))):TL P w0 F n ops Q (o::l) D L H:=
 iw (vs:=[v]) hw ho hd hx hy (by cases v<;>simp[Value.cells,Value.oneCell']at h1 ⊢) hs (by simpa using h1) hi hH (λa=>by have:=hl a;simp;omega)
  (λa=>by rw[←hcs a,wr,oC,if_pos (hl a)];simp) h
theorem HC{p p' a b c d:HP}{h:Hl}(e: ∀h,p h→p' h)(s:bz (a::b::c::d::p::H) h):bz (a::b::c::d::p'::H) h:=
 cF s (λ_ x=>x) λ_ s=>cF s (λ_ x=>x) λ_ s=>cF s (λ_ x=>x) λ_ s=>cF s (λ_ x=>x) λ_ s=>cF s e λ_ x=>x
theorem Does.hid{f:FuncId}{args:Array Value}{A:List HP}{q:Value→Prop}(h: ∀a,Does P f args (λ_=>True) (ah b (c a) T::A) (dH λv H=>q v∧H=ah b (c' a) T::A)):Does P f args (λ_=>True) (Leg.hid b c T R::A) (dH λv H=>q v∧H=Leg.hid b c' T R::A):=
 Does.pack λa=>Does.withinR (B:=R a) (h a) (λ_ _ _ _=>trivial) (λ_ s=>eH (List.Perm.cons (ah b (c a) T) (List.perm_append_comm (l₁:=R a) (l₂:=A))) s) λv H hp=>by
  obtain⟨h1,rfl⟩:=hp;exact⟨_,λ_ s=>bn (p:=λa=>ah b (c' a) T::R a) a (eH (List.Perm.cons (ah b (c' a) T) (List.perm_append_comm (l₁:=A) (l₂:=R a))) s),h1,rfl⟩
end
open Api
variable {P:Program} {w0:World} {F:Hl} {n:Nat} {ops:Array Oper} {Q:QQ} {D:List Deferred} {L:List (Nat×Value)} {H:List HP} {d:Nat} {o:Oper} {l:List Oper}
section
variable {A:Type} {b:Nat} {c:A→List Value} {T:TypeId} {R:A→List HP}
theorem LG{t:TypeId}{x:Operand}{dt:TypeDesc}{j:Nat}(k:Nat)(ht:P.underlying t=some dt)(v:Value)(h:TL P w0 F n ops Q l D ((d,v)::L) H)(hw:Want n D ops o L:=by first|exact ab rfl|exact cd rfl rfl rfl)(hd:o.dst=some d:=by exact rfl)(hn:Nat.blt d n=true:=by exact rfl)(ho:o.op= .load t x:=by exact rfl)(hp:dR dt=true:=by exact rfl)(hx:cK L x=some (.pointer (some ⟨b,j,none⟩)):=by exact rfl)(hk:Nat.blt k H.length=true:=by exact rfl)(hH:H.getD k (λ_=>True)=hid b c T R:=by exact rfl)(hc: ∀a,(c a)[j]?=some v):TL P w0 F n ops Q (o::l) D L H:=ml hw hd hn (dz ho ht hp hx (cY k hk hH) hc) h
theorem LZ{α:Type}{f:α→List Int}{t:TypeId}{x:Operand}{dt:TypeDesc}{j m:Nat}(k:Nat)(ht:P.underlying t=some dt)(hs:(P.info? t).map (·.size)=some m)(hf: ∀x,(ints (f x)).length=m)(y:α)(h:TL P w0 F n ops Q l D ((d, .agg (ints (f y)).toArray)::L) H)(hw:Want n D ops o L:=by first|exact ab rfl|exact cd rfl rfl rfl)(hd:o.dst=some d:=by exact rfl)(hn:Nat.blt d n=true:=by exact rfl)(ho:o.op= .load t x:=by exact rfl)(hp:dR dt=false:=by exact rfl)(hx:cK L x=some (.pointer (some ⟨b,j,none⟩)):=by exact rfl)(hk:Nat.blt k H.length=true:=by exact rfl)(hH:H.getD k (λ_=>True)=hid b c T R:=by exact rfl)(hc: ∀a,((c a).drop j).take m=ints (f y)):TL P w0 F n ops Q (o::l) D L H:=ml hw hd hn (gI ho ht hp hs hx (cY k hk hH) (hf y) hc) h
theorem SK{o:Oper}{l:List Oper}{t:TypeId}{x y:Operand}{j m:Nat}{v:Value}{c':A→List Value}(k:Nat)(hs:(P.info? t).map (·.size)=some 1)(hl: ∀a,(c a).length=m)(h:TL P w0 F n ops Q l D L (H.set k (hid b c' T R)))(hw:Want n D ops o L:=by first|exact ab rfl|exact cd rfl rfl rfl)(hd:o.dst=none:=by exact rfl)(ho:o.op= .store t x y:=by exact rfl)(hx:cK L x=some (.pointer (some ⟨b,j,none⟩)):=by exact rfl)(hy:cK L y=some v:=by exact rfl)(h1:v.oneCell'=true:=by exact rfl)(hk:Nat.blt k H.length=true:=by exact rfl)(hH:H.getD k (λ_=>True)=hid b c T R:=by exact rfl)(hj:Nat.blt j m=true:=by first|exact rfl|exact Nat.ble_eq_true_of_le (by omega))(hc: ∀a,(c a).set j v=c' a):TL P w0 F n ops Q (o::l) D L H:=TL.store1G hw ho hd hx hy h1 hs hk hH (λa=>(hl a)▸lb hj) hc h
end
end Leg
end

section
namespace Go.Proofs.YtmcjhkbcmmddgaaGreat
open Go Leg Codec Api Dsk Wal
structure Env(δ:Type) extends Dk δ where
 T:Nat
 ov:Value
 sf:Nat
 E:δ→List SaidT→HP
 lg:Nat→δ→HP
 me : yh Tryz.prog T ov "Send" sf
 nm:Named Tryz.prog sf
 say: ∀(e:δ) (l:List SaidT) (to':Int) (m:MsgT),ok e→Leg.Does Tryz.prog sf #[ov, .int .i64 to', .agg (ints m.flat).toArray] (λ_=>True) [E e l] (dH (λ_ H=>H=[E e (if dn e then l else l++[SaidT.mk to' m])]))
 put: ∀(g:Nat) (x:Value) (bs:List UInt8) (e:δ) (l:List SaidT),ok e→bs.length≤3000→Leg.Does Tryz.prog 131 #[.pointer (some ⟨g,0,none⟩),x] (IsW x bs) [lg g e,E e l] (dH (λv H=>v= .int .i64 (pt e bs).2∧H=[lg g (pt e bs).1,E (pt e bs).1 l]))
def Gg(vo:Value):Option VoteT→HP
 |none=>λ_=>vo= .pointer none
 |some vt=>λh=>∃b,vo= .pointer (some ⟨b,0,none⟩)∧ah b (VoteT.cells vt) 187 h
abbrev cJ{δ:Type}(V:Env δ)(r:Nat)(s:MS δ):HP:=hid r (λa:Adr=>RepT.cells (s.rep a)) 94 (λa=>[V.lg a.lg s.e,own a.rs s.replies.length (ints (s.replies.flatMap ReplyT.flat)) 175 3,Gg a.vo s.vote,V.E s.e s.o])
abbrev wt{δ:Type}(V:Env δ)(r:Nat)(s:MS δ)(vo:Value):HP:=hid r (λa:Nat×Value=>RepT.cells (s.rep ⟨a.1,vo,a.2⟩)) 94 (λa=>[V.lg a.1 s.e,own a.2 s.replies.length (ints (s.replies.flatMap ReplyT.flat)) 175 3,V.E s.e s.o])
theorem kf{δ:Type}{V:Env δ}{r:Nat}{f:MS δ×Int}{X:MS δ}{y:Int}(e:f=(X,y)):Value.int .i64 y= .int .i64 f.2∧[cJ V r X]=[cJ V r f.1]:=by
 subst e;exact⟨rfl,rfl⟩
theorem HK{δ:Type}(V:Env δ)(r:Nat)(s:MS δ)(to':Int)(m:MsgT)[hs:OkR V.toDk s]:DT V.sf #[V.ov, .int .i64 to', .agg (ints m.flat).toArray] T0 [cJ V r s] (dH (λ_ H=>H=[cJ V r (yt V.toDk s to' m)])):=
 Leg.Does.pack λa=>Leg.Does.withinR (V.say s.e s.o to' m hs.e) (λ_ _ _ _=>trivial) (λ_ q=>az [4] rfl q) λv H hp=>by
  subst hp;refine⟨_,λ_ q=>?_,rfl⟩;have q2:=az [1,1,1,1,0] rfl q;exact bn (p:=λa:Adr=>[ah r (RepT.cells (s.rep a)) 94,V.lg a.lg s.e,own a.rs s.replies.length (ints (s.replies.flatMap ReplyT.flat)) 175 3,Gg a.vo s.vote,V.E s.e (if V.dn s.e then s.o else s.o++[SaidT.mk to' m])]) a q2
theorem gV{δ:Type}(V:Env δ)(r:Nat)(s:MS δ)(to':Int)(m:MsgT)(f:MS δ→MS δ)(hT:to'=s.id→DT 62 #[.pointer (some ⟨r,0,none⟩), .iface V.T V.ov, .int .i64 s.id, .agg (ints m.flat).toArray] T0 [cJ V r s] (dH (λ_ H=>H=[cJ V r (f s)])))[OkR V.toDk s]:
 DT 105 #[(.pointer (some ⟨r,0,none⟩)),(.iface V.T V.ov),(.int .i64 (to')),(.agg (ints m.flat).toArray)] T0 [cJ V r s] (dH (λ_ H=>H=[cJ V r (kr V.toDk f s to' m)])):=by
 refine Leg.Does.body (vs:=[(.pointer (some ⟨r,0,none⟩)),(.iface V.T V.ov),(.int .i64 (to')),(.agg (ints m.flat).toArray)]) (n:=28) Tryz.func105 rfl rfl rfl (λw0 F hF=>?_);refine sr λ_ J1=>?_
 refine TL.box (ab rfl) rfl rfl rfl rfl (λb7=>?_);change TL _ _ _ _ _ _ _ _ _ [ah b7 (ints m.flat) 136,cJ V r s];refine nx J1 ?_;refine aa λ_ J2=>?_
 refine sr λ_ J3=>?_
 refine mv ?_;refine mv ?_;refine tp (gR rfl rfl) ?_;refine tp (bc (r:=0) rfl dq rfl aP rfl rfl) ?_;refine tp (dz (v:=(.int .i64 (s.id))) rfl Y3 rfl rfl (cY 1 rfl rfl) (λa_=>(cH (s.rep a_) rfl))) ?_;refine tp (PF rfl rfl rfl) ?_;refine ap (λh13=>?_) (λh13=>?_);refine nx J3 ?_;refine nZ rfl ?_;refine aa λ_ J4=>?_
 refine oZ (λw=>Frm F w∧w.heap[b7]?=some (.cells (ints m.flat).toArray 136 (0,0))∧True) bl rfl (λ_ s=>⟨fE s,s.block 0 (lb rfl) rfl,trivial⟩) ?_;refine ta 0 rfl (kn rfl rfl) ?_;refine ta 1 rfl (kn rfl rfl) ?_;refine ta 2 rfl (kn rfl rfl) ?_;refine ta 3 rfl (gR rfl rfl) ?_;refine ta 4 rfl (bc (r:=0) rfl dq rfl aP rfl rfl) ?_;refine ta 6 rfl (aM (vs:=ints m.flat) rfl bg rfl ca rfl (λ_ h=>h.2.1) (aI m) (bo (aI m))) ?_;refine cT [5] (by kernel_rfl) rfl ?_;refine aG rfl ?_ ?_;refine tp (dz (v:=(.int .i64 (s.id))) rfl Y3 rfl rfl (cY 1 rfl rfl) (λa_=>(cH (s.rep a_) rfl))) ?_;refine aw ?_;refine vJ (λ_ s=>⟨fE s,s.block 0 (lb rfl) rfl,trivial⟩) ?_;refine cT [7] (by kernel_rfl) rfl ?_;refine aG rfl ?_ ?_;refine lC (ab rfl) rfl rfl rfl OK rfl ((by have h:=hT h13;exact h)) (λ_ s=>az [1] rfl s) (λ_ _ _=>trivial) (λvR HR hR=>?_);obtain rfl:=hR;refine aw ?_;refine vJ (λ_ s=>⟨fE s,s.block 1 (lb rfl) rfl,trivial⟩) ?_;refine TD.done (by kernel_rfl) ?_;refine ac J4 ?_;refine aj ?_;refine ae ?_;refine aF (dV _) (λ_ s=>ak [0] rfl s) ?_;refine dU rfl ?_;exact(congrArg (λq=>[cJ V r q]) (if_pos h13)).symm;exact bJ;exact bJ;refine nx J3 ?_;refine Ha rfl ?_;refine aS ?_;refine ac J2 ?_;refine sr λ_ J5=>?_
 refine mv ?_;refine tp (PV.ifaceNotNil rfl Tryz.underlying126 rfl) ?_;refine nx J5 ?_;refine nZ rfl ?_;refine ad ?_;refine mv ?_;refine mv ?_;refine tp (aM (vs:=ints m.flat) rfl bg rfl ca rfl (fD 0 rfl rfl) (aI m) (bo (aI m))) ?_;refine TL.callI (ab rfl) rfl rfl rfl rfl V.me V.nm rfl (HK V r s to' m) (λ_ s=>az [1] rfl s) (λ_ _ _=>trivial) (λvR HR hR=>?_);obtain rfl:=hR;refine aw ?_;refine aF (dV _) (λ_ s=>ak [0] rfl s) ?_;refine bw rfl ?_;exact(congrArg (λq=>[cJ V r q]) (if_neg h13)).symm
theorem jY{δ:Type}(V:Env δ)(r:Nat)(s:MS δ)(to':Int)(m:MsgT)(hto:to'≠s.id)[OkR V.toDk s]:DT 105 #[.pointer (some ⟨r,0,none⟩), .iface V.T V.ov, .int .i64 to', .agg (ints m.flat).toArray] T0 [cJ V r s] (dH (λ_ H=>H=[cJ V r (iG V.toDk s [⟨to',m⟩])])):=by
 have h:=gV V r s to' m id (λe=>absurd e hto)
 rwa [show kr V.toDk id s to' m=iG V.toDk s [⟨to',m⟩]from if_neg hto]at h
theorem oM{δ:Type}(V:Env δ)(r:Nat)(s:MS δ)(l:List SaidT)(to':Int)(m:MsgT)(hto:to'≠s.id)[OkR V.toDk s]:DT 105 #[.pointer (some ⟨r,0,none⟩), .iface V.T V.ov, .int .i64 to', .agg (ints m.flat).toArray] T0 [cJ V r (iG V.toDk s l)] (dH (λ_ H=>H=[cJ V r (iG V.toDk s (l++[⟨to',m⟩]))])):=by
 have h:=jY V r (iG V.toDk s l) to' m hto
 rwa [Jp]at h
theorem MQ{δ:Type}{V:Env δ}{r:Nat}{a b:MS δ}(h:a=b):[cJ V r a]=[cJ V r b]:=by rw[h]
theorem ou{δ:Type}(V:Env δ)(r:Nat)(s:MS δ)[OkR V.toDk s]:
 DT 63 #[(.pointer (some ⟨r,0,none⟩)),(.iface V.T V.ov)] T0 [cJ V r s] (dH (λ_ H=>H=[cJ V r (eV V.toDk s)])):=by
 refine BD 40 Tryz.func63 rfl rfl rfl λw0 F hF=>?_
 have hid:cI s.id=true:=OkR.id;have hid2:0≤s.id∧s.id<5:=of_decide_eq_true hid;refine aa λ_ J1=>DB bl (cY 0 rfl rfl) ?_
 refine PD 0 ?_;refine PD 1 ?_;refine FD 2 0 dq aP ?_;refine ta 3 rfl (dz (v:=(.int .i64 (s.id))) rfl Y3 rfl rfl (λ_ h=>h.2.1) (λa_=>(cH _ rfl))) ?_;refine PD 4 ?_;refine PD 5 ?_;refine FD 6 9 dq aX ?_;refine ta 7 rfl (gI (vs:=ints s.own.flat) rfl dT rfl aX rfl (λ_ h=>h.2.1) (ag s.own) (λa_=>(yR (s.rep a_) 0 rfl (by decide) (bo (ag ((s.rep a_).own)))))) ?_;refine ta 8 rfl (kJ MsgT.zero (MsgT.mk 0 s.id s.own 0 0 BallotT.zero BallotT.zero ChangeT.zero ViewT.zero) [(0,[Value.int .i64 0]),(1,[Value.int .i64 s.id]),(2,ints s.own.flat)] bg br (g:=MsgT.sg)) ?_;refine AL 9 ?_;refine XZ mT (ints MsgT.zero.flat) λb4=>?_
 refine EN (AL 10 ?_);refine SW 0 ca aI ?_;refine EN (DN (ac J1 (sr λ_ J2=>P2 ?_)));refine FA 0 dq aP ?_;refine LG 1 Y3 (.int .i64 (s.id)) ?_ (hc:=by exact λa_=>(cH _ rfl));refine CR Ft (nd s.id hid) ID λvR HR hR=>?_
 obtain⟨_,rfl,rfl⟩:=hR;revert vR;intro uw;refine iZ 0 rfl rfl (λhluw _=>jh 0 rfl rfl (by omega) (λgw capw hvw hcapw=>tp (eA rfl km rfl hluw) ?_));refine PS ?_;refine nx J2 (aq (sE 2 (sr λ_ J3=>PS ?_)));refine nx J3 (aa λ_ J4=>CY (qx J4 (aa λ_ J5=>aq (sr λ_ J6=>tp (bT (r:=0) hvw rfl km aP rfl rfl (by omega) (by omega) rfl) ?_))));refine tp (cZ (v:=(.int .i64 (((s.id+1)%5)))) rfl Y3 rfl rfl (gq 0 rfl hvw rfl) rfl) ?_;refine PS ?_;refine nx J6 (sr λ_ J7=>P2 ?_);refine FA 1939 dq aP ?_;refine LG 2 Y3 (.int .i64 (s.kept)) ?_ (hc:=by exact λa_=>(sC _ rfl));refine PS ?_;refine tp (mp (r:=(s.kept.fdiv (2^min (((s.id+1)%5)).toNat IntKind.i64.bits))) rfl rfl rfl (by omega) rfl) ?_;refine tp (o5 (r:=((s.kept.fdiv (2^min (((s.id+1)%5)).toNat IntKind.i64.bits))%2)) rfl rfl rfl (mask (k:=1) (by decide) _)) ?_;refine PS ?_;refine ap ?_ ?_<;>intro h33;refine nx J7 (CY (ad (P3 ?_)));refine LW 1 bg ca aI ?_;refine CZ jI (jY V r s ((s.id+1)%5) (MsgT.mk 0 s.id s.own 0 0 BallotT.zero BallotT.zero ChangeT.zero ViewT.zero) (by omega)) (SM [2]) λvR=>?_
 refine aw (af (ac J5 (ad (tp (cB (r:=1) rfl rfl rfl (by decide)) ?_))));refine PS ?_;refine aw (eJ (sr λ_ J8=>PS ?_));refine nx J8 (aa λ_ J9=>CY (qx J9 (aa λ_ J10=>aq (sr λ_ J11=>tp (bT (r:=1) hvw rfl km aP rfl rfl (by omega) (by omega) rfl) ?_))));refine tp (cZ (v:=(.int .i64 (((s.id+2)%5)))) rfl Y3 rfl rfl (gq 1 rfl hvw rfl) rfl) ?_;refine PS ?_;refine nx J11 (sr λ_ J12=>P2 ?_);refine FA 1939 dq aP ?_;refine LG 0 Y3 (.int .i64 (s.kept)) ?_ (hc:=by exact λa_=>(sC _ rfl));refine PS ?_;refine tp (mp (r:=(s.kept.fdiv (2^min (((s.id+2)%5)).toNat IntKind.i64.bits))) rfl rfl rfl (by omega) rfl) ?_;refine tp (o5 (r:=((s.kept.fdiv (2^min (((s.id+2)%5)).toNat IntKind.i64.bits))%2)) rfl rfl rfl (mask (k:=1) (by decide) _)) ?_;refine PS ?_;refine ap ?_ ?_<;>intro h33;refine nx J12 (CY (ad (P3 ?_)));refine LW 2 bg ca aI ?_;refine CZ jI (oM V r s ([SaidT.mk ((s.id+1)%5) (MsgT.mk 0 s.id s.own 0 0 BallotT.zero BallotT.zero ChangeT.zero ViewT.zero)]) ((s.id+2)%5) (MsgT.mk 0 s.id s.own 0 0 BallotT.zero BallotT.zero ChangeT.zero ViewT.zero) (by omega)) ID λvR=>?_
 refine aw (af (ac J10 (ad (tp (cB (r:=2) rfl rfl rfl (by decide)) ?_))));refine PS ?_;refine aw (eJ (sr λ_ J13=>PS ?_));refine nx J13 (aa λ_ J14=>CN (bh (aC (aC (bC (WK [0] (bw rfl ?_)))))));exact MQ (by rw[eV,show oa (s.rep .nil)=[SaidT.mk ((s.id+1)%5) (MsgT.mk 0 s.id s.own 0 0 BallotT.zero BallotT.zero ChangeT.zero ViewT.zero)]++[SaidT.mk ((s.id+2)%5) (MsgT.mk 0 s.id s.own 0 0 BallotT.zero BallotT.zero ChangeT.zero ViewT.zero)]by rw[oa,ix,if_pos hid];simp[uY,xe,MsgT.zero,Adr.nil, *]]);refine nx J12 (CN (aS (af (ac J10 (ad (tp (cB (r:=2) rfl rfl rfl (by decide)) ?_))))));refine PS ?_;refine aw (eJ (sr λ_ J15=>PS ?_));refine nx J15 (aa λ_ J16=>CN (bh (aC (aC (bC (WK [0] (bw rfl ?_)))))));exact MQ (by rw[eV,show oa (s.rep .nil)=[SaidT.mk ((s.id+1)%5) (MsgT.mk 0 s.id s.own 0 0 BallotT.zero BallotT.zero ChangeT.zero ViewT.zero)]by rw[oa,ix,if_pos hid];simp[uY,xe,MsgT.zero,Adr.nil, *]]);refine nx J7 (CN (aS (af (ac J5 (ad (tp (cB (r:=1) rfl rfl rfl (by decide)) ?_))))));refine PS ?_;refine aw (eJ (sr λ_ J17=>PS ?_));refine nx J17 (aa λ_ J18=>CY (qx J18 (aa λ_ J19=>aq (sr λ_ J20=>tp (bT (r:=1) hvw rfl km aP rfl rfl (by omega) (by omega) rfl) ?_))));refine tp (cZ (v:=(.int .i64 (((s.id+2)%5)))) rfl Y3 rfl rfl (gq 0 rfl hvw rfl) rfl) ?_;refine PS ?_;refine nx J20 (sr λ_ J21=>P2 ?_);refine FA 1939 dq aP ?_;refine LG 2 Y3 (.int .i64 (s.kept)) ?_ (hc:=by exact λa_=>(sC _ rfl))
 refine PS ?_;refine tp (mp (r:=(s.kept.fdiv (2^min (((s.id+2)%5)).toNat IntKind.i64.bits))) rfl rfl rfl (by omega) rfl) ?_;refine tp (o5 (r:=((s.kept.fdiv (2^min (((s.id+2)%5)).toNat IntKind.i64.bits))%2)) rfl rfl rfl (mask (k:=1) (by decide) _)) ?_;refine PS ?_;refine ap ?_ ?_<;>intro h33;refine nx J21 (CY (ad (P3 ?_)));refine LW 1 bg ca aI ?_;refine CZ jI (jY V r s ((s.id+2)%5) (MsgT.mk 0 s.id s.own 0 0 BallotT.zero BallotT.zero ChangeT.zero ViewT.zero) (by omega)) (SM [2]) λvR=>?_
 refine aw (af (ac J19 (ad (tp (cB (r:=2) rfl rfl rfl (by decide)) ?_))));refine PS ?_;refine aw (eJ (sr λ_ J22=>PS ?_));refine nx J22 (aa λ_ J23=>CN (bh (aC (aC (bC (WK [0] (bw rfl ?_)))))));exact MQ (by rw[eV,show oa (s.rep .nil)=[SaidT.mk ((s.id+2)%5) (MsgT.mk 0 s.id s.own 0 0 BallotT.zero BallotT.zero ChangeT.zero ViewT.zero)]by rw[oa,ix,if_pos hid];simp[uY,xe,MsgT.zero,Adr.nil, *]]);refine nx J21 (CN (aS (af (ac J19 (ad (tp (cB (r:=2) rfl rfl rfl (by decide)) ?_))))));refine PS ?_;refine aw (eJ (sr λ_ J24=>PS ?_));refine nx J24 (aa λ_ J25=>CN (bh (aC (aC (bC (WK [2] (bw rfl ?_)))))));exact MQ (by rw[eV,show oa (s.rep .nil)=[]by rw[oa,ix,if_pos hid];simp[uY,xe,MsgT.zero,Adr.nil, *]];exact(qA _ _).symm)
theorem nr{δ:Type}(V:Env δ)(r:Nat)(s:MS δ)(y:RowT)[OkR V.toDk s]:
 DT 68 #[(.pointer (some ⟨r,0,none⟩)),(.iface V.T V.ov),(.agg (ints y.flat).toArray)] T0 [cJ V r s] (dH (λ_ H=>H=[cJ V r (jW V.toDk s y)])):=by
 refine BD 27 Tryz.func68 rfl rfl rfl λw0 F hF=>sr λ_ J1=>XY (ints y.flat) λb5=>?_
 refine nx J1 (sr λ_ J2=>PS ?_);refine nx J2 (aq ?_)
 refine bD (α:=(Nat)) (λk=>k≤5) (λk=>[(0,(.pointer (some ⟨r,0,none⟩))),(1,(.iface V.T V.ov)),(5,(.pointer (some ⟨b5,0,none⟩))),(7,(.int .i64 (((k:Nat):Int))))]) (λk=>[ah b5 (ints y.flat) 51,cJ V r (iG V.toDk s (nF s.id (pu s.id y) (λ_=>true) k))]) (λk=>5-k) 0
  (aO _) SB
  (λ_ q=>by
  rw[show nF s.id (pu s.id y) (λ_=>true) 0=[]from rfl,qA]
  exact q) (λk hinv=>?_)
 obtain hk:=hinv;refine sr λ_ J3=>PS ?_
 refine ap ?_ ?_<;>intro h8;refine nx J3 (aa λ_ J4=>CY (qx J4 (aa λ_ J5=>aq (sr λ_ J6=>P2 ?_))));refine nx J6 (sr λ_ J7=>P3 ?_);refine FA 0 dq aP ?_;refine LG 1 Y3 (.int .i64 (s.id)) ?_ (hc:=by exact λa_=>(cH _ rfl));refine PS ?_;refine ap ?_ ?_<;>intro h15;refine nx J7 (CY (DC bl (cY 1 rfl rfl) (BL 0) ?_));refine PD 0 ?_;refine PD 1 ?_;refine PD 2 ?_;refine PD 3 ?_;refine PD 4 ?_;refine FD 5 0 dq aP ?_;refine ta 6 rfl (dz (v:=(.int .i64 (s.id))) rfl Y3 rfl rfl (λ_ h=>h.2.1) (λa_=>(cH _ rfl))) ?_;refine LY 7 dT aX ag ?_;refine ta 8 rfl (kJ MsgT.zero (MsgT.mk 2 s.id y 0 0 BallotT.zero BallotT.zero ChangeT.zero ViewT.zero) [(0,[Value.int .i64 2]),(1,[Value.int .i64 s.id]),(2,ints y.flat)] bg br (g:=MsgT.sg)) ?_;refine AL 9 ?_;refine CZ jI (oM V r s (nF s.id (pu s.id y) (λ_=>true) k) ((k:Nat):Int) (MsgT.mk 2 s.id y 0 0 BallotT.zero BallotT.zero ChangeT.zero ViewT.zero) h15) (SM [1]) λvR=>?_
 refine EN (DN (af (ac J5 (ad (AD ?_)))));refine PS ?_;refine aw ?_
 exact aL ((k+1):(Nat)) (by omega) (by show 5- (k+1)<5-k;omega)
  SB
  (λ_ q=>by
   rw[jl,if_pos ⟨h15,rfl⟩]
   exact ak [1,0] rfl q)
 refine nx J7 (CN (aS (af (ac J5 (ad (AD ?_))))));refine PS ?_;refine aw ?_
 exact aL ((k+1):(Nat)) (by omega) (by show 5- (k+1)<5-k;omega)
  SB
  (λ_ q=>by
   rw[jl,if_neg (by omega)];rw[aW]
   exact ak [0,0] rfl q)
 refine nx J3 (aa λ_ J8=>CN (bh (aC (aC (bC (WK [1] (bw rfl ?_)))))));obtain rfl:k=5:=by omega
 exact rfl
theorem nq{δ:Type}(V:Env δ)(r:Nat)(s:MS δ)(v:ViewT)[OkR V.toDk s]:
 DT 66 #[(.pointer (some ⟨r,0,none⟩)),(.iface V.T V.ov),(.agg (ints v.flat).toArray)] T0 [cJ V r s] (dH (λ_ H=>H=[cJ V r (kU V.toDk s v)])):=by
 refine BD 23 Tryz.func66 rfl rfl rfl λw0 F hF=>sr λ_ J1=>XY (ints v.flat) λb5=>?_
 refine nx J1 (sr λ_ J2=>PS ?_);refine nx J2 (aq ?_)
 refine bD (α:=(Nat)) (λk=>k≤5) (λk=>[(0,(.pointer (some ⟨r,0,none⟩))),(1,(.iface V.T V.ov)),(5,(.pointer (some ⟨b5,0,none⟩))),(7,(.int .i64 (((k:Nat):Int))))]) (λk=>[ah b5 (ints v.flat) 29,cJ V r (iG V.toDk s (nF s.id (jp v) (λ_=>true) k))]) (λk=>5-k) 0
  (aO _) SB
  (λ_ q=>by
  rw[show nF s.id (jp v) (λ_=>true) 0=[]from rfl,qA]
  exact q) (λk hinv=>?_)
 obtain hk:=hinv;refine sr λ_ J3=>PS ?_
 refine ap ?_ ?_<;>intro h8;refine nx J3 (aa λ_ J4=>CY (qx J4 (aa λ_ J5=>aq (sr λ_ J6=>P2 ?_))));refine nx J6 (sr λ_ J7=>P3 ?_);refine FA 0 dq aP ?_;refine LG 1 Y3 (.int .i64 (s.id)) ?_ (hc:=by exact λa_=>(cH _ rfl));refine PS ?_;refine ap ?_ ?_<;>intro h15;refine nx J7 (CY (ad (P3 ?_)));refine LW 0 e6 bi am ?_;refine tp (kJ MsgT.zero (MsgT.mk 7 0 RowT.zero 0 0 BallotT.zero BallotT.zero ChangeT.zero v) [(0,[Value.int .i64 7]),(8,ints v.flat)] bg br (g:=MsgT.sg)) ?_;refine CZ jI (oM V r s (nF s.id (jp v) (λ_=>true) k) ((k:Nat):Int) (MsgT.mk 7 0 RowT.zero 0 0 BallotT.zero BallotT.zero ChangeT.zero v) h15) (SM [1]) λvR=>?_
 refine aw (af (ac J5 (ad (AD ?_))));refine PS ?_;refine aw ?_
 exact aL ((k+1):(Nat)) (by omega) (by show 5- (k+1)<5-k;omega)
  SB
  (λ_ q=>by
   rw[jl,if_pos ⟨h15,rfl⟩]
   exact ak [1,0] rfl q)
 refine nx J7 (CN (aS (af (ac J5 (ad (AD ?_))))));refine PS ?_;refine aw ?_
 exact aL ((k+1):(Nat)) (by omega) (by show 5- (k+1)<5-k;omega)
  SB
  (λ_ q=>by
   rw[jl,if_neg (by omega)];rw[aW]
   exact ak [0,0] rfl q)
 refine nx J3 (aa λ_ J8=>CN (bh (aC (aC (bC (WK [1] (bw rfl ?_)))))));obtain rfl:k=5:=by omega
 exact rfl
end Go.Proofs.YtmcjhkbcmmddgaaGreat
end
