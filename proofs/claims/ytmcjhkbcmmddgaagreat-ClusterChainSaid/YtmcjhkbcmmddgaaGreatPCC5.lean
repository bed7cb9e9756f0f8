/-
  Joined texts:what a statement's proof reaches.
-/
import Derived.Conc.LoneCalls
import Derived.Conc.LoneSelectN
import Derived.Test.YtmcjhkbcmmddgaaGreatPCC4
set_option maxHeartbeats 8000000
set_option maxRecDepth 100000
set_option linter.unusedSimpArgs false
set_option linter.unusedVariables false
section
namespace Go.Proofs.YtmcjhkbcmmddgaaGreat
open Go Leg Codec Api
theorem Ax(rb:Nat)(v:Value)(bs:List UInt8):
 DT 97 #[(.pointer (some ⟨rb,0,none⟩))] (IsB v bs) [an rb [v] 197] (n8 197 iQ (λmb:MsgT×Bool=> .tuple #[.agg (ints mb.1.flat).toArray, .bool mb.2]) cH v bs rb):=by
 refine BD 85 Tryz.func97 rfl rfl rfl λw0 F hF=>sr λ_ J1=>XZ mB (ints MsgT.zero.flat) λb2=>?_
 refine PS ?_;refine nx J1 (sr λ_ J2=>PS ?_);refine CP jz (cS rb v bs (10)) (SM [1]) (λ_ d _=>(hF).more d) (λcP HP hP=>?_) (λvR HR hR=>?_);obtain⟨vP,rfl,rfl,hpP⟩:=hP;refine ay (WK [0] (aS ?_));exact⟨_,rfl,rfl,by simp[cH,bY hpP, *]⟩;obtain⟨a1,r1,v1,rfl,rfl,hp1,ht1⟩:=hR;have hf1:=ht1 _ hF;refine tp (lu MsgT.zero (MsgT.mk a1 0 RowT.zero 0 0 BallotT.zero BallotT.zero ChangeT.zero ViewT.zero) [(0,[Value.int .i64 a1])] bi bv (g:=MsgT.sg)) ?_;refine XZ mB (ints MsgT.zero.flat) λb4=>?_
 refine SW 0 ci aJ ?_;refine nx J2 (aa λ_ J3=>sr λ_ J4=>FA 0 bi aQ ?_);refine LT 0 Y3 (.int .i64 (a1)) ?_ (hc:=by exact fa _ rfl);refine nx J4 (av (aa λ_ J5=>fo (α:=Unit) (λ_u=>True) (λ_u=>[(0,(.pointer (some ⟨rb,0,none⟩))),(2,(.pointer (some ⟨b2,0,none⟩))),(3,(.bool false)),(4,(.pointer (some ⟨b4,0,none⟩))),(9,(.int .i64 (a1))),(10,(.bool ((eA a1))))]) (λ_u=>[an b4 (ints (MsgT.mk a1 0 RowT.zero 0 0 BallotT.zero BallotT.zero ChangeT.zero ViewT.zero).flat) 136,an rb [v1] 197,an b2 (ints MsgT.zero.flat) 136]) (λ_u hinv=>?_) (λtl5=>?_)));have _:=hinv;refine af J5 (TC.cond rfl (λh10=>?_) (λh10=>?_));refine sr λ_ J6=>PS ?_
 refine CP jz (cS rb v1 r1 (5)) (SM [1]) (λ_ d _=>(hf1).more d) (λcP HP hP=>?_) (λvR HR hR=>?_);obtain⟨vP,rfl,rfl,hpP⟩:=hP;refine ay (aO (ay (WK [0] (aS ?_))));exact⟨_,rfl,rfl,by simp[cH,aF hp1,bY hpP,h10, *]⟩;obtain⟨a2,r2,v2,rfl,rfl,hp2,ht2⟩:=hR;have hf2:=ht2 _ hf1;refine FA 1 bi aQ ?_;refine SS 1 aQ (aJ _) (MsgT.set_whose _ rfl _) ?_;refine nx J6 (sr λ_ J7=>PS ?_);refine CP I0 (tZ rb v2 r2) ID (λ_ d _=>(hf2).more d) (λcP HP hP=>?_) (λvR HR hR=>?_);obtain⟨vP,rfl,rfl,hpP⟩:=hP;refine ay (aO (ay (WK [0] (aS ?_))));exact⟨_,rfl,rfl,by simp[cH,aF hp1,aF hp2,bY hpP,h10, *]⟩;obtain⟨a3,r3,v3,rfl,rfl,hp3,ht3⟩:=hR;have hf3:=ht3 _ hf2;refine FA 2 bi bj ?_;refine SP 1 bj am aJ MsgT.wp_row ?_;refine nx J7 (aa λ_ J8=>D1 1 bo ?_);refine LY 0 bi ci aJ ?_;refine FD 1 2 bi bj ?_;refine ta 2 rfl (aL (vs:=ints a3.flat) rfl ez rfl bj rfl (λ_ h=>h.2.1) (am a3) (mo (MsgT.mk a1 a2 a3 0 0 BallotT.zero BallotT.zero ChangeT.zero ViewT.zero) 0 rfl (by decide) (bn (am a3)))) ?_;refine AL 3 ?_;refine CE Cx (kd a3 (As hp3)) ID ?_;refine EN (AL 4 ?_);refine SW 2 ci aJ ?_;refine EN (PD 5 ?_);refine DN (af J8 (ak (aI (ae (RT 2 [0] bi ci (aJ _) ?_)))));exact⟨((MsgT.mk a1 a2 a3 0 0 BallotT.zero BallotT.zero ChangeT.zero ViewT.zero),(io a3)),_,_,rfl,rfl,by simp[cH,pr,aF hp1,aF hp2,aF hp3,h10,MsgT.zero,RecT.zero, *],(ht1.trans (ht2.trans ht3))⟩;refine sr λ_ J9=>PS ?_
 refine aq ?_ ?_<;>intro h25;refine PS ?_;refine nx J9 (CY (ag (PS ?_)));refine CP qi (jy rb v1 r1) (SM [1]) (λ_ d _=>(hf1).more d) (λcP HP hP=>?_) (λvR HR hR=>?_);obtain⟨vP,rfl,rfl,hpP⟩:=hP;refine aO (ay (WK [0] (aS ?_)));exact⟨_,rfl,rfl,by simp[cH,eA,fe,aF hp1,bY hpP,h10,h25, *]⟩;obtain⟨a2,r2,v2,rfl,rfl,hp2,ht2⟩:=hR;have hf2:=ht2 _ hf1;refine FA 176 bi aQ ?_;refine SS 1 aQ (aJ _) (MsgT.set_version _ rfl _) ?_;refine ax (ah (af J3 (sr λ_ J10=>LW 1 bi ci aJ ?_)));refine SW 2 ci aJ ?_;refine PS ?_;refine nx J10 (ak (RT 2 [0] bi ci (aJ _) ?_));exact⟨((MsgT.mk a1 0 RowT.zero a2 0 BallotT.zero BallotT.zero ChangeT.zero ViewT.zero),true),_,_,rfl,rfl,by simp[cH,eA,fe,pr,aF hp1,aF hp2,h10,h25,MsgT.zero,RecT.zero, *],(ht1.trans ht2)⟩;refine PS ?_;refine nx J9 (CN (aa λ_ J11=>fo (α:=Unit) (λ_u=>True) (λ_u=>[(0,(.pointer (some ⟨rb,0,none⟩))),(2,(.pointer (some ⟨b2,0,none⟩))),(3,(.bool false)),(4,(.pointer (some ⟨b4,0,none⟩))),(9,(.int .i64 (a1))),(29,(.bool ((fe a1))))]) (λ_u=>[an b4 (ints (MsgT.mk a1 0 RowT.zero 0 0 BallotT.zero BallotT.zero ChangeT.zero ViewT.zero).flat) 136,an rb [v1] 197,an b2 (ints MsgT.zero.flat) 136]) (λ_u hinv=>?_) (λtl11=>?_)));have _:=hinv;refine af J11 (TC.cond rfl (λh29=>?_) (λh29=>?_));refine sr λ_ J12=>PS ?_
 refine CP qi (jy rb v1 r1) (SM [1]) (λ_ d _=>(hf1).more d) (λcP HP hP=>?_) (λvR HR hR=>?_);obtain⟨vP,rfl,rfl,hpP⟩:=hP;refine ay (aO (ay (WK [0] (aS ?_))));exact⟨_,rfl,rfl,by simp[cH,aF hp1,bY hpP,h10,h25,h29, *]⟩;obtain⟨a2,r2,v2,rfl,rfl,hp2,ht2⟩:=hR;have hf2:=ht2 _ hf1;refine FA 177 bi aQ ?_;refine SS 1 aQ (aJ _) (Ox _ rfl _) ?_;refine nx J12 (ag (PS ?_));refine CP zj (jO rb v2 r2) ID (λ_ d _=>(hf2).more d) (λcP HP hP=>?_) (λvR HR hR=>?_);obtain⟨vP,rfl,rfl,hpP⟩:=hP;refine aO (ay (WK [0] (aS ?_)));exact⟨_,rfl,rfl,by simp[cH,aF hp1,aF hp2,bY hpP,h10,h25,h29, *]⟩;obtain⟨a3,r3,v3,rfl,rfl,hp3,ht3⟩:=hR;have hf3:=ht3 _ hf2;refine FA 178 bi cA ?_;refine SP 1 cA ap aJ Ow ?_;refine ax (ah (af J3 (sr λ_ J13=>LW 1 bi ci aJ ?_)));refine SW 2 ci aJ ?_;refine PS ?_;refine nx J13 (ak (RT 2 [0] bi ci (aJ _) ?_));exact⟨((MsgT.mk a1 0 RowT.zero 0 a2 a3 BallotT.zero ChangeT.zero ViewT.zero),true),_,_,rfl,rfl,by simp[cH,pr,aF hp1,aF hp2,aF hp3,h10,h25,h29,MsgT.zero,RecT.zero, *],(ht1.trans (ht2.trans ht3))⟩;refine sr λ_ J14=>PS ?_
 refine aq ?_ ?_<;>intro h39;refine PS ?_;refine nx J14 (CY (sr λ_ J15=>PS ?_));refine CP qi (jy rb v1 r1) (SM [1]) (λ_ d _=>(hf1).more d) (λcP HP hP=>?_) (λvR HR hR=>?_);obtain⟨vP,rfl,rfl,hpP⟩:=hP;refine ay (aO (ay (WK [0] (aS ?_))));exact⟨_,rfl,rfl,by simp[cH,eA,fe,aF hp1,bY hpP,h10,h25,h29,h39, *]⟩;obtain⟨a2,r2,v2,rfl,rfl,hp2,ht2⟩:=hR;have hf2:=ht2 _ hf1;refine FA 177 bi aQ ?_;refine SS 1 aQ (aJ _) (Ox _ rfl _) ?_;refine nx J15 (sr λ_ J16=>PS ?_);refine CP zj (jO rb v2 r2) ID (λ_ d _=>(hf2).more d) (λcP HP hP=>?_) (λvR HR hR=>?_);obtain⟨vP,rfl,rfl,hpP⟩:=hP;refine ay (aO (ay (WK [0] (aS ?_))));exact⟨_,rfl,rfl,by simp[cH,eA,fe,aF hp1,aF hp2,bY hpP,h10,h25,h29,h39, *]⟩;obtain⟨a3,r3,v3,rfl,rfl,hp3,ht3⟩:=hR;have hf3:=ht3 _ hf2;refine FA 178 bi cA ?_;refine SP 1 cA ap aJ Ow ?_;refine nx J16 (sr λ_ J17=>PS ?_);refine CP zj (jO rb v3 r3) ID (λ_ d _=>(hf3).more d) (λcP HP hP=>?_) (λvR HR hR=>?_);obtain⟨vP,rfl,rfl,hpP⟩:=hP;refine ay (aO (ay (WK [0] (aS ?_))));exact⟨_,rfl,rfl,by simp[cH,eA,fe,aF hp1,aF hp2,aF hp3,bY hpP,h10,h25,h29,h39, *]⟩;obtain⟨a4,r4,v4,rfl,rfl,hp4,ht4⟩:=hR;have hf4:=ht4 _ hf3;refine FA 180 bi cA ?_;refine SP 1 cA ap aJ MsgT.wp_had ?_;refine nx J17 (ag (PS ?_));refine CP IZ (oZ rb v4 r4) ID (λ_ d _=>(hf4).more d) (λcP HP hP=>?_) (λvR HR hR=>?_);obtain⟨vP,rfl,rfl,hpP⟩:=hP
 refine aO (ay (WK [0] (aS ?_)));exact⟨_,rfl,rfl,by simp[cH,eA,fe,aF hp1,aF hp2,aF hp3,aF hp4,bY hpP,h10,h25,h29,h39, *]⟩;obtain⟨a5,r5,v5,rfl,rfl,hp5,ht5⟩:=hR;have hf5:=ht5 _ hf4;refine FA 182 bi fR ?_;refine SP 1 fR aK aJ Ov ?_;refine ax (ah (af J3 (sr λ_ J18=>LW 1 bi ci aJ ?_)));refine SW 2 ci aJ ?_;refine PS ?_;refine nx J18 (ak (RT 2 [0] bi ci (aJ _) ?_));exact⟨((MsgT.mk a1 0 RowT.zero 0 a2 a3 a4 a5 ViewT.zero),true),_,_,rfl,rfl,by simp[cH,eA,fe,pr,aF hp1,aF hp2,aF hp3,aF hp4,aF hp5,h10,h25,h29,h39,MsgT.zero,RecT.zero, *],(ht1.trans (ht2.trans (ht3.trans (ht4.trans ht5))))⟩;refine PS ?_;refine nx J14 (CN (sr λ_ J19=>PS ?_));refine aq ?_ ?_<;>intro h53;refine PS ?_;refine nx J19 (CY (sr λ_ J20=>PS ?_));refine CP qi (jy rb v1 r1) (SM [1]) (λ_ d _=>(hf1).more d) (λcP HP hP=>?_) (λvR HR hR=>?_);obtain⟨vP,rfl,rfl,hpP⟩:=hP;refine ay (aO (ay (WK [0] (aS ?_))));exact⟨_,rfl,rfl,by simp[cH,eA,fe,aF hp1,bY hpP,h10,h25,h29,h39,h53, *]⟩;obtain⟨a2,r2,v2,rfl,rfl,hp2,ht2⟩:=hR;have hf2:=ht2 _ hf1;refine FA 177 bi aQ ?_;refine SS 1 aQ (aJ _) (Ox _ rfl _) ?_;refine nx J20 (sr λ_ J21=>PS ?_);refine CP zj (jO rb v2 r2) ID (λ_ d _=>(hf2).more d) (λcP HP hP=>?_) (λvR HR hR=>?_);obtain⟨vP,rfl,rfl,hpP⟩:=hP;refine ay (aO (ay (WK [0] (aS ?_))));exact⟨_,rfl,rfl,by simp[cH,eA,fe,aF hp1,aF hp2,bY hpP,h10,h25,h29,h39,h53, *]⟩
 obtain⟨a3,r3,v3,rfl,rfl,hp3,ht3⟩:=hR;have hf3:=ht3 _ hf2;refine FA 178 bi cA ?_;refine SP 1 cA ap aJ Ow ?_;refine nx J21 (ag (PS ?_));refine CP IZ (oZ rb v3 r3) ID (λ_ d _=>(hf3).more d) (λcP HP hP=>?_) (λvR HR hR=>?_);obtain⟨vP,rfl,rfl,hpP⟩:=hP;refine aO (ay (WK [0] (aS ?_)));exact⟨_,rfl,rfl,by simp[cH,eA,fe,aF hp1,aF hp2,aF hp3,bY hpP,h10,h25,h29,h39,h53, *]⟩;obtain⟨a4,r4,v4,rfl,rfl,hp4,ht4⟩:=hR;have hf4:=ht4 _ hf3;refine FA 182 bi fR ?_;refine SP 1 fR aK aJ Ov ?_;refine ax (ah (af J3 (sr λ_ J22=>LW 1 bi ci aJ ?_)));refine SW 2 ci aJ ?_;refine PS ?_;refine nx J22 (ak (RT 2 [0] bi ci (aJ _) ?_));exact⟨((MsgT.mk a1 0 RowT.zero 0 a2 a3 BallotT.zero a4 ViewT.zero),true),_,_,rfl,rfl,by simp[cH,eA,fe,pr,aF hp1,aF hp2,aF hp3,aF hp4,h10,h25,h29,h39,h53,MsgT.zero,RecT.zero, *],(ht1.trans (ht2.trans (ht3.trans ht4)))⟩;refine PS ?_;refine nx J19 (CN (sr λ_ J23=>PS ?_));refine aq ?_ ?_<;>intro h64;refine PS ?_;refine nx J23 (CY (sr λ_ J24=>PS ?_));refine CP IW (rE rb v1 r1) (SM [1]) (λ_ d _=>(hf1).more d) (λcP HP hP=>?_) (λvR HR hR=>?_);obtain⟨vP,rfl,rfl,hpP⟩:=hP;refine ay (aO (ay (WK [0] (aS ?_))));exact⟨_,rfl,rfl,by simp[cH,eA,fe,aF hp1,bY hpP,h10,h25,h29,h39,h53,h64, *]⟩;obtain⟨a2,r2,v2,rfl,rfl,hp2,ht2⟩:=hR;have hf2:=ht2 _ hf1;refine FA 185 bi be ?_;refine SP 1 be ai aJ MsgT.wp_view ?_;refine nx J24 (aa λ_ J25=>D1 1 bo ?_)
 refine LY 0 bi ci aJ ?_;refine FD 1 185 bi be ?_;refine ta 2 rfl (aL (vs:=ints a2.flat) rfl eL rfl be rfl (λ_ h=>h.2.1) (ai a2) (vB (MsgT.mk a1 0 RowT.zero 0 0 BallotT.zero BallotT.zero ChangeT.zero a2) 0 rfl (by decide) (bn (ai a2)))) ?_;refine AL 3 ?_;refine CE Hh (iD a2 (sB hp2)) ID ?_;refine EN (AL 4 ?_);refine SW 2 ci aJ ?_;refine EN (PD 5 ?_);refine DN (af J25 (ak (aI (ae (RT 2 [0] bi ci (aJ _) ?_)))));exact⟨((MsgT.mk a1 0 RowT.zero 0 0 BallotT.zero BallotT.zero ChangeT.zero a2),(jv a2)),_,_,rfl,rfl,by simp[cH,eA,fe,pr,aF hp1,aF hp2,h10,h25,h29,h39,h53,h64,MsgT.zero,RecT.zero, *],(ht1.trans ht2)⟩;refine PS ?_;refine nx J23 (CN (sr λ_ J26=>PS ?_));refine aq ?_ ?_<;>intro h73;refine PS ?_;refine nx J26 (CY (sr λ_ J27=>PS ?_));refine CP jz (cS rb v1 r1 (5)) (SM [1]) (λ_ d _=>(hf1).more d) (λcP HP hP=>?_) (λvR HR hR=>?_);obtain⟨vP,rfl,rfl,hpP⟩:=hP;refine ay (aO (ay (WK [0] (aS ?_))));exact⟨_,rfl,rfl,by simp[cH,eA,fe,aF hp1,bY hpP,h10,h25,h29,h39,h53,h64,h73, *]⟩;obtain⟨a2,r2,v2,rfl,rfl,hp2,ht2⟩:=hR;have hf2:=ht2 _ hf1;refine FA 1 bi aQ ?_;refine SS 1 aQ (aJ _) (MsgT.set_whose _ rfl _) ?_;refine nx J27 (sr λ_ J28=>PS ?_);refine CP IW (rE rb v2 r2) ID (λ_ d _=>(hf2).more d) (λcP HP hP=>?_) (λvR HR hR=>?_);obtain⟨vP,rfl,rfl,hpP⟩:=hP;refine ay (aO (ay (WK [0] (aS ?_))))
 exact⟨_,rfl,rfl,by simp[cH,eA,fe,aF hp1,aF hp2,bY hpP,h10,h25,h29,h39,h53,h64,h73, *]⟩;obtain⟨a3,r3,v3,rfl,rfl,hp3,ht3⟩:=hR;have hf3:=ht3 _ hf2;refine FA 185 bi be ?_;refine SP 1 be ai aJ MsgT.wp_view ?_;refine nx J28 (aa λ_ J29=>D1 1 bo ?_);refine LY 0 bi ci aJ ?_;refine FD 1 185 bi be ?_;refine ta 2 rfl (aL (vs:=ints a3.flat) rfl eL rfl be rfl (λ_ h=>h.2.1) (ai a3) (vB (MsgT.mk a1 a2 RowT.zero 0 0 BallotT.zero BallotT.zero ChangeT.zero a3) 0 rfl (by decide) (bn (ai a3)))) ?_;refine AL 3 ?_;refine CE Hh (iD a3 (sB hp3)) ID ?_;refine EN (AL 4 ?_);refine SW 2 ci aJ ?_;refine EN (PD 5 ?_);refine DN (af J29 (ak (aI (ae (RT 2 [0] bi ci (aJ _) ?_)))));exact⟨((MsgT.mk a1 a2 RowT.zero 0 0 BallotT.zero BallotT.zero ChangeT.zero a3),(jv a3)),_,_,rfl,rfl,by simp[cH,eA,fe,pr,aF hp1,aF hp2,aF hp3,h10,h25,h29,h39,h53,h64,h73,MsgT.zero,RecT.zero, *],(ht1.trans (ht2.trans ht3))⟩;refine PS ?_;refine nx J26 (CN (aT (ah (af J3 (sr λ_ J30=>LW 0 bi ci aJ ?_)))));refine SW 2 ci aJ ?_;refine PS ?_;refine nx J30 (ak (RT 2 [1] bi ci (aJ _) ?_));exact⟨((MsgT.mk a1 0 RowT.zero 0 0 BallotT.zero BallotT.zero ChangeT.zero ViewT.zero),true),_,_,rfl,rfl,by simp[cH,pr,aF hp1,h10,h25,h29,h39,h53,h64,h73,MsgT.zero,RecT.zero, *],ht1⟩;refine sr λ_ J31=>P2 ?_
 refine aq ?_ ?_<;>intro h29;refine nx J31 (CY (aT ?_))
 exact aG
  (aW (aW (aW (aW (aW (bJ rfl (by simp[fe, *]) SB))))))
  (λ_ s=>s)
  (tl11 (():Unit) trivial)
 refine nx J31 (CN (ag (PS ?_)));refine aq ?_ ?_<;>intro h31;refine PS ?_;refine ax ?_
 exact aG
  (aW (aW (aW (aW (aW (bJ rfl (by simp[fe, *]) SB))))))
  (λ_ s=>s)
  (tl11 (():Unit) trivial)
 refine PS ?_;refine ax ?_
 exact aG
  (aW (aW (aW (aW (aW (bJ rfl (by simp[fe, *]) SB))))))
  (λ_ s=>s)
  (tl11 (():Unit) trivial)
 refine sr λ_ J32=>P2 ?_
 refine aq ?_ ?_<;>intro h10;refine nx J32 (CY (aT ?_))
 exact aG
  (aW (aW (aW (aW (aW (bJ rfl (by simp[eA, *]) SB))))))
  (λ_ s=>s)
  (tl5 (():Unit) trivial)
 refine nx J32 (CN (sr λ_ J33=>P2 ?_));refine aq ?_ ?_<;>intro h10;refine nx J33 (CY (aT ?_))
 exact aG
  (aW (aW (aW (aW (aW (bJ rfl (by simp[eA, *]) SB))))))
  (λ_ s=>s)
  (tl5 (():Unit) trivial)
 refine nx J33 (CN (ag (PS ?_)));refine aq ?_ ?_<;>intro h13;refine PS ?_;refine ax ?_
 exact aG
  (aW (aW (aW (aW (aW (bJ rfl (by simp[eA, *]) SB))))))
  (λ_ s=>s)
  (tl5 (():Unit) trivial)
 refine PS ?_;refine ax ?_
 exact aG
  (aW (aW (aW (aW (aW (bJ rfl (by simp[eA, *]) SB))))))
  (λ_ s=>s)
  (tl5 (():Unit) trivial)
theorem Aw(rb:Nat)(v:Value)(bs:List UInt8):
 DT 85 #[(.pointer (some ⟨rb,0,none⟩))] (IsB v bs) [an rb [v] 197] (n8 197 iQ (λmb:RecT×Bool=> .tuple #[.agg (ints mb.1.flat).toArray, .bool mb.2]) dz v bs rb):=by
 refine BD 65 Tryz.func85 rfl rfl rfl λw0 F hF=>sr λ_ J1=>XZ H4 (ints RecT.zero.flat) λb2=>?_
 refine PS ?_;refine nx J1 (sr λ_ J2=>PS ?_);refine CP jz (cS rb v bs (6)) (SM [1]) (λ_ d _=>(hF).more d) (λcP HP hP=>?_) (λvR HR hR=>?_);obtain⟨vP,rfl,rfl,hpP⟩:=hP;refine ay (WK [0] (aS ?_));exact⟨_,rfl,rfl,by simp[dz,eA,fe,bY hpP, *]⟩;obtain⟨a1,r1,v1,rfl,rfl,hp1,ht1⟩:=hR;have hf1:=ht1 _ hF;refine tp (lu RecT.zero (RecT.mk a1 0 RowT.zero 0 BallotT.zero ChangeT.zero ViewT.zero) [(0,[Value.int .i64 a1])] eC fq (g:=RecT.sg)) ?_;refine XZ H4 (ints RecT.zero.flat) λb4=>?_
 refine SW 0 fV bt ?_;refine nx J2 (aa λ_ J3=>sr λ_ J4=>FA 0 eC aQ ?_);refine LT 0 Y3 (.int .i64 (a1)) ?_ (hc:=by exact kQ _ rfl);refine nx J4 (av (sr λ_ J5=>PS ?_));refine aq ?_ ?_<;>intro h11;refine PS ?_;refine nx J5 (CY (sr λ_ J6=>PS ?_));refine CP I0 (tZ rb v1 r1) (SM [1]) (λ_ d _=>(hf1).more d) (λcP HP hP=>?_) (λvR HR hR=>?_);obtain⟨vP,rfl,rfl,hpP⟩:=hP;refine ay (aO (ay (WK [0] (aS ?_))));exact⟨_,rfl,rfl,by simp[dz,eA,fe,aF hp1,bY hpP,h11, *]⟩;obtain⟨a2,r2,v2,rfl,rfl,hp2,ht2⟩:=hR;have hf2:=ht2 _ hf1;refine FA 2 eC bj ?_;refine SP 1 bj am bt RecT.wp_row ?_;refine nx J6 (aa λ_ J7=>D1 1 bo ?_);refine LY 0 eC fV bt ?_;refine FD 1 2 eC bj ?_;refine ta 2 rfl (aL (vs:=ints a2.flat) rfl ez rfl bj rfl (λ_ h=>h.2.1) (am a2) (se (RecT.mk a1 0 a2 0 BallotT.zero ChangeT.zero ViewT.zero) 0 rfl (by decide) (bn (am a2)))) ?_;refine AL 3 ?_;refine CE Cx (kd a2 (As hp2)) ID ?_;refine EN (AL 4 ?_);refine SW 2 fV bt ?_;refine EN (PD 5 ?_);refine DN (af J7 (ak (aI (ae (RT 2 [0] eC fV (bt _) ?_)))));exact⟨((RecT.mk a1 0 a2 0 BallotT.zero ChangeT.zero ViewT.zero),(io a2)),_,_,rfl,rfl,by simp[dz,eA,fe,pr,aF hp1,aF hp2,h11,MsgT.zero,RecT.zero, *],(ht1.trans ht2)⟩;refine PS ?_;refine nx J5 (CN (sr λ_ J8=>PS ?_));refine aq ?_ ?_<;>intro h20;refine PS ?_;refine nx J8 (CY (sr λ_ J9=>PS ?_))
 refine CP jz (cS rb v1 r1 (5)) (SM [1]) (λ_ d _=>(hf1).more d) (λcP HP hP=>?_) (λvR HR hR=>?_);obtain⟨vP,rfl,rfl,hpP⟩:=hP;refine ay (aO (ay (WK [0] (aS ?_))));exact⟨_,rfl,rfl,by simp[dz,eA,fe,aF hp1,bY hpP,h11,h20, *]⟩;obtain⟨a2,r2,v2,rfl,rfl,hp2,ht2⟩:=hR;have hf2:=ht2 _ hf1;refine FA 1 eC aQ ?_;refine SS 1 aQ (bt _) (RecT.set_whose _ rfl _) ?_;refine nx J9 (sr λ_ J10=>PS ?_);refine CP I0 (tZ rb v2 r2) ID (λ_ d _=>(hf2).more d) (λcP HP hP=>?_) (λvR HR hR=>?_);obtain⟨vP,rfl,rfl,hpP⟩:=hP;refine ay (aO (ay (WK [0] (aS ?_))));exact⟨_,rfl,rfl,by simp[dz,eA,fe,aF hp1,aF hp2,bY hpP,h11,h20, *]⟩;obtain⟨a3,r3,v3,rfl,rfl,hp3,ht3⟩:=hR;have hf3:=ht3 _ hf2;refine FA 2 eC bj ?_;refine SP 1 bj am bt RecT.wp_row ?_;refine nx J10 (aa λ_ J11=>D1 1 bo ?_);refine LY 0 eC fV bt ?_;refine FD 1 2 eC bj ?_;refine ta 2 rfl (aL (vs:=ints a3.flat) rfl ez rfl bj rfl (λ_ h=>h.2.1) (am a3) (se (RecT.mk a1 a2 a3 0 BallotT.zero ChangeT.zero ViewT.zero) 0 rfl (by decide) (bn (am a3)))) ?_;refine AL 3 ?_;refine CE Cx (kd a3 (As hp3)) ID ?_;refine EN (AL 4 ?_);refine SW 2 fV bt ?_;refine EN (PD 5 ?_);refine DN (af J11 (ak (aI (ae (RT 2 [0] eC fV (bt _) ?_)))));exact⟨((RecT.mk a1 a2 a3 0 BallotT.zero ChangeT.zero ViewT.zero),(io a3)),_,_,rfl,rfl,by simp[dz,eA,fe,pr,aF hp1,aF hp2,aF hp3,h11,h20,MsgT.zero,RecT.zero, *],(ht1.trans (ht2.trans ht3))⟩;refine PS ?_
 refine nx J8 (CN (sr λ_ J12=>PS ?_));refine aq ?_ ?_<;>intro h32;refine PS ?_;refine nx J12 (CY (ag (PS ?_)));refine CP jz (cS rb v1 r1 (5)) (SM [1]) (λ_ d _=>(hf1).more d) (λcP HP hP=>?_) (λvR HR hR=>?_);obtain⟨vP,rfl,rfl,hpP⟩:=hP;refine aO (ay (WK [0] (aS ?_)));exact⟨_,rfl,rfl,by simp[dz,eA,fe,aF hp1,bY hpP,h11,h20,h32, *]⟩;obtain⟨a2,r2,v2,rfl,rfl,hp2,ht2⟩:=hR;have hf2:=ht2 _ hf1;refine FA 1 eC aQ ?_;refine SS 1 aQ (bt _) (RecT.set_whose _ rfl _) ?_;refine ax (ah (af J3 (sr λ_ J13=>LW 1 eC fV bt ?_)));refine SW 2 fV bt ?_;refine PS ?_;refine nx J13 (ak (RT 2 [0] eC fV (bt _) ?_));exact⟨((RecT.mk a1 a2 RowT.zero 0 BallotT.zero ChangeT.zero ViewT.zero),true),_,_,rfl,rfl,by simp[dz,eA,fe,pr,aF hp1,aF hp2,h11,h20,h32,MsgT.zero,RecT.zero, *],(ht1.trans ht2)⟩;refine PS ?_;refine nx J12 (CN (sr λ_ J14=>PS ?_));refine aq ?_ ?_<;>intro h37;refine PS ?_;refine nx J14 (CY (sr λ_ J15=>PS ?_));refine CP qi (jy rb v1 r1) (SM [1]) (λ_ d _=>(hf1).more d) (λcP HP hP=>?_) (λvR HR hR=>?_);obtain⟨vP,rfl,rfl,hpP⟩:=hP;refine ay (aO (ay (WK [0] (aS ?_))));exact⟨_,rfl,rfl,by simp[dz,eA,fe,aF hp1,bY hpP,h11,h20,h32,h37, *]⟩;obtain⟨a2,r2,v2,rfl,rfl,hp2,ht2⟩:=hR;have hf2:=ht2 _ hf1;refine FA 176 eC aQ ?_;refine SS 1 aQ (bt _) (RecT.set_epoch _ rfl _) ?_;refine nx J15 (ag (PS ?_))
 refine CP zj (jO rb v2 r2) ID (λ_ d _=>(hf2).more d) (λcP HP hP=>?_) (λvR HR hR=>?_);obtain⟨vP,rfl,rfl,hpP⟩:=hP;refine aO (ay (WK [0] (aS ?_)));exact⟨_,rfl,rfl,by simp[dz,eA,fe,aF hp1,aF hp2,bY hpP,h11,h20,h32,h37, *]⟩;obtain⟨a3,r3,v3,rfl,rfl,hp3,ht3⟩:=hR;have hf3:=ht3 _ hf2;refine FA 177 eC cA ?_;refine SP 1 cA ap bt RecT.wp_ballot ?_;refine ax (ah (af J3 (sr λ_ J16=>LW 1 eC fV bt ?_)));refine SW 2 fV bt ?_;refine PS ?_;refine nx J16 (ak (RT 2 [0] eC fV (bt _) ?_));exact⟨((RecT.mk a1 0 RowT.zero a2 a3 ChangeT.zero ViewT.zero),true),_,_,rfl,rfl,by simp[dz,eA,fe,pr,aF hp1,aF hp2,aF hp3,h11,h20,h32,h37,MsgT.zero,RecT.zero, *],(ht1.trans (ht2.trans ht3))⟩;refine PS ?_;refine nx J14 (CN (sr λ_ J17=>PS ?_));refine aq ?_ ?_<;>intro h45;refine PS ?_;refine nx J17 (CY (sr λ_ J18=>PS ?_));refine CP qi (jy rb v1 r1) (SM [1]) (λ_ d _=>(hf1).more d) (λcP HP hP=>?_) (λvR HR hR=>?_);obtain⟨vP,rfl,rfl,hpP⟩:=hP;refine ay (aO (ay (WK [0] (aS ?_))));exact⟨_,rfl,rfl,by simp[dz,eA,fe,aF hp1,bY hpP,h11,h20,h32,h37,h45, *]⟩;obtain⟨a2,r2,v2,rfl,rfl,hp2,ht2⟩:=hR;have hf2:=ht2 _ hf1;refine FA 176 eC aQ ?_;refine SS 1 aQ (bt _) (RecT.set_epoch _ rfl _) ?_;refine nx J18 (sr λ_ J19=>PS ?_);refine CP zj (jO rb v2 r2) ID (λ_ d _=>(hf2).more d) (λcP HP hP=>?_) (λvR HR hR=>?_);obtain⟨vP,rfl,rfl,hpP⟩:=hP;refine ay (aO (ay (WK [0] (aS ?_))))
 exact⟨_,rfl,rfl,by simp[dz,eA,fe,aF hp1,aF hp2,bY hpP,h11,h20,h32,h37,h45, *]⟩;obtain⟨a3,r3,v3,rfl,rfl,hp3,ht3⟩:=hR;have hf3:=ht3 _ hf2;refine FA 177 eC cA ?_;refine SP 1 cA ap bt RecT.wp_ballot ?_;refine nx J19 (ag (PS ?_));refine CP IZ (oZ rb v3 r3) ID (λ_ d _=>(hf3).more d) (λcP HP hP=>?_) (λvR HR hR=>?_);obtain⟨vP,rfl,rfl,hpP⟩:=hP;refine aO (ay (WK [0] (aS ?_)));exact⟨_,rfl,rfl,by simp[dz,eA,fe,aF hp1,aF hp2,aF hp3,bY hpP,h11,h20,h32,h37,h45, *]⟩;obtain⟨a4,r4,v4,rfl,rfl,hp4,ht4⟩:=hR;have hf4:=ht4 _ hf3;refine FA 179 eC fR ?_;refine SP 1 fR aK bt RecT.wp_change ?_;refine ax (ah (af J3 (sr λ_ J20=>LW 1 eC fV bt ?_)));refine SW 2 fV bt ?_;refine PS ?_;refine nx J20 (ak (RT 2 [0] eC fV (bt _) ?_));exact⟨((RecT.mk a1 0 RowT.zero a2 a3 a4 ViewT.zero),true),_,_,rfl,rfl,by simp[dz,eA,fe,pr,aF hp1,aF hp2,aF hp3,aF hp4,h11,h20,h32,h37,h45,MsgT.zero,RecT.zero, *],(ht1.trans (ht2.trans (ht3.trans ht4)))⟩;refine PS ?_;refine nx J17 (CN (sr λ_ J21=>PS ?_));refine aq ?_ ?_<;>intro h56;refine PS ?_;refine nx J21 (CY (sr λ_ J22=>PS ?_));refine CP IW (rE rb v1 r1) (SM [1]) (λ_ d _=>(hf1).more d) (λcP HP hP=>?_) (λvR HR hR=>?_);obtain⟨vP,rfl,rfl,hpP⟩:=hP;refine ay (aO (ay (WK [0] (aS ?_))));exact⟨_,rfl,rfl,by simp[dz,eA,fe,aF hp1,bY hpP,h11,h20,h32,h37,h45,h56, *]⟩;obtain⟨a2,r2,v2,rfl,rfl,hp2,ht2⟩:=hR;have hf2:=ht2 _ hf1
 refine FA 182 eC be ?_;refine SP 1 be ai bt RecT.wp_view ?_;refine nx J22 (aa λ_ J23=>D1 1 bo ?_);refine LY 0 eC fV bt ?_;refine FD 1 182 eC be ?_;refine ta 2 rfl (aL (vs:=ints a2.flat) rfl eL rfl be rfl (λ_ h=>h.2.1) (ai a2) (P6 (RecT.mk a1 0 RowT.zero 0 BallotT.zero ChangeT.zero a2) 0 rfl (by decide) (bn (ai a2)))) ?_;refine AL 3 ?_;refine CE Hh (iD a2 (sB hp2)) ID ?_;refine EN (AL 4 ?_);refine SW 2 fV bt ?_;refine EN (PD 5 ?_);refine DN (af J23 (ak (aI (ae (RT 2 [0] eC fV (bt _) ?_)))));exact⟨((RecT.mk a1 0 RowT.zero 0 BallotT.zero ChangeT.zero a2),(jv a2)),_,_,rfl,rfl,by simp[dz,eA,fe,pr,aF hp1,aF hp2,h11,h20,h32,h37,h45,h56,MsgT.zero,RecT.zero, *],(ht1.trans ht2)⟩;refine PS ?_;refine nx J21 (CN (aT (ah (af J3 (sr λ_ J24=>LW 0 eC fV bt ?_)))));refine SW 2 fV bt ?_;refine PS ?_;refine nx J24 (ak (RT 2 [1] eC fV (bt _) ?_));exact⟨((RecT.mk a1 0 RowT.zero 0 BallotT.zero ChangeT.zero ViewT.zero),true),_,_,rfl,rfl,by simp[dz,eA,fe,pr,aF hp1,h11,h20,h32,h37,h45,h56,MsgT.zero,RecT.zero, *],ht1⟩
theorem EM(rb mb gb:Nat)(v:Value)(bs:List UInt8)(m0:MsgT)(g0:Bool):
 DT 96 #[(.pointer (some ⟨rb,0,none⟩)),(.pointer (some ⟨mb,0,none⟩)),(.pointer (some ⟨gb,0,none⟩))] (IsB v bs) [an rb [v] 197,an mb (ints m0.flat) 136,an gb [(.bool (g0))] 4] (vv (λ_ H=>∃x' r a,H=an rb [x'] 197::[an mb (ints a.1.flat) 136,an gb [.bool a.2] 4]∧Tail v bs x' r∧cH bs=some (a,r)) (λc H=>c=iQ∧∃(x':Value) (_:Unit),H=an rb [x'] 197::[an mb (ints m0.flat) 136,an gb [.bool g0] 4]∧cH bs=none)):=by
 refine BD 9 Tryz.func96 rfl rfl rfl λw0 F hF=>ag (PS ?_)
 refine CP Pf (Ax rb v bs) ID (λ_ d _=>(hF).more d) (λcP HP hP=>?_) (λvR HR hR=>?_);obtain⟨vP,rfl,rfl,hpP⟩:=hP;exact WK [0,0,0] (aS ⟨rfl,_,(),rfl,hpP⟩);obtain⟨a1,r1,v1,rfl,rfl,hp1,ht1⟩:=hR;refine P3 ?_;refine SW 1 ci aJ ?_;refine S0 2 lm ?_;exact ax (WK [0,0,0] (bE rfl ⟨_,_,_,rfl,ht1,hp1⟩))
theorem Dm(x:Value)(bs:List UInt8):
 DT 61 #[x] (IsB x bs) [] (RI (.tuple #[.agg (ints (eB bs).1.flat).toArray, .int .i64 (eB bs).2]) []):=by
 refine Leg.Does.body (vs:=[x]) (n:=18) Tryz.func61 rfl rfl rfl (λw0 F hF=>?_);refine sr λ_ J1=>?_
 refine qC (ab rfl) rfl rfl rfl mB (λb2=>?_);change TL _ _ _ _ _ _ _ _ _ [an b2 (ints MsgT.zero.flat) 136];refine pN ?_;refine nx J1 ?_;clear J1;refine sr λ_ J2=>?_
 refine qC (ab rfl) rfl rfl rfl mB (λb4=>?_);change TL _ _ _ _ _ _ _ _ _ [an b4 (ints MsgT.zero.flat) 136,an b2 (ints MsgT.zero.flat) 136];refine nx J2 ?_;clear J2;refine sr λ_ J3=>?_
 refine qC (ab rfl) rfl rfl rfl z4 (λb5=>?_);refine cd (i:=0) (ab rfl) rfl rfl rfl rfl rfl lm rfl rfl (lb rfl) rfl rfl ?_;refine nx J3 ?_;clear J3;refine sr λ_ J4=>?_
 refine mv ?_;refine tp (Qe rfl rfl) ?_;refine li (ab rfl) rfl rfl rfl Np rfl (y7 (bs:=bs) (C:=[an b4 (ints MsgT.zero.flat) 136,an b5 [(.bool false)] 4]) (caps:=[(.pointer (some ⟨b4,0,none⟩)),(.pointer (some ⟨b5,0,none⟩))]) (A:=λa:MsgT×Bool=>[an b4 (ints a.1.flat) 136,an b5 [.bool a.2] 4]) (G:=λ_:Unit=>[an b4 (ints MsgT.zero.flat) 136,an b5 [(.bool false)] 4]) (φ:=λa r=>cH bs=some (a,r)) (ψ:=λ_=>cH bs=none) (λ_ h=>h) (λ_ _ h d=>h.more d) Pg (λrb=>EM rb b4 b5 x bs MsgT.zero false)) (λ_ s=>aE [1,0] rfl s) (λ_ d _=>(hF).more d) (λvR HR hR=>?_);rcases hR with⟨r,⟨m,g⟩,rfl,rfl,hs⟩| ⟨_,rfl,rfl,hs⟩
 refine aq (λh9=>?_) (λh9=>?_);refine pN ?_;refine nx J4 ?_;clear J4;refine aa λ_ J5=>?_
 refine sr λ_ J6=>?_
 refine mv ?_;refine tp (jm (r:=false) rfl rfl rfl) ?_;refine mv ?_;refine tq (fY (v:=(.bool (g))) rfl Y4 rfl rfl (fu 1 rfl rfl) rfl) ?_;refine bh (λh13=>?_) (λh13=>?_);refine tq (jm (r:=false) rfl rfl rfl) ?_;refine tp (yA rfl rfl rfl) ?_;refine nx J6 ?_;clear J6;refine Gk rfl ?_;refine aT ?_;refine af J5 ?_;clear J5;refine sr λ_ J7=>?_
 refine tp (aL (vs:=ints m.flat) rfl bi rfl ci rfl (fu 0 rfl rfl) (aJ m) (bn (aJ m))) ?_;refine bR (vs:=ints m.flat) (i:=2) (ab rfl) rfl rfl rfl rfl rfl (by rw[(aJ m)];exact ci) (bB _) rfl rfl (by have h0:=(aJ MsgT.zero);have h1:=(aJ m);omega) (cr ((aJ MsgT.zero).trans (aJ m).symm)) rfl ?_;refine pN ?_;refine nx J7 ?_;clear J7;refine ak ?_;refine l5 (H':=[]) rfl rfl rfl bi rfl ci (fu 2 rfl rfl) (aJ m) (λ_ s=>ao [] rfl s) ?_;exact⟨by simp[eB, *],rfl⟩;refine tq (jm (r:=true) rfl rfl rfl) ?_;refine tp (yA rfl rfl rfl) ?_;refine nx J6 ?_;clear J6;refine nE rfl ?_;refine sr λ_ J8=>?_
 refine tp (kn (cells:=(ints MsgT.zero.flat).toArray) rfl rfl (by as_aux_lemma=>kernel_rfl)) ?_;refine bR (vs:=ints MsgT.zero.flat) (i:=2) (ab rfl) rfl rfl rfl rfl rfl (by rw[(aJ MsgT.zero)];exact ci) (bB _) rfl rfl (by have h0:=(aJ MsgT.zero);have h1:=(aJ MsgT.zero);omega) (cr ((aJ MsgT.zero).trans (aJ MsgT.zero).symm)) rfl ?_;refine pN ?_;refine nx J8 ?_;clear J8;refine ak ?_;refine ae ?_;clear J5;refine l5 (H':=[]) rfl rfl rfl bi rfl ci (fu 2 rfl rfl) (aJ MsgT.zero) (λ_ s=>ao [] rfl s) ?_;exact⟨by simp[eB, *],rfl⟩;refine pN ?_;refine nx J4 ?_;clear J4;refine aa λ_ J9=>?_
 refine sr λ_ J10=>?_
 refine mv ?_;refine tp (jm (r:=true) rfl rfl rfl) ?_;refine mv ?_;refine qB (b:=true) rfl rfl rfl rfl (lb rfl) ?_;refine qB (b:=true) rfl rfl rfl rfl (lb rfl) ?_;refine tp (yA rfl rfl rfl) ?_;refine nx J10 ?_;clear J10;refine nE rfl ?_;refine sr λ_ J11=>?_
 refine tp (kn (cells:=(ints MsgT.zero.flat).toArray) rfl rfl (by as_aux_lemma=>kernel_rfl)) ?_;refine bR (vs:=ints MsgT.zero.flat) (i:=2) (ab rfl) rfl rfl rfl rfl rfl (by rw[(aJ MsgT.zero)];exact ci) (bB _) rfl rfl (by have h0:=(aJ MsgT.zero);have h1:=(aJ MsgT.zero);omega) (cr ((aJ MsgT.zero).trans (aJ MsgT.zero).symm)) rfl ?_;refine pN ?_;refine nx J11 ?_;clear J11;refine ak ?_;refine ae ?_;clear J9;refine l5 (H':=[]) rfl rfl rfl bi rfl ci (fu 2 rfl rfl) (aJ MsgT.zero) (λ_ s=>ao [] rfl s) ?_;exact⟨by simp[eB, *],rfl⟩;refine pN ?_;refine nx J4 ?_;clear J4;refine aa λ_ J12=>?_
 refine sr λ_ J13=>?_
 refine mv ?_;refine tp (jm (r:=true) rfl rfl rfl) ?_;refine mv ?_;refine qB (b:=true) rfl rfl rfl rfl (lb rfl) ?_;refine qB (b:=true) rfl rfl rfl rfl (lb rfl) ?_;refine tp (yA rfl rfl rfl) ?_;refine nx J13 ?_;clear J13;refine nE rfl ?_;refine sr λ_ J14=>?_
 refine tp (kn (cells:=(ints MsgT.zero.flat).toArray) rfl rfl (by as_aux_lemma=>kernel_rfl)) ?_;refine bR (vs:=ints MsgT.zero.flat) (i:=2) (ab rfl) rfl rfl rfl rfl rfl (by rw[(aJ MsgT.zero)];exact ci) (bB _) rfl rfl (by have h0:=(aJ MsgT.zero);have h1:=(aJ MsgT.zero);omega) (cr ((aJ MsgT.zero).trans (aJ MsgT.zero).symm)) rfl ?_;refine pN ?_;refine nx J14 ?_;clear J14;refine ak ?_;refine ae ?_;clear J12;refine l5 (H':=[]) rfl rfl rfl bi rfl ci (fu 2 rfl rfl) (aJ MsgT.zero) (λ_ s=>ao [] rfl s) ?_;exact⟨by simp[eB, *],rfl⟩
theorem GS(rb mb gb:Nat)(v:Value)(bs:List UInt8)(m0:RecT)(g0:Bool):
 DT 84 #[(.pointer (some ⟨rb,0,none⟩)),(.pointer (some ⟨mb,0,none⟩)),(.pointer (some ⟨gb,0,none⟩))] (IsB v bs) [an rb [v] 197,an mb (ints m0.flat) 121,an gb [(.bool (g0))] 4] (vv (λ_ H=>∃x' r a,H=an rb [x'] 197::[an mb (ints a.1.flat) 121,an gb [.bool a.2] 4]∧Tail v bs x' r∧dz bs=some (a,r)) (λc H=>c=iQ∧∃(x':Value) (_:Unit),H=an rb [x'] 197::[an mb (ints m0.flat) 121,an gb [.bool g0] 4]∧dz bs=none)):=by
 refine BD 9 Tryz.func84 rfl rfl rfl λw0 F hF=>ag (PS ?_)
 refine CP Pm (Aw rb v bs) ID (λ_ d _=>(hF).more d) (λcP HP hP=>?_) (λvR HR hR=>?_);obtain⟨vP,rfl,rfl,hpP⟩:=hP;exact WK [0,0,0] (aS ⟨rfl,_,(),rfl,hpP⟩);obtain⟨a1,r1,v1,rfl,rfl,hp1,ht1⟩:=hR;refine P3 ?_;refine SW 1 fV bt ?_;refine S0 2 lm ?_;exact ax (WK [0,0,0] (bE rfl ⟨_,_,_,rfl,ht1,hp1⟩))
theorem vk(x:Value)(bs:List UInt8):
 DT 50 #[x] (IsB x bs) [] (RI (.tuple #[.agg (ints (dC bs).1.flat).toArray, .int .i64 (dC bs).2]) []):=by
 refine Leg.Does.body (vs:=[x]) (n:=18) Tryz.func50 rfl rfl rfl (λw0 F hF=>?_);refine sr λ_ J1=>?_
 refine qC (ab rfl) rfl rfl rfl H4 (λb2=>?_);change TL _ _ _ _ _ _ _ _ _ [an b2 (ints RecT.zero.flat) 121];refine pN ?_;refine nx J1 ?_;clear J1;refine sr λ_ J2=>?_
 refine qC (ab rfl) rfl rfl rfl H4 (λb4=>?_);change TL _ _ _ _ _ _ _ _ _ [an b4 (ints RecT.zero.flat) 121,an b2 (ints RecT.zero.flat) 121];refine nx J2 ?_;clear J2;refine sr λ_ J3=>?_
 refine qC (ab rfl) rfl rfl rfl z4 (λb5=>?_);refine cd (i:=0) (ab rfl) rfl rfl rfl rfl rfl lm rfl rfl (lb rfl) rfl rfl ?_;refine nx J3 ?_;clear J3;refine sr λ_ J4=>?_
 refine mv ?_;refine tp (Qe rfl rfl) ?_;refine li (ab rfl) rfl rfl rfl Np rfl (y7 (bs:=bs) (C:=[an b4 (ints RecT.zero.flat) 121,an b5 [(.bool false)] 4]) (caps:=[(.pointer (some ⟨b4,0,none⟩)),(.pointer (some ⟨b5,0,none⟩))]) (A:=λa:RecT×Bool=>[an b4 (ints a.1.flat) 121,an b5 [.bool a.2] 4]) (G:=λ_:Unit=>[an b4 (ints RecT.zero.flat) 121,an b5 [(.bool false)] 4]) (φ:=λa r=>dz bs=some (a,r)) (ψ:=λ_=>dz bs=none) (λ_ h=>h) (λ_ _ h d=>h.more d) Pn (λrb=>GS rb b4 b5 x bs RecT.zero false)) (λ_ s=>aE [1,0] rfl s) (λ_ d _=>(hF).more d) (λvR HR hR=>?_);rcases hR with⟨r,⟨m,g⟩,rfl,rfl,hs⟩| ⟨_,rfl,rfl,hs⟩
 refine aq (λh9=>?_) (λh9=>?_);refine pN ?_;refine nx J4 ?_;clear J4;refine aa λ_ J5=>?_
 refine sr λ_ J6=>?_
 refine mv ?_;refine tp (jm (r:=false) rfl rfl rfl) ?_;refine mv ?_;refine tq (fY (v:=(.bool (g))) rfl Y4 rfl rfl (fu 1 rfl rfl) rfl) ?_;refine bh (λh13=>?_) (λh13=>?_);refine tq (jm (r:=false) rfl rfl rfl) ?_;refine tp (yA rfl rfl rfl) ?_;refine nx J6 ?_;clear J6;refine Gk rfl ?_;refine aT ?_;refine af J5 ?_;clear J5;refine sr λ_ J7=>?_
 refine tp (aL (vs:=ints m.flat) rfl eC rfl fV rfl (fu 0 rfl rfl) (bt m) (bn (bt m))) ?_;refine bR (vs:=ints m.flat) (i:=2) (ab rfl) rfl rfl rfl rfl rfl (by rw[(bt m)];exact fV) (bB _) rfl rfl (by have h0:=(bt RecT.zero);have h1:=(bt m);omega) (cr ((bt RecT.zero).trans (bt m).symm)) rfl ?_;refine pN ?_;refine nx J7 ?_;clear J7;refine ak ?_;refine l5 (H':=[]) rfl rfl rfl eC rfl fV (fu 2 rfl rfl) (bt m) (λ_ s=>ao [] rfl s) ?_;exact⟨by simp[dC, *],rfl⟩;refine tq (jm (r:=true) rfl rfl rfl) ?_;refine tp (yA rfl rfl rfl) ?_;refine nx J6 ?_;clear J6;refine nE rfl ?_;refine sr λ_ J8=>?_
 refine tp (kn (cells:=(ints RecT.zero.flat).toArray) rfl rfl (by as_aux_lemma=>kernel_rfl)) ?_;refine bR (vs:=ints RecT.zero.flat) (i:=2) (ab rfl) rfl rfl rfl rfl rfl (by rw[(bt RecT.zero)];exact fV) (bB _) rfl rfl (by have h0:=(bt RecT.zero);have h1:=(bt RecT.zero);omega) (cr ((bt RecT.zero).trans (bt RecT.zero).symm)) rfl ?_;refine pN ?_;refine nx J8 ?_;clear J8;refine ak ?_;refine ae ?_;clear J5;refine l5 (H':=[]) rfl rfl rfl eC rfl fV (fu 2 rfl rfl) (bt RecT.zero) (λ_ s=>ao [] rfl s) ?_;exact⟨by simp[dC, *],rfl⟩;refine pN ?_;refine nx J4 ?_;clear J4;refine aa λ_ J9=>?_
 refine sr λ_ J10=>?_
 refine mv ?_;refine tp (jm (r:=true) rfl rfl rfl) ?_;refine mv ?_;refine qB (b:=true) rfl rfl rfl rfl (lb rfl) ?_;refine qB (b:=true) rfl rfl rfl rfl (lb rfl) ?_;refine tp (yA rfl rfl rfl) ?_;refine nx J10 ?_;clear J10;refine nE rfl ?_;refine sr λ_ J11=>?_
 refine tp (kn (cells:=(ints RecT.zero.flat).toArray) rfl rfl (by as_aux_lemma=>kernel_rfl)) ?_;refine bR (vs:=ints RecT.zero.flat) (i:=2) (ab rfl) rfl rfl rfl rfl rfl (by rw[(bt RecT.zero)];exact fV) (bB _) rfl rfl (by have h0:=(bt RecT.zero);have h1:=(bt RecT.zero);omega) (cr ((bt RecT.zero).trans (bt RecT.zero).symm)) rfl ?_;refine pN ?_;refine nx J11 ?_;clear J11;refine ak ?_;refine ae ?_;clear J9;refine l5 (H':=[]) rfl rfl rfl eC rfl fV (fu 2 rfl rfl) (bt RecT.zero) (λ_ s=>ao [] rfl s) ?_;exact⟨by simp[dC, *],rfl⟩;refine pN ?_;refine nx J4 ?_;clear J4;refine aa λ_ J12=>?_
 refine sr λ_ J13=>?_
 refine mv ?_;refine tp (jm (r:=true) rfl rfl rfl) ?_;refine mv ?_;refine qB (b:=true) rfl rfl rfl rfl (lb rfl) ?_;refine qB (b:=true) rfl rfl rfl rfl (lb rfl) ?_;refine tp (yA rfl rfl rfl) ?_;refine nx J13 ?_;clear J13;refine nE rfl ?_;refine sr λ_ J14=>?_
 refine tp (kn (cells:=(ints RecT.zero.flat).toArray) rfl rfl (by as_aux_lemma=>kernel_rfl)) ?_;refine bR (vs:=ints RecT.zero.flat) (i:=2) (ab rfl) rfl rfl rfl rfl rfl (by rw[(bt RecT.zero)];exact fV) (bB _) rfl rfl (by have h0:=(bt RecT.zero);have h1:=(bt RecT.zero);omega) (cr ((bt RecT.zero).trans (bt RecT.zero).symm)) rfl ?_;refine pN ?_;refine nx J14 ?_;clear J14;refine ak ?_;refine ae ?_;clear J12;refine l5 (H':=[]) rfl rfl rfl eC rfl fV (fu 2 rfl rfl) (bt RecT.zero) (λ_ s=>ao [] rfl s) ?_;exact⟨by simp[dC, *],rfl⟩
end Go.Proofs.YtmcjhkbcmmddgaaGreat
end

section
namespace Leg
open Go Codec Api
def WX(P:Program)(ops:Array Oper)(Q:QQ)(is:List Nat)(a:Act)(w:World):Prop:=
 ∀(b:Frame) (k:List Item) (cs:List Frame),∃e a' w',Q e a' w'∧Arrives P (lone (b.at a (.inRegion ops is::k)) cs w) b k cs e a' w'
theorem WX.nil{P:Program}{ops:Array Oper}{Q:QQ}{a:Act}{w:World}(h:Q .normal a w):WX P ops Q [] a w:=
 λ_ _ _=>⟨.normal,a,w,h, .one step_region_end⟩
theorem WX.region{P:Program}{id:Nat}{ops:Array Oper}{Q:QQ}{a:Act}{w:World}(h:WX P ops Q (List.range ops.size) a w):(Code.region id ops false).wp P Q a w:=
 λb k cs=>let ⟨e,a',w',q,r⟩:=h b k cs;⟨e,a',w',q, .of_steps (.one step_region) r⟩
section
variable {P:Program} {ops:Array Oper} {Q:QQ} {is:List Nat} {a:Act} {w:World} {i:Nat} {o:Oper}
theorem Gg(b:Frame)(k:List Item)(ho:ops[i]?=some o)(a:Act)(v:Value):(b.at a (.inRegion ops (i::is)::k)).finish v=b.at (a.put o.dst v) (.inRegion ops is::k):=by rw[Frame.finish_at,ho];rfl
theorem WX.value{v:Value}{w1:World}(ho:ops[i]?=some o)(hw:Region.wanted o (yielded ops a.tmps)=true)(hr:(execOp a.eval o).run P w= .ok (.value v) w1)(h:WX P ops Q is (a.put o.dst v) w1):WX P ops Q (i::is) a w:=λb k cs=>by
 obtain⟨e,a',w',q,r⟩:=h b k cs;refine⟨e,a',w',q, .of_steps (.one (step_lone_go ?_)) r⟩;rw[stepG_op ho hw,←Gg b k ho];simp[stepG.apply,hr]
theorem WX.comm{v:Value}{w1 w2:World}{cases:Array CommCase}{blocking:Bool}{shape:CommShape}(ho:ops[i]?=some o)(hw:Region.wanted o (yielded ops a.tmps)=true)(hr:(execOp a.eval o).run P w= .ok (.comm cases blocking shape) w1)
 (hs: ∀fr cs es,stepG P true (Conc.G fr cs) w= .comm (Conc.G fr cs) cases blocking shape w1 es→step P (Conc.solo (Conc.G fr cs) w)= .next (Conc.solo (Conc.G (fr.finish v) cs) w2)) (h:WX P ops Q is (a.put o.dst v) w2):WX P ops Q (i::is) a w:=λb k cs=>by
 obtain⟨e,a',w',q,r⟩:=h b k cs;have h1:=stepG_op (P:=P) (b:=b) (k:=k) (cs:=cs) (w:=w) (rest:=is) ho hw
 have h2: ∃es,stepG P true (Conc.G (b.at a (.inRegion ops (i::is)::k)) cs) w= .comm (Conc.G (b.at a (.inRegion ops (i::is)::k)) cs) cases blocking shape w1 es:=by
  unfold Conc.G;rw[h1];simp only[stepG.apply,Sem.runT_eq,hr];exact⟨_,rfl⟩
 obtain⟨es,h2⟩:=h2;have h3:=hs _ _ _ h2;rw[Gg b k ho]at h3;exact⟨e,a',w',q, .of_steps (.one h3) r⟩
abbrev MZ:= @WX.comm
end
end Leg
namespace Leg
open Go Codec Api
section
variable (P:Program) (w0:World) (F:Hl) (n:Nat)
def TX(ops:Array Oper)(Q:QQ)(is:List Nat)(D:List Deferred)(L:List (Nat×Value))(H:List HP):Prop:=∀a w,Fr n D L a→Same w0 w→Sat H F w→WX P ops Q is a w
end
section
variable {P:Program} {w0:World} {F:Hl} {n:Nat} {ops:Array Oper} {Q:QQ} {is:List Nat} {D:List Deferred} {L:List (Nat×Value)} {H:List HP} {i d:Nat} {o:Oper}
theorem TC.regionX{id:Nat}{l:List Oper}(h:TX P w0 F n l.toArray Q (List.range l.length) D L H):TC P w0 F n (.region id l.toArray false) Q D L H:=
 λa w f s m=>WX.region (by simpa using h a w f s m)
abbrev yv:= @TC.regionX
theorem TX.nil(h:TE w0 F n Q .normal D L H):TX P w0 F n ops Q [] D L H:=λa w f s m=>WX.nil (h a w f s m)
abbrev Lg:= @TX.nil
theorem TX.v{v:Value}(ho:ops[i]?=some o)(hw:Want n D ops o L)(hd:o.dst=some d)(hn:Nat.blt d n=true)(h1:PV P n D L (Sat H F) o v)(h:TX P w0 F n ops Q is D ((d,v)::L) H):TX P w0 F n ops Q (i::is) D L H:=λa w f s m=>by
 refine WX.value ho (hw a f) (h1 a w f m) ?_;rw[hd];exact h _ _ (f.put (lb hn) _) s m
abbrev tD:= @TX.v
end
end Leg
namespace Leg
open Go Codec Api Go.Conc
section
variable {P:Program} {w0:World} {F:Hl} {n:Nat} {ops:Array Oper} {Q:QQ} {is:List Nat} {D:List Deferred} {L:List (Nat×Value)} {H:List HP} {i d:Nat} {o:Oper}
theorem Sat.chan{w:World}{c cap s r:Nat}{vs:List Value}(m:Sat H F w)(k:Nat)(hk:Nat.blt k H.length=true)(e:H.getD k (λ_=>True)=ey c cap vs s r):w.heap[c]?=some (.chan cap vs.toArray false s r false):=by
 obtain⟨h,d,e',x⟩:=m;obtain⟨h1,h2,d',rfl,a,_⟩:=e6 k (lb hk) x;rw[e]at a
 have:hp w c=some (.chan cap vs.toArray false s r false):=by
  rw[e',jB];exact iB (by rw[show h1=sg c _ from a];simp[sg])
 exact this
theorem Sat.setChan{w:World}{c cap s r s' r':Nat}{vs vs':List Value}(m:Sat H F w)(k:Nat)(hk:Nat.blt k H.length=true)(e:H.getD k (λ_=>True)=ey c cap vs s r):Sat (H.set k (ey c cap vs' s' r')) F (w.setChan c cap vs'.toArray false s' r' false):=by
 have hc:=m.chan k hk e
 have hlt:c<w.heap.size:=by
  by_cases q:c<w.heap.size
  · exact q
  · rw[Array.getElem?_eq_none (by omega)]at hc;cases hc
 exact m.write k (lb hk) e (heap_setChan w c cap vs'.toArray false s' r' false hlt) (λj hj=>by simp[World.setChan,Array.getElem?_setIfInBounds,Ne.symm hj])
theorem Same.setChan{w w':World}(s:Same w w')(c cap:Nat)(b:Array Value)(cl:Bool)(x y:Nat)(t:Bool):Same w (w'.setChan c cap b cl x y t):=s.trans ⟨rfl,rfl,rfl,by simp[World.setChan]⟩
theorem sM{x:Operand}{so:Option Operand}{e:TypeId}{z:Value}{blocking:Bool}(ho:o.op= .select #[⟨x,so,e⟩] blocking)(hz:(P.info? e).map (·.zero)=some (some z))(ev:Operand→Value)(w:World):
 (execOp ev o).run P w= .ok (.comm #[{chan:=ev x,send:=so.map ev,zero:=z}] blocking .select) w:=by
 simp[execOp,ho,Sem.run_bind,mT hz]
theorem TX.sendRoom{x y:Operand}{e c cap s r:Nat}{z v:Value}{vs:List Value}(k:Nat)(ho:ops[i]?=some o)(hw:Want n D ops o L)(hop:o.op= .select #[⟨x,some y,e⟩] false)(hd:o.dst=some d)(hn:Nat.blt d n=true)(hz:(P.info? e).map (·.zero)=some (some z))
 (hx:cI L x=some (.chan (some c))) (hy:cI L y=some v) (hk:Nat.blt k H.length=true) (hH:H.getD k (λ_=>True)=ey c cap vs s r) (hroom:vs.length<cap)
 (h:TX P w0 F n ops Q is D ((d, .tuple #[.int .i64 0, .bool false])::L) (H.set k (ey c cap (vs++[v]) (s+1) r))):TX P w0 F n ops Q (i::is) D L H:=λa w f sm m=>by
 have hc:=m.chan k hk hH;have hr:=sM (P:=P) hop hz a.eval w;rw[f.eval hx]at hr;simp only[Option.map_some,f.eval hy]at hr;refine MZ (v:= .tuple #[.int .i64 0, .bool false]) (w2:=w.setChan c cap (vs++[v]).toArray false (s+1) r false) ho (hw a f) hr (λfr cs es hs=>?_) ?_
 · have:=step_lone_sel_send_room (k:=0) hs rfl (λj c' hj hjc=>by cases j with|zero=>exact absurd rfl hj|succ j=>simp at hjc) hc (by simpa using hroom)
   rw[this];simp[commResult,goInt]
 · rw[hd]
   exact h _ _ (f.put (lb hn) _) (sm.setChan ..) (m.setChan k hk hH)
theorem TX.sendFull{x y:Operand}{e c cap s r:Nat}{z v:Value}{vs:List Value}(k:Nat)(ho:ops[i]?=some o)(hw:Want n D ops o L)(hop:o.op= .select #[⟨x,some y,e⟩] false)(hd:o.dst=some d)(hn:Nat.blt d n=true)(hz:(P.info? e).map (·.zero)=some (some z))
 (hx:cI L x=some (.chan (some c))) (hy:cI L y=some v) (hk:Nat.blt k H.length=true) (hH:H.getD k (λ_=>True)=ey c cap vs s r) (hfull:cap≤vs.length)
 (h:TX P w0 F n ops Q is D ((d, .tuple #[.int .i64 (-1), .bool false])::L) H):TX P w0 F n ops Q (i::is) D L H:=λa w f sm m=>by
 have hc:=m.chan k hk hH;have hr:=sM (P:=P) hop hz a.eval w;rw[f.eval hx]at hr;simp only[Option.map_some,f.eval hy]at hr;refine MZ (v:= .tuple #[.int .i64 (-1), .bool false]) (w2:=w) ho (hw a f) hr (λfr cs es hs=>?_) ?_
 · have:=step_lone_sel_default hs (λcc hcc=>by
    obtain rfl:cc=scase c v z:=by simpa [scase]using hcc
    exact noWay_send hc (by simpa using hfull))
   rw[this];simp[commResult,goInt]
 · rw[hd]
   exact h _ _ (f.put (lb hn) _) sm m
theorem TX.recvBuf{x:Operand}{e c cap s r:Nat}{z v:Value}{vs:List Value}(k:Nat)(ho:ops[i]?=some o)(hw:Want n D ops o L)(hop:o.op= .select #[⟨x,none,e⟩] false)(hd:o.dst=some d)(hn:Nat.blt d n=true)(hz:(P.info? e).map (·.zero)=some (some z))
 (hx:cI L x=some (.chan (some c))) (hk:Nat.blt k H.length=true) (hH:H.getD k (λ_=>True)=ey c cap (v::vs) s r)
 (h:TX P w0 F n ops Q is D ((d, .tuple #[.int .i64 0, .bool true,v])::L) (H.set k (ey c cap vs s (r+1)))):TX P w0 F n ops Q (i::is) D L H:=λa w f sm m=>by
 have hc:=m.chan k hk hH;have hr:=sM (P:=P) hop hz a.eval w;rw[f.eval hx]at hr;simp only[Option.map_none]at hr;refine MZ (v:= .tuple #[.int .i64 0, .bool true,v]) (w2:=w.setChan c cap vs.toArray false s (r+1) false) ho (hw a f) hr (λfr cs es hs=>?_) ?_
 · have:=step_lone_sel_recv_buf (k:=0) hs rfl (λj c' hj hjc=>by cases j with|zero=>exact absurd rfl hj|succ j=>simp at hjc) hc (by simp)
   rw[this];simp[commResult,goInt]
 · rw[hd]
   exact h _ _ (f.put (lb hn) _) (sm.setChan ..) (m.setChan k hk hH)
theorem TX.recvNone{x:Operand}{e c cap s r:Nat}{z:Value}(k:Nat)(ho:ops[i]?=some o)(hw:Want n D ops o L)(hop:o.op= .select #[⟨x,none,e⟩] false)(hd:o.dst=some d)(hn:Nat.blt d n=true)(hz:(P.info? e).map (·.zero)=some (some z))
 (hx:cI L x=some (.chan (some c))) (hk:Nat.blt k H.length=true) (hH:H.getD k (λ_=>True)=ey c cap [] s r)
 (h:TX P w0 F n ops Q is D ((d, .tuple #[.int .i64 (-1), .bool false,z])::L) H):TX P w0 F n ops Q (i::is) D L H:=λa w f sm m=>by
 have hc:=m.chan k hk hH;have hr:=sM (P:=P) hop hz a.eval w;rw[f.eval hx]at hr;simp only[Option.map_none]at hr;refine MZ (v:= .tuple #[.int .i64 (-1), .bool false,z]) (w2:=w) ho (hw a f) hr (λfr cs es hs=>?_) ?_
 · have:=step_lone_sel_default hs (λcc hcc=>by
    obtain rfl:cc=rcase c z:=by simpa [rcase]using hcc
    exact noWay_recv hc)
   rw[this];simp[commResult,goInt]
 · rw[hd]
   exact h _ _ (f.put (lb hn) _) sm m
end
end Leg
namespace Leg
open Go Codec Api Go.Conc
section
variable {P:Program} {w0:World} {F:Hl} {n:Nat} {ops:Array Oper} {Q:QQ} {D:List Deferred} {L:List (Nat×Value)} {H:List HP} {d:Nat} {o:Oper}
theorem PV.lenChan{t e:TypeId}{dir:ChanDir}{x:Operand}{c cap s r:Nat}{vs:List Value}(k:Nat)(ho:o.op= .call {callee:= .builtin .len,args:=#[x],argTypes:=#[t]})(ht:P.underlying t=some (.chan dir e))(hx:cI L x=some (.chan (some c)))
 (hk:Nat.blt k H.length=true) (hH:H.getD k (λ_=>True)=ey c cap vs s r):PV P n D L (Sat H F) o (.int .i64 ((vs.length:Nat):Int)):=λa w f m=>by
 have hl:=Conc.run_len_chan (P:=P) (w:=w) (dir:=dir) (e:=e) t o.type ht (m.chan k hk hH);simp[execOp,ho,resolve,f.eval hx,invoke,builtin,hl,goInt]
theorem PV.capChan{t e:TypeId}{dir:ChanDir}{x:Operand}{c cap s r:Nat}{vs:List Value}(k:Nat)(ho:o.op= .call {callee:= .builtin .cap,args:=#[x],argTypes:=#[t]})(ht:P.underlying t=some (.chan dir e))(hx:cI L x=some (.chan (some c)))
 (hk:Nat.blt k H.length=true) (hH:H.getD k (λ_=>True)=ey c cap vs s r):PV P n D L (Sat H F) o (.int .i64 ((cap:Nat):Int)):=λa w f m=>by
 have hl:=Conc.run_cap_chan (P:=P) (w:=w) (dir:=dir) (e:=e) t o.type ht (m.chan k hk hH);simp[execOp,ho,resolve,f.eval hx,invoke,builtin,hl,goInt]
end
abbrev iq(T U b:Nat)(ls:List (List UInt8)):HP:=pack (λq:Nat×List Value×Nat×Nat=>[an b [.chan (some q.1)] T,ey q.1 8 q.2.1 q.2.2.1 q.2.2.2,eR q.2.1 ls U])
def rf(T U:Nat)(bs:List Nat)(W:List (List (List UInt8)))(k:Nat):HP:=if k%6=0 then(λ_=>True)else iq T U (bs.getD k 0) (W.getD k [])
def pH(T U:Nat)(bs:List Nat)(W:List (List (List UInt8))):List HP:=(List.range 25).map (rf T U bs W)
def eY(T U:Nat)(bs:List Nat)(W:List (List (List UInt8))):HP:=bN (pH T U bs W)
def fM(T U:Nat)(bs:List Nat)(W:List (List (List UInt8)))(k:Nat):HP:=bN ((pH T U bs W).eraseIdx k)
def dF(bs:List Nat):List Value:=(List.range 25).map λk=>if k%6=0 then .pointer none else .pointer (some ⟨bs.getD k 0,0,none⟩)
theorem Cq(bs:List Nat){k:Nat}(h:k<25):(dF bs)[k]?=some (if k%6=0 then .pointer none else .pointer (some ⟨bs.getD k 0,0,none⟩)):=by unfold dF;simp[h]
theorem zf(bs:List Nat):(dF bs).length=25:=by simp[dF]
abbrev eP(NT T U n:Nat)(W:List (List (List UInt8))):HP:=pack (λbs:List Nat=>[an n (dF bs) NT,eY T U bs W])
section
variable {T U:Nat} {bs:List Nat} {W:List (List (List UInt8))} {k:Nat} {H:List HP} {h:Hl}
theorem Dx:(pH T U bs W).length=25:=by simp[pH]
theorem xC(hk:k<25)(s:bN (eY T U bs W::H) h):bN (rf T U bs W k::fM T U bs W k::H) h:=by
 have s1:bN (pH T U bs W++H) h:=(cj _ _).2 s;have e:(pH T U bs W).getD k (λ_=>True)=rf T U bs W k:=by simp[pH,List.getD_eq_getElem?_getD,hk]
 have p:=nd (λ_=>True) (pH T U bs W) k (by rw[Dx];exact hk);rw[e]at p;have s2:=eF (p.append_right H) s1;exact cE s2 (λ_ a=>a) λ_ b=>(cj _ _).1 b
theorem u9{W':List (List (List UInt8))}(hk:k<25)(hW: ∀j,j≠k→W'.getD j []=W.getD j [])(s:bN (rf T U bs W' k::fM T U bs W k::H) h):bN (eY T U bs W'::H) h:=by
 have e0:(pH T U bs W').eraseIdx k=(pH T U bs W).eraseIdx k:=by
  refine List.ext_getElem? λj=>?_
  rw[List.getElem?_eraseIdx,List.getElem?_eraseIdx]
  have: ∀i,i≠k→(pH T U bs W')[i]?=(pH T U bs W)[i]?:=λi hi=>by
   simp only[pH,List.getElem?_map];cases q:(List.range 25)[i]?with
   |none=>rfl
   |some m=>
    have hm:m=i:=by
     by_cases hi25:i<25
     · simp[hi25]at q;exact q.symm
     · simp[hi25]at q
    subst hm;simp only[Option.map_some,rf,hW m hi]
  split
  · exact this j (by omega)
  · exact this (j+1) (by omega)
 have e:(pH T U bs W').getD k (λ_=>True)=rf T U bs W' k:=by simp[pH,List.getD_eq_getElem?_getD,hk]
 have p:=nd (λ_=>True) (pH T U bs W') k (by rw[Dx];exact hk);rw[e,e0]at p;have s2:bN ((rf T U bs W' k::(pH T U bs W).eraseIdx k)++H) h:=cE s (λ_ a=>a) λ_ b=>(cj _ _).2 b
 exact(cj _ _).1 (eF (p.symm.append_right H) s2)
end
def bw(from' to':Int):Nat:=from'.toNat*5+to'.toNat
def iX(w:Int):Bool:=decide (0≤w∧w<5)
theorem Ka{f t:Int}(hf:iX f=true)(ht:iX t=true):bw f t<25:=by
 have h1:0≤f∧f<5:=of_decide_eq_true hf;have h2:0≤t∧t<5:=of_decide_eq_true ht;unfold bw;omega
theorem tN{f t:Int}(hf:iX f=true)(ht:iX t=true):bw f t%6=0↔f=t:=by
 have h1:0≤f∧f<5:=of_decide_eq_true hf;have h2:0≤t∧t<5:=of_decide_eq_true ht;unfold bw;omega
end Leg
end

section
namespace Wal
open Go Leg Codec Api Dsk
end Wal
namespace Leg
open Go Codec Api
end Leg
namespace Leg
open Go Codec Api
theorem qP{us:List Value}{ls:List (List UInt8)}{e:Nat}{H:List HP}{F:Hl}{w:World}(i:Nat)(hi:Nat.blt i H.length=true)(hH:H.getD i (λ_=>True)=eR us ls e)(m:Sat H F w):us.length=ls.length∧∀u∈us,u.oneCell'=true:=by
 obtain⟨h,d,e',x⟩:=m;obtain⟨h1,h2,d',rfl,a,_⟩:=e6 i (lb hi) x;rw[hH]at a;refine⟨a.1,λu hu=>?_⟩;obtain⟨j,hj,rfl⟩:=fB hu;obtain⟨u,e1,k1,k2,dk,rfl,a3⟩:=xB us ls e _ a.1 a.2 j (by rw[←a.1];exact hj);rw[List.getElem?_eq_getElem hj]at e1;injection e1 with e1
 rw[e1];exact(BP a3 (λb o q=>q):IsB u _ k1).one
section
variable {P:Program} {n:Nat} {D:List Deferred} {L:List (Nat×Value)} {S:World→Prop} {o:Oper}
end
end Leg
namespace Wal
open Go Leg Codec Api Dsk
end Wal
namespace Leg
open Go Codec Api
section
variable {P:Program} {n:Nat} {D:List Deferred} {L:List (Nat×Value)} {S:World→Prop} {o:Oper}
end
theorem HM{us:List Value}{ls:List (List UInt8)}{e:Nat}{u:Value}{l:List UInt8}{H:List HP}{h:Hl}(s:bN (eR (u::us) (l::ls) e::H) h):bN (ic u l e::eR us ls e::H) h:=by
 obtain⟨h1,h2,d,rfl,⟨hl,a⟩,b⟩:=s;obtain⟨g1,g2,d',rfl,a1,a2⟩:=a;exact m9.1 ⟨_,h2,d,rfl,⟨g1,g2,d',rfl,a1,⟨by simpa using hl,a2⟩⟩,b⟩
def AA(ls:List (List UInt8))(bs:List UInt8):List (List UInt8):=if ls.length<8 then ls++[bs]else ls
def dm(f t:Int):Bool:=iX f&&iX t&& !decide (f=t)
def pa(W:List (List (List UInt8)))(f t:Int)(bs:List UInt8):List (List (List UInt8)):=if dm f t then W.set (bw f t) (AA (W.getD (bw f t) []) bs)else W
theorem iT{f t:Int}(h:dm f t=true):bw f t<25∧¬bw f t%6=0:=by
 unfold dm at h;rw[au,au]at h;refine⟨Ka h.1.1 h.1.2,λq=>?_⟩;have:=(tN h.1.1 h.1.2).1 q;rw[this]at h;simp at h
theorem qQ{T U:Nat}{bs:List Nat}{W:List (List (List UInt8))}{k:Nat}(h: ¬k%6=0):rf T U bs W k=iq T U (bs.getD k 0) (W.getD k []):=by unfold rf;rw[if_neg h]
theorem og{T U:Nat}{bs:List Nat}{W:List (List (List UInt8))}{f t:Int}(hv:dm f t=true){H:List HP}{h:Hl}(s:bN (eY T U bs W::H) h):bN (iq T U (bs.getD (bw f t) 0) (W.getD (bw f t) [])::fM T U bs W (bw f t)::H) h:=by
 obtain⟨h1,h2⟩:=iT hv;have:=xC h1 s
 rwa [qQ h2]at this
theorem tM{T U:Nat}{bs:List Nat}{W:List (List (List UInt8))}{f t:Int}{ls:List (List UInt8)}(hv:dm f t=true)(hW:W.length=25){H:List HP}{h:Hl}(s:bN (iq T U (bs.getD (bw f t) 0) ls::fM T U bs W (bw f t)::H) h):bN (eY T U bs (W.set (bw f t) ls)::H) h:=by
 obtain⟨h1,h2⟩:=iT hv;refine u9 (W:=W) h1 (λj hj=>?_) ?_
 · rw[List.getD_eq_getElem?_getD,List.getD_eq_getElem?_getD,List.getElem?_set_ne (λe=>hj e.symm)]
 · rw[qQ h2,show(W.set (bw f t) ls).getD (bw f t) []=ls by rw[List.getD_eq_getElem?_getD,List.getElem?_set_self (by omega)];rfl]
   exact s
end Leg
namespace Leg
open Go Codec Api
def b8(w:Int):UInt8:=Wal.r8 w
theorem vN(w:Int):IntKind.u8.wrap w=(((b8 w).toNat:Nat):Int):=Wal.r8_wrap w
end Leg
end

section
namespace Go.Proofs.YtmcjhkbcmmddgaaGreat
open Go Leg Codec Api Dsk Wal
theorem tu(b c s r:Nat)(us:List Value)(ls:List (List UInt8)):
 DT 57 #[(.pointer (some ⟨b,0,none⟩))] T0 [an b [(.chan (some c))] 160,ey c 8 (us) (s) (r),eR (us) (ls) 5] (RI (.int .i64 ((ls.length:Nat):Int)) [an b [(.chan (some c))] 160,ey c 8 (us) (s) (r),eR (us) (ls) 5]):=by
 refine BD 8 Tryz.func57 rfl rfl rfl λw0 F hF=>sr λ_ J1=>PS ?_
 refine nx J1 (sr λ_ J2=>yu (p:=us.length=ls.length) (λw m=>(qP 2 rfl rfl m).1) (λhul=>P2 ?_));refine FA 0 DG uD ?_;refine LA 0 vp ?_;refine tp (PV.lenChan 1 rfl vp rfl rfl rfl) ?_;refine PS ?_;refine nx J2 (ak (WK [0,0,0] (aw rfl rfl ?_)));exact⟨by rw[hul],rfl⟩
theorem jG(b:Nat)(ls:List (List UInt8)):DT 57 #[.pointer (some ⟨b,0,none⟩)] T0 [iq 160 5 b ls] (RI (.int .i64 ((ls.length:Nat):Int)) [iq 160 5 b ls]):=
 Leg.Does.pack (B:=[]) λq=>Leg.Does.fold (tu b q.1 q.2.2.1 q.2.2.2 q.2.1 ls) λe H hp=>by
  cases e with
  |returned v=>
   obtain⟨rfl,rfl⟩:=hp;exact⟨_,λ_ s=>br (p:=λq:Nat×List Value×Nat×Nat=>[an b [.chan (some q.1)] 160,ey q.1 8 q.2.1 q.2.2.1 q.2.2.2,eR q.2.1 ls 5]) (H:=[]) q s,rfl,rfl⟩
  |panicked c=>exact hp.elim
  |outgrown=>exact hp.elim
theorem Be(b c s r:Nat)(us:List Value)(ls:List (List UInt8))(x:Value)(bs:List UInt8)(hb:bs.length≤1000000):
 DT 93 #[(.pointer (some ⟨b,0,none⟩)),x] (IsW x bs) [an b [(.chan (some c))] 160,ey c 8 (us) (s) (r),eR (us) (ls) 5] (dL (λv H=>(ls.length<8∧v= .bool true∧∃u,H=[an b [(.chan (some c))] 160,ey c 8 (us++[u]) (s+1) r,eR us ls 5,dV u bs 5])∨(¬ls.length<8∧v= .bool false∧H=[an b [(.chan (some c))] 160,ey c 8 (us) (s) (r),eR (us) (ls) 5]))):=by
 refine Leg.Does.body (vs:=[(.pointer (some ⟨b,0,none⟩)),x]) (n:=15) Tryz.func93 rfl rfl rfl (λw0 F hF=>?_);refine sr λ_ J1=>?_
 refine pN ?_;refine nx J1 ?_;refine aa λ_ J2=>?_
 refine sr λ_ J3=>?_
 refine yu (p:=us.length=ls.length) (λw m=>(qP 2 rfl rfl m).1) (λhul=>?_);refine mv ?_;refine tp (gJ rfl rfl) ?_;refine tp (bl (r:=0) rfl DG rfl uD rfl rfl) ?_;refine tp (fY (v:=(.chan (some c))) rfl vp rfl rfl (fu 0 rfl rfl) rfl) ?_;refine nx J3 ?_;refine ag ?_;refine DJ (ab rfl) rfl rfl rfl ia lO (λv9=>?_);change TL _ _ _ _ _ _ _ _ _ [dV v9 ([]) 5,an b [(.chan (some c))] 160,ey c 8 (us) (s) (r),eR (us) (ls) 5];refine mv ?_;refine cM (k:=0) (news:=eS (bs)) (nn':=(bs:List UInt8).length) (xs':=eS (bs)) (ab rfl) rfl rfl rfl ia zv rfl rfl rfl rfl rfl rfl (λ_ _=>hF.src (λ_ h=>fC h)) (fy _) (by simp only[maxLen,aB];omega) (by simp only[aB];omega) (by simp) (bu _) (λv11 ov11=>?_);change TL _ _ _ _ _ _ _ _ _ [dV v11 (bs) 5,an b [(.chan (some c))] 160,ey c 8 (us) (s) (r),eR (us) (ls) 5];refine nx J2 ?_;refine aa λ_ J4=>?_
 refine yv ?_;change TX _ _ _ _ _ _ [0,1,2] _ _ _
 by_cases hroom:us.length<8
 refine TX.sendRoom 2 rfl (ab rfl) rfl rfl rfl MU rfl rfl rfl rfl hroom ?_;change TX _ _ _ _ _ _ _ _ _ [dV v11 (bs) 5,an b [(.chan (some c))] 160,ey c 8 (us++[v11]) (s+1) (r),eR (us) (ls) 5];refine tD rfl (ab rfl) rfl rfl (c9 (vs:=[(.int .i64 0),(.bool false)]) rfl rfl rfl) ?_;refine tD rfl (ab rfl) rfl rfl (Ot rfl rfl rfl) ?_;refine Lg ?_;refine af J4 ?_;refine av ?_;refine nE rfl ?_;refine sr λ_ J5=>?_
 refine pN ?_;refine nx J5 ?_;refine ak ?_;refine aI ?_;refine aG (dP _) (λ_ s=>ao [1,1,1,0] rfl s) ?_;refine aw rfl rfl ?_;exact Or.inl ⟨by omega,rfl,_,rfl⟩;refine TX.sendFull 2 rfl (ab rfl) rfl rfl rfl MU rfl rfl rfl rfl (by omega) ?_;refine tD rfl (ab rfl) rfl rfl (c9 (vs:=[(.int .i64 (-1)),(.bool false)]) rfl rfl rfl) ?_;refine tD rfl (ab rfl) rfl rfl (Ot rfl rfl rfl) ?_;refine Lg ?_;refine af J4 ?_;refine av ?_;refine Gk rfl ?_;refine sr λ_ J6=>?_
 refine pN ?_;refine nx J6 ?_;refine ak ?_;refine aI ?_;refine aG (dP _) (λ_ s=>ao [1,1,1] rfl s) ?_;refine aw rfl rfl ?_;exact Or.inr ⟨by omega,rfl,rfl⟩
theorem vc(b:Nat)(ls:List (List UInt8))(x:Value)(bs:List UInt8)(hb:bs.length≤1000000):DT 93 #[.pointer (some ⟨b,0,none⟩),x] (IsW x bs) [iq 160 5 b ls] (RI (.bool (decide (ls.length<8))) [iq 160 5 b (AA ls bs)]):=
 Leg.Does.pack (B:=[]) λq=>Leg.Does.fold (Be b q.1 q.2.2.1 q.2.2.2 q.2.1 ls x bs hb) λe H hp=>by
  cases e with
  |returned v=>
   unfold AA;rcases hp with⟨h8,rfl,u,rfl⟩| ⟨h8,rfl,rfl⟩
   · refine⟨[iq 160 5 b (ls++[bs])],λ_ s=>?_,by rw[decide_eq_true h8],by rw[if_pos h8]⟩
     have s1:=An 3 rfl rfl s;have s2:=aE [2,2] rfl s1;have s3:=uz s2;exact br (p:=λq:Nat×List Value×Nat×Nat=>[an b [.chan (some q.1)] 160,ey q.1 8 q.2.1 q.2.2.1 q.2.2.2,eR q.2.1 (ls++[bs]) 5]) (H:=[]) (q.1,q.2.1++[u],q.2.2.1+1,q.2.2.2) (aE [1,1,0] rfl s3)
   · exact⟨[iq 160 5 b ls],λ_ s=>br (p:=λq:Nat×List Value×Nat×Nat=>[an b [.chan (some q.1)] 160,ey q.1 8 q.2.1 q.2.2.1 q.2.2.2,eR q.2.1 ls 5]) (H:=[]) q s,by rw[decide_eq_false h8],by rw[if_neg h8]⟩
  |panicked c=>exact hp.elim
  |outgrown=>exact hp.elim
theorem ys(b c s r:Nat)(us:List Value)(ls:List (List UInt8)):
 DT 94 #[(.pointer (some ⟨b,0,none⟩))] T0 [an b [(.chan (some c))] 160,ey c 8 (us) (s) (r),eR (us) (ls) 5] (dL (λv H=>(ls=[]∧v= .tuple #[.slice none 0 0, .bool false]∧H=[an b [(.chan (some c))] 160,ey c 8 [] s r,eR [] ls 5])∨(∃u us' f ls',ls=f::ls'∧v= .tuple #[u, .bool true]∧H=[an b [(.chan (some c))] 160,ey c 8 us' s (r+1),eR (u::us') (f::ls') 5]))):=by
 refine BD 14 Tryz.func94 rfl rfl rfl λw0 F hF=>sr λ_ J1=>P2 ?_
 refine nx J1 (sr λ_ J2=>yu (p:=us.length=ls.length) (λw m=>(qP 2 rfl rfl m).1) (λhul=>P2 ?_));refine FA 0 DG uD ?_;refine LA 0 vp ?_;refine nx J2 (aa λ_ J3=>yv ?_);rcases us with _| ⟨u,us⟩
 refine TX.recvNone 1 rfl (ab rfl) rfl rfl rfl MU rfl rfl rfl (tD rfl (ab rfl) rfl rfl (c9 (vs:=[(.int .i64 (-1)),(.bool false),(.slice none 0 0)]) rfl rfl rfl) (tD rfl (ab rfl) rfl rfl (Ot rfl rfl rfl) (Lg (af J3 (av (CN (sr λ_ J4=>P2 ?_)))))));exact nx J4 (ak (aI (WK [0,0,0] (jg rfl rfl rfl (Or.inl ⟨List.eq_nil_of_length_eq_zero hul.symm,rfl,rfl⟩)))));rcases ls with _| ⟨f,ls⟩
 · cases hul
 refine TX.recvBuf 1 rfl (ab rfl) rfl rfl rfl MU rfl rfl rfl (tD rfl (ab rfl) rfl rfl (c9 (vs:=[(.int .i64 0),(.bool true),u]) rfl rfl rfl) (tD rfl (ab rfl) rfl rfl (Ot rfl rfl rfl) (Lg (af J3 (av (CY (sr λ_ J5=>P2 ?_)))))));refine nx J5 (sr λ_ J6=>P3 ?_);exact nx J6 (ak (aI (WK [0,0,0] (jg rfl rfl rfl (Or.inr ⟨u,us,f,ls,rfl,rfl,rfl⟩)))))
theorem tt(b:Nat)(ls:List (List UInt8)):DT 94 #[.pointer (some ⟨b,0,none⟩)] T0 [iq 160 5 b ls] (dL (λv H=>(ls=[]∧v= .tuple #[.slice none 0 0, .bool false]∧H=[iq 160 5 b []])∨(∃u f ls',ls=f::ls'∧v= .tuple #[u, .bool true]∧H=[iq 160 5 b ls',ic u f 5]))):=
 Leg.Does.pack (B:=[]) λq=>Leg.Does.fold (ys b q.1 q.2.2.1 q.2.2.2 q.2.1 ls) λe H hp=>by
  cases e with
  |returned v=>
   rcases hp with⟨rfl,rfl,rfl⟩| ⟨u,us',f,ls',rfl,rfl,rfl⟩
   · exact⟨[iq 160 5 b []],λ_ s=>br (p:=λq:Nat×List Value×Nat×Nat=>[an b [.chan (some q.1)] 160,ey q.1 8 q.2.1 q.2.2.1 q.2.2.2,eR q.2.1 [] 5]) (H:=[]) (q.1,[],q.2.2.1,q.2.2.2) s,Or.inl ⟨rfl,rfl,rfl⟩⟩
   · refine⟨[iq 160 5 b ls',ic u f 5],λ_ s=>?_,Or.inr ⟨u,f,ls',rfl,rfl,rfl⟩⟩
     have s1:=aE [2] rfl s;have s2:=HM s1;exact br (p:=λq:Nat×List Value×Nat×Nat=>[an b [.chan (some q.1)] 160,ey q.1 8 q.2.1 q.2.2.1 q.2.2.2,eR q.2.1 ls' 5]) (H:=[ic u f 5]) (q.1,us',q.2.2.1,q.2.2.2+1) (aE [2,2,1,0] rfl s2)
  |panicked c=>exact hp.elim
  |outgrown=>exact hp.elim
theorem Bf:
 DT 47 #[(.int .i64 8)] T0 [] (dL (λv H=>∃b c,v= .pointer (some ⟨b,0,none⟩)∧H=[an b [(.chan (some c))] 160,ey c 8 [] 0 0])):=by
 refine BD 9 Tryz.func47 rfl rfl rfl λw0 F hF=>sr λ_ J1=>PS ?_
 refine nx J1 (sr λ_ J2=>PS ?_);refine tp (Qd (v':=(.int .i64 8)) (yB rfl rfl rfl) rfl) ?_;refine tp (Qd (v':=(.int .i64 8)) (PV.minI rfl rfl rfl) rfl) ?_;refine TL.makeChan (k:=8) (bytes:=24) (ab rfl) rfl rfl rfl vp (by kernel_rfl) rfl (by omega) (by omega) (λc6=>BV #[(.chan (some c6))] ?_);refine XB λb8=>?_
 refine PS ?_;exact nx J2 (ak (WK [0,0] (aw rfl rfl ⟨b8,c6,rfl,rfl⟩)))
theorem Dw:DT 47 #[.int .i64 8] T0 [] (dL (λv H=>∃b,v= .pointer (some ⟨b,0,none⟩)∧H=[iq 160 5 b []])):=
 Leg.Does.fold Bf λe H hp=>by
  cases e with
  |returned v=>
   obtain⟨b,c,rfl,rfl⟩:=hp;exact⟨[iq 160 5 b []],λ_ s=>br (p:=λq:Nat×List Value×Nat×Nat=>[an b [.chan (some q.1)] 160,ey q.1 8 q.2.1 q.2.2.1 q.2.2.2,eR q.2.1 [] 5]) (H:=[]) (c,[],0,0) (aE [1,1,0] rfl (zN s)),b,rfl,rfl⟩
  |panicked c=>exact hp.elim
  |outgrown=>exact hp.elim
theorem pz(w:Int):
 DT 92 #[(.int .i64 (w))] T0 [] (RI (.bool (iX w)) []):=by
 refine BD 9 Tryz.func92 rfl rfl rfl λw0 F hF=>sr λ_ J1=>PS ?_
 refine nx J1 (sr λ_ J2=>P2 ?_);refine aq ?_ ?_<;>intro h4
 iterate 5 refine PS ?_
 refine nx J2 (ak (WK [] (aw rfl rfl ?_)));exact⟨congrArg Value.bool (by unfold iX;simp only[decide_eq_decide];omega),rfl⟩;refine PS ?_;refine UF ?_;refine UF ?_;refine P2 ?_;refine nx J2 (ak (WK [] (aw rfl rfl ?_)));exact⟨congrArg Value.bool (by unfold iX;symm;exact decide_eq_false (by omega)),rfl⟩
theorem mZ(n:Nat)(bs:List Nat)(from' to':Int):
 DT 56 #[(.pointer (some ⟨n,0,none⟩)),(.int .i64 (from')),(.int .i64 (to'))] T0 [an n (dF bs) 110] (dL (λv H=>((dm from' to'=true∧v= .pointer (some ⟨(bs.getD (bw from' to') 0),0,none⟩))∨(dm from' to'=false∧v= .pointer none))∧H=[an n (dF bs) 110])):=by
 refine BD 23 Tryz.func56 rfl rfl rfl λw0 F hF=>sr λ_ J1=>PS ?_
 refine nx J1 (aa λ_ J2=>sr λ_ J3=>PS ?_);refine CE Nl (pz from') ID ?_;refine bh ?_ ?_<;>intro h8;have hf:0≤from'∧from'<5:=of_decide_eq_true h8
 refine PS ?_;refine P2 ?_;refine CE Nl (pz to') ID ?_;refine bh ?_ ?_<;>intro h12;have ht:0≤to'∧to'<5:=of_decide_eq_true h12;refine PS ?_;refine PS ?_;refine nx J3 (CN (qx J2 (sr λ_ J4=>P4 ?_)));refine FA 0 Tryz.underlying110 FL ?_;refine IX (((from').toNat)*5) Lc BN ?_;refine IX (((from').toNat)*5+(to').toNat) JK FM ?_;refine LT 0 xM (if bw from' to'%6=0 then .pointer none else .pointer (some ⟨(bs.getD (bw from' to') 0),0,none⟩)) ?_ (hc:=by exact Cq bs (k:=bw from' to') (by unfold bw;omega));refine PS ?_;refine nx J4 (ak (WK [0] (aw rfl rfl ⟨?_,rfl⟩)))
 by_cases hd:from'=to'
 · rw[if_pos ((tN h8 h12).2 hd)]
   exact Or.inr ⟨by unfold dm;rw[decide_eq_true hd];simp,rfl⟩
 · rw[if_neg (λq=>hd ((tN h8 h12).1 q))]
   exact Or.inl ⟨by unfold dm;rw[h8,h12,decide_eq_false hd];rfl,rfl⟩
 refine PS ?_;refine PS ?_;refine nx J3 (CY (sr λ_ J5=>PS ?_));refine nx J5 (ak (ae (WK [0] (aw rfl rfl ?_))));exact⟨Or.inr ⟨by unfold dm;rw[h12];simp,rfl⟩,rfl⟩;refine PS ?_;refine PS ?_
 iterate 3 refine UT ?_
 refine PS ?_;refine nx J3 (CY (sr λ_ J6=>PS ?_));refine nx J6 (ak (ae (WK [0] (aw rfl rfl ?_))));exact⟨Or.inr ⟨by unfold dm;rw[h8];simp,rfl⟩,rfl⟩
def sU(W:List (List (List UInt8)))(f t:Int):Bool:=dm f t&&decide ((W.getD (bw f t) []).length<8)
theorem yf(n:Nat)(bs:List Nat)(W:List (List (List UInt8)))(from' to':Int)(x:Value)(by':List UInt8)(hb:by'.length≤1000000)(hW:W.length=25):
 DT 179 #[(.pointer (some ⟨n,0,none⟩)),(.int .i64 (from')),(.int .i64 (to')),x] (IsW x by') [an n (dF bs) 110,eY 160 5 bs W] (RI (.bool (sU W from' to')) [an n (dF bs) 110,eY 160 5 bs (pa W from' to' by')]):=by
 refine BD 21 Tryz.func179 rfl rfl rfl λw0 F hF=>sr λ_ J1=>PS ?_
 refine nx J1 (sr λ_ J2=>P3 ?_);refine CR EH (mZ n bs from' to') ID λvR HR hR=>?_
 obtain⟨hw,rfl⟩:=hR;rcases hw with⟨hv,rfl⟩| ⟨hv,rfl⟩
 refine PS ?_;refine nx J2 (sr λ_ J3=>PS ?_);refine tp (jI rfl xM rfl rfl) ?_;refine P3 ?_;refine cB (H':=[iq 160 5 (bs.getD (bw from' to') 0) (W.getD (bw from' to') []),fM 160 5 bs W (bw from' to'),an n (dF bs) 110]) (λ_ s=>og hv (aE [1] rfl s)) (CF Mk (vc (bs.getD (bw from' to') 0) (W.getD (bw from' to') []) x by' hb) ID (λ_ d _=>Oz hF d) ?_);refine P2 ?_;refine nx J3 (ak (aG (H':=[an n (dF bs) 110,eY 160 5 bs (pa W from' to' by')]) (dP _) (λ_ s=>by unfold pa;rw[if_pos hv];exact aE [1,0] rfl (tM hv hW (aE [0,0,0] rfl s))) (aw rfl rfl ?_)));exact⟨by unfold sU;rw[hv];rfl,rfl⟩;refine PS ?_;refine nx J2 (sr λ_ J4=>PS ?_);refine tp (jo rfl xM rfl rfl) ?_;refine PS ?_
 iterate 3 refine UF ?_
 refine P2 ?_;refine nx J4 (ak (WK [0,0] (aw rfl rfl ?_)));exact⟨by unfold sU;rw[hv];rfl,by unfold pa;rw[hv];rfl⟩
theorem AK(n:Nat)(W:List (List (List UInt8)))(from' to':Int)(x:Value)(by':List UInt8)(hb:by'.length≤1000000)(hW:W.length=25):DT 179 #[.pointer (some ⟨n,0,none⟩), .int .i64 from', .int .i64 to',x] (IsW x by') [eP 110 160 5 n W] (RI (.bool (sU W from' to')) [eP 110 160 5 n (pa W from' to' by')]):=
 Leg.Does.pack (B:=[]) λbs=>Leg.Does.fold (yf n bs W from' to' x by' hb hW) λe H hp=>by
  cases e with
  |returned v=>
   obtain⟨rfl,rfl⟩:=hp;exact⟨_,λ_ s=>br (p:=λbs:List Nat=>[an n (dF bs) 110,eY 160 5 bs (pa W from' to' by')]) (H:=[]) bs s,rfl,rfl⟩
  |panicked c=>exact hp.elim
  |outgrown=>exact hp.elim
def jD(f t:Int)(bs:List UInt8):List UInt8:=pF ([b8 f,b8 t]++bs)
theorem xq(from' to':Int)(x:Value)(by':List UInt8)(hb:by'.length≤100000):
 DT 22 #[(.int .i64 (from')),(.int .i64 (to')),x] (IsW x by') [] (dL (λv H=>∃u,v=u∧H=[dV u (jD from' to' by') 5])):=by
 refine BD 23 Tryz.func22 rfl rfl rfl λw0 F hF=>sr λ_ J1=>PS ?_
 refine nx J1 (sr λ_ J2=>PS ?_);refine tp (dW rfl ia rfl hF.len) ?_;refine AD ?_;refine TL.makeB (0) (2+by'.length) (ab rfl) rfl rfl rfl ia zv rfl rfl rfl (by omega) (by omega) (by omega) (λb11=>cB (H':=[dV (.slice (some ⟨b11,0,none⟩) 0 (2+by'.length)) ([]) 5]) (λ_ s=>FN 0 rfl rfl (by omega) (by simp only[maxLen];omega) (by simp[eS]) rfl s) (PS ?_));refine nx J2 (sr λ_ J3=>P2 ?_);refine tp (eN (r:=(((b8 from').toNat:Nat):Int)) rfl Y3 Y5 rfl (vN _)) ?_;refine PS ?_;refine tp (eN (r:=(((b8 to').toNat:Nat):Int)) rfl Y3 Y5 rfl (vN _)) ?_;refine aZ (cells:=#[(.int .u8 ((((b8 from').toNat:Nat):Int))),(.int .u8 ((((b8 to').toNat:Nat):Int)))]) (ab rfl) rfl rfl rfl ia zv rfl rfl rfl (by as_aux_lemma=>kernel_rfl) (λb17=>cM (k:=1) (news:=eS ([(b8 from'),(b8 to')])) (nn':=([(b8 from'),(b8 to')]:List UInt8).length) (xs':=eS ([(b8 from'),(b8 to')])) (ab rfl) rfl rfl rfl ia zv rfl rfl rfl rfl rfl rfl (λ_ _=>jU rfl (RO 0) rfl) (fy [(b8 from'),(b8 to')]) (by simp only[maxLen,aB,az];omega) (by simp only[aB,az];omega) (by simp<;>omega) (bu _) (λv18 ov18=>PS ?_));refine nx J3 (sr λ_ J4=>P2 ?_)
 refine cM (k:=1) (news:=eS (by')) (nn':=([(b8 from'),(b8 to')]++by':List UInt8).length) (xs':=eS ([(b8 from'),(b8 to')]++by')) (ab rfl) rfl rfl rfl ia zv rfl rfl rfl rfl rfl rfl (λ_ _=>hF.src (λ_ h=>fC h)) (fy _) (by simp only[maxLen,aj,az,aB];omega) (by simp only[aj,az,aB];omega) (by simp<;>omega) (js _ _).symm (λv21 ov21=>CQ Nx (uE v21 ([(b8 from'),(b8 to')]++by') (by simp only[aj,az,aB];omega)) ID (λg d s=>L6 (vI 1 rfl rfl g d s)) λvR HR hR=>?_);have hR:=hR;subst hR;refine PS ?_;exact nx J4 (ak (WK [0] (aw rfl rfl ⟨_,rfl,rfl⟩)))
theorem pe(f t:Int)(bs:List UInt8):(jD f t bs).length=bs.length+6:=by
 unfold jD;rw[k8];simp only[aj,az,aB];omega
theorem yk(n:Nat)(W:List (List (List UInt8)))(from' to':Int)(x:Value)(by':List UInt8)(hb:by'.length≤3000)(hW:W.length=25):
 DT 181 #[(.pointer (some ⟨n,0,none⟩)),(.int .i64 (from')),(.int .i64 (to')),x] (IsW x by') [eP 110 160 5 n (W)] (RI (.bool (sU W from' to')) [eP 110 160 5 n (pa W from' to' (jD from' to' by'))]):=by
 refine BD 24 Tryz.func181 rfl rfl rfl λw0 F hF=>?_
 have hfl:(jD from' to' by').length≤1000000:=by rw[pe];omega
 refine sr λ_ J1=>PS ?_
 refine nx J1 (aa λ_ J2=>sr λ_ J3=>PS ?_);refine tp (km rfl JH rfl rfl) ?_;refine P2 ?_;refine tq (dW rfl ia rfl hF.len) ?_;refine PS ?_;refine aq ?_ ?_<;>intro h14
 · exact absurd h14 (by omega)
 refine PS ?_;refine nx J3 (CN (qx J2 (sr λ_ J4=>?_)))
 iterate 6 refine PS ?_
 refine CQ NI (xq from' to' x by' (by omega)) ID (λ_ d _=>Oz hF d) λvR HR hR=>?_
 obtain⟨_,rfl,rfl⟩:=hR;revert vR;intro uf;refine CF NN (AK n W from' to' uf (jD from' to' by') hfl hW) (SM [1]) (λg d s=>L6 (vI 0 rfl rfl g d s)) ?_;refine PS ?_;exact nx J4 (ak (WK [0] (aw rfl rfl ⟨rfl,rfl⟩)))
theorem yl(from' to':Int)(x:Value)(by':List UInt8)(h0:0<by'.length)(hb:by'.length≤100000):
 DT 95 #[(.int .i64 (from')),(.int .i64 (to')),x] (IsW x (jD from' to' by')) [] (dL (λv H=>∃u,v= .tuple #[u, .bool true]∧H=[ic u by' 5])):=by
 refine BD 40 Tryz.func95 rfl rfl rfl λw0 F hF=>?_
 have hfl:(jD from' to' by').length≤1000000000:=by rw[pe];omega
 refine sr λ_ J1=>P2 ?_
 refine nx J1 (sr λ_ J2=>PS ?_);refine CQ Lv (yQ x (jD from' to' by') hfl) ID (λ_ d _=>Oz hF d) λvR HR hR=>?_
 rcases hR with⟨ht',_,_⟩| ⟨t,u,ht',rfl,rfl⟩
 · exact absurd ht' (by unfold jD;rw[rq];simp)
 obtain rfl:t=([b8 from',b8 to']++by'):=by unfold jD at ht';rw[rq]at ht';exact(aR ht').symm
 refine kl 0 rfl rfl (by simp) (λg cap hv hcap=>?_);have hv2:u= .slice (some ⟨g,0,none⟩) (by'.length+2) cap:=hv;refine P4 ?_;refine PS ?_;refine nx J2 (aa λ_ J3=>sr λ_ J4=>PS ?_);refine PS ?_;refine P2 ?_;refine tq (dW rfl ia rfl (by rw[hv2];exact⟨_,_,rfl⟩)) ?_;refine PS ?_;refine aq ?_ ?_<;>intro h20
 · exact absurd h20 (by omega)
 refine P3 ?_;refine tq (ca (r:=0) hv2 rfl ia lO rfl rfl (by omega) (by omega) rfl) ?_;refine tq (de (v:=(.int .u8 ((((b8 from').toNat:Nat):Int)))) rfl Y5 rfl rfl (gO 0 rfl hv rfl) (rk (l:=([b8 from',b8 to']++by')) (j:=0) (by simp))) ?_;refine PS ?_;refine tq (eN (r:=(((b8 from').toNat:Nat):Int)) rfl Y3 Y5 rfl (vN _)) ?_;refine PS ?_;refine aq ?_ ?_<;>intro h28
 · exact absurd rfl h28
 refine P3 ?_;refine tq (ca (r:=1) hv2 rfl ia lO rfl rfl (by omega) (by omega) rfl) ?_;refine tq (de (v:=(.int .u8 ((((b8 to').toNat:Nat):Int)))) rfl Y5 rfl rfl (gO 0 rfl hv rfl) (rk (l:=([b8 from',b8 to']++by')) (j:=1) (by simp))) ?_;refine PS ?_;refine tq (eN (r:=(((b8 to').toNat:Nat):Int)) rfl Y3 Y5 rfl (vN _)) ?_;refine PS ?_;refine aq ?_ ?_<;>intro h36
 · exact absurd rfl h36
 refine PS ?_;refine nx J4 (CN (qx J3 (sr λ_ J5=>PS ?_)));refine tp (Qd (PV.sliceL (a:=some ⟨g,0,none⟩) (len:=by'.length+2) (cap:=cap) (lo:=2) rfl ia lO (by rw[←hv2];rfl) rfl rfl (by omega)) (congrArg (λq=>kh q 2 (by'.length+2)) hv2.symm)) ?_;refine P2 ?_;exact nx J5 (ak (aG (H':=[ic (kh u 2 (by'.length+2)) by' 5]) (dP _) (λ_ s=>wz 0 rfl rfl hv (by omega) (by simp) (by simp;omega) (by simp) s) (jg rfl rfl rfl ⟨_,rfl,rfl⟩)))
theorem xf(n:Nat)(bs:List Nat)(W:List (List (List UInt8)))(from' to':Int)(by':List UInt8)(ls:List (List UInt8))(hv:dm from' to'=true)(hW:W.length=25)(hk:W.getD (bw from' to') []=jD from' to' by'::ls)(h0:0<by'.length)(hb:by'.length≤100000):
 DT 60 #[(.pointer (some ⟨n,0,none⟩)),(.int .i64 (from')),(.int .i64 (to'))] T0 [an n (dF bs) 110,eY 160 5 bs (W)] (dL (λv H=>∃u,v= .tuple #[u, .bool true]∧H=[an n (dF bs) 110,eY 160 5 bs (W.set (bw from' to') ls),ic u by' 5])):=by
 refine BD 32 Tryz.func60 rfl rfl rfl λw0 F hF=>sr λ_ J1=>P2 ?_
 refine nx J1 (aa λ_ J2=>sr λ_ J3=>PS ?_);refine tp (km rfl JH rfl rfl) ?_;refine nx J3 (CN (qx J2 (sr λ_ J4=>P3 ?_)));refine CR EH (mZ n bs from' to') ID λvR HR hR=>?_
 obtain⟨hw,rfl⟩:=hR;obtain⟨_,rfl⟩:dm from' to'=true∧vR= .pointer (some ⟨(bs.getD (bw from' to') 0),0,none⟩):=hw.resolve_right (λq=>by rw[hv]at q;cases q.1)
 refine PS ?_;refine nx J4 (aa λ_ J5=>sr λ_ J6=>PS ?_);refine tp (km rfl xM rfl rfl) ?_;refine nx J6 (CN (qx J5 (sr λ_ J7=>PS ?_)));refine cB (H':=[iq 160 5 (bs.getD (bw from' to') 0) (W.getD (bw from' to') []),fM 160 5 bs W (bw from' to'),an n (dF bs) 110]) (λ_ s=>og hv (aE [1] rfl s)) (CR Nk (tt (bs.getD (bw from' to') 0) (W.getD (bw from' to') [])) ID λvR HR hR=>?_);rcases hR with⟨he,_,_⟩| ⟨u,f,ls',he,rfl,rfl⟩
 · rw[he]at hk;cases hk
 rw[hk]at he;obtain⟨rfl,rfl⟩:=List.cons.inj he;refine P4 ?_;refine PS ?_;refine nx J7 (aa λ_ J8=>sr λ_ J9=>PS ?_);refine PS ?_;refine nx J9 (CN (qx J8 (sr λ_ J10=>P3 ?_)));refine CQ Ph (yl from' to' u by' h0 hb) ID (λg d s=>L6 (AU 1 rfl rfl g d s)) λvR HR hR=>?_
 obtain⟨uv,rfl,rfl⟩:=hR;refine P4 ?_;exact nx J10 (ak (aG (H':=[an n (dF bs) 110,eY 160 5 bs (W.set (bw from' to') ls),ic uv by' 5]) (dP _) (λ_ s=>aE [1,0] rfl (tM hv hW (ao [1,2,2,0] rfl s))) (jg rfl rfl rfl ⟨_,rfl,rfl⟩)))
theorem q7(n:Nat)(W:List (List (List UInt8)))(from' to':Int)(by':List UInt8)(ls:List (List UInt8))(hv:dm from' to'=true)(hW:W.length=25)(hk:W.getD (bw from' to') []=jD from' to' by'::ls)(h0:0<by'.length)(hb:by'.length≤100000):DT 60 #[.pointer (some ⟨n,0,none⟩), .int .i64 from', .int .i64 to'] T0 [eP 110 160 5 n W] (dL (λv H=>∃u,v= .tuple #[u, .bool true]∧H=[eP 110 160 5 n (W.set (bw from' to') ls),ic u by' 5])):=
 Leg.Does.pack (B:=[]) λbs=>Leg.Does.fold (xf n bs W from' to' by' ls hv hW hk h0 hb) λe H hp=>by
  cases e with
  |returned v=>
   obtain⟨u,rfl,rfl⟩:=hp;exact⟨[eP 110 160 5 n (W.set (bw from' to') ls),ic u by' 5],λ_ s=>br (p:=λbs:List Nat=>[an n (dF bs) 110,eY 160 5 bs (W.set (bw from' to') ls)]) (H:=[ic u by' 5]) bs s,u,rfl,rfl⟩
  |panicked c=>exact hp.elim
  |outgrown=>exact hp.elim
end Go.Proofs.YtmcjhkbcmmddgaaGreat
end

section
namespace Leg
open Go Codec Api
section
variable {P:Program} {n:Nat} {D:List Deferred} {L:List (Nat×Value)} {S:World→Prop} {o:Oper}
theorem PV.ptrNeIf{c:Prop}[Decidable c]{t t':TypeId}{x y:Operand}{a:Addr}(ho:o.op= .binOp .neq t x y t')(ht:P.underlying t=some (.pointer (P.pointee t)))(hx:cI L x=some (if c then .pointer none else .pointer (some a)))(hy:cI L y=some (.pointer none)):PV P n D L S o (.bool (!decide c)):=by
 by_cases h:c
 · rw[if_pos h]at hx;rw[decide_eq_true h];exact jo ho ht hx hy
 · rw[if_neg h]at hx;rw[decide_eq_false h];exact jI ho ht hx hy
end
abbrev II(bs:List Nat)(k:Nat):Value:=if k%6=0 then .pointer none else .pointer (some ⟨bs.getD k 0,0,none⟩)
def sO(bs:List Nat)(i:Nat):List Value:=(List.range 5).map λj=>II bs (i*5+j)
theorem ot(bs:List Nat)(i:Nat):(sO bs i).length=5:=by simp[sO]
theorem Ix(bs:List Nat)(i:Nat): ∀v∈sO bs i,v.oneCell'=true:=by
 intro v hv;simp only[sO,dw]at hv;obtain⟨j,_,rfl⟩:=hv;show(if _ then _ else _:Value).oneCell'=true;split<;>rfl
theorem FO(bs:List Nat)(i:Nat){j:Nat}(h:j<5):(sO bs i)[j]?=some (II bs (i*5+j)):=by simp[sO,h]
theorem Iy(bs:List Nat){i:Nat}(h:i<5):((dF bs).drop (i*5)).take 5=sO bs i:=by
 refine List.ext_getElem? λj=>?_
 by_cases hj:j<5
 · rw[List.getElem?_take_of_lt hj,List.getElem?_drop,Cq bs (by omega),FO bs i hj]
 · rw[List.getElem?_eq_none (by rw[bp];omega),List.getElem?_eq_none (by rw[ot];omega)]
def lX(W:List (List (List UInt8)))(k:Nat):Nat:=((List.range k).map λq=>if q%6=0 then 0 else(W.getD q []).length).sum
theorem rK(W:List (List (List UInt8)))(k:Nat):lX W (k+1)=lX W k+(if k%6=0 then 0 else(W.getD k []).length):=by simp[lX,cX]
def lT(bs:List Nat):List Value:=(List.range 25).map λq=>if q%6=0∨bs.length≤q then .pointer none else .pointer (some ⟨bs.getD q 0,0,none⟩)
theorem zg(bs:List Nat):(lT bs).length=25:=by simp[lT]
theorem G0{bs:List Nat}{b:Nat}(h:bs.length<25)(hd: ¬bs.length%6=0):(lT bs).set bs.length (.pointer (some ⟨b,0,none⟩))=lT (bs++[b]):=by
 refine List.ext_getElem? λj=>?_
 by_cases hj:j=bs.length
 · subst hj
   rw[List.getElem?_set_self (by rw[zg];exact h)];simp[lT,h,hd,List.getD_eq_getElem?_getD]
 · rw[List.getElem?_set_ne (λe=>hj e.symm)]
   simp only[lT,List.getElem?_map];cases hr:(List.range 25)[j]?with
   |none=>rfl
   |some q=>
    have hq:q=j:=by
     by_cases h25:j<25
     · simp[h25]at hr;exact hr.symm
     · simp[h25]at hr
    subst hq;simp only[Option.map_some,aj,az,aB];congr 1
    by_cases hlt:q<bs.length
    · simp[show ¬bs.length≤q by omega,show ¬bs.length+1≤q by omega,List.getElem?_append_left hlt]
    · simp[show bs.length≤q by omega,show bs.length+1≤q by omega]
theorem Ew{bs:List Nat}{b:Nat}(hd:bs.length%6=0):lT (bs++[b])=lT bs:=by
 unfold lT;refine dX λq hq=>?_
 rw[aj,gW]
 by_cases hq6:q%6=0
 · simp[hq6]
 · by_cases hlt:q<bs.length
   · simp[hq6,show ¬bs.length≤q by omega,show ¬bs.length+1≤q by omega,List.getElem?_append_left hlt]
   · have: ¬q=bs.length:=λe=>hq6 (by rw[e];exact hd)
     simp[show bs.length≤q by omega,show bs.length+1≤q by omega]
theorem G1{bs:List Nat}(h:bs.length=25):lT bs=dF bs:=by
 unfold lT dF;refine dX λq hq=>?_
 rw[ee]at hq;simp[show ¬bs.length≤q by omega]
def pn(T U:Nat)(bs:List Nat)(q:Nat):HP:=if q%6=0 then(λ_=>True)else iq T U (bs.getD q 0) []
def kD(T U:Nat)(bs:List Nat):HP:=bN ((List.range bs.length).map (pn T U bs))
theorem Fu(T U:Nat){H:List HP}{h:Hl}(s:bN H h):bN (kD T U []::H) h:=⟨em,h,DO h,(ra h).symm,trivial,s⟩
theorem Fv(T U:Nat)(bs:List Nat)(b:Nat):(List.range bs.length).map (pn T U (bs++[b]))=(List.range bs.length).map (pn T U bs):=
 dX λq hq=>by
  rw[ee]at hq;unfold pn;rw[show(bs++[b]).getD q 0=bs.getD q 0 by simp[List.getElem?_append_left hq]]
theorem va(T U:Nat)(bs:List Nat)(b:Nat){H:List HP}{h:Hl}(s:bN (pn T U (bs++[b]) bs.length::kD T U bs::H) h):bN (kD T U (bs++[b])::H) h:=by
 have e:(List.range (bs++[b]).length).map (pn T U (bs++[b]))=(List.range bs.length).map (pn T U bs)++[pn T U (bs++[b]) bs.length]:=by
  rw[aj,gW,cX,cL,Fv];rfl
 obtain⟨h1,h2,d,rfl,a,b'⟩:=s;have s2:bN ((pn T U (bs++[b]) bs.length::(List.range bs.length).map (pn T U bs))++H) (jn h1 h2):=⟨h1,h2,d,rfl,a,(cj _ _).2 b'⟩;have p:((pn T U (bs++[b]) bs.length::(List.range bs.length).map (pn T U bs))++H).Perm (((List.range bs.length).map (pn T U bs)++[pn T U (bs++[b]) bs.length])++H):=(List.perm_append_comm (l₁:=[pn T U (bs++[b]) bs.length])).append_right H;have s3:=eF p s2;rw[←e]at s3;exact(cj _ _).1 s3
theorem Dv(T U:Nat)(bs:List Nat)(hd:bs.length%6=0){H:List HP}{h:Hl}(s:bN (kD T U bs::H) h):bN (kD T U (bs++[0])::H) h:=by
 refine va T U bs 0 ⟨em,h,DO h,(ra h).symm,?_,s⟩;unfold pn;rw[if_pos hd];trivial
theorem Fw{T U:Nat}{bs:List Nat}(h:bs.length=25):kD T U bs=eY T U bs (List.replicate 25 []):=by
 unfold kD eY pH;rw[h];refine congrArg bN ?_;refine dX λq hq=>?_
 rw[ee]at hq;unfold pn rf;rw[show(List.replicate 25 ([]:List (List UInt8))).getD q []=[]by rw[List.getD_eq_getElem?_getD,List.getElem?_replicate,if_pos hq];rfl]
theorem Jy{T U:Nat}{bs:List Nat}{W:List (List (List UInt8))}{k:Nat}(h6: ¬k%6=0)(hk:k<25){H:List HP}{h:Hl}(s:bN (eY T U bs W::H) h):bN (iq T U (bs.getD k 0) (W.getD k [])::fM T U bs W k::H) h:=by
 have:=xC hk s
 rwa [qQ h6]at this
theorem Jx{T U:Nat}{bs:List Nat}{W:List (List (List UInt8))}{k:Nat}(h6: ¬k%6=0)(hk:k<25){H:List HP}{h:Hl}(s:bN (iq T U (bs.getD k 0) (W.getD k [])::fM T U bs W k::H) h):bN (eY T U bs W::H) h:=by
 refine u9 (W:=W) hk (λ_ _=>rfl) ?_;rw[qQ h6];exact s
end Leg
end

section
namespace Go.Proofs.YtmcjhkbcmmddgaaGreat
open Go Leg Codec Api Dsk Wal
theorem AM(n:Nat)(bs:List Nat)(W:List (List (List UInt8)))(hsm: ∀k,k<25→lX W k+(W.getD k []).length≤1000000000):
 DT 35 #[(.pointer (some ⟨n,0,none⟩))] T0 [an n (dF bs) 110,eY 160 5 bs (W)] (RI (.int .i64 ((lX W 25:Nat):Int)) [an n (dF bs) 110,eY 160 5 bs W]):=by
 refine BD 28 Tryz.func35 rfl rfl rfl λw0 F hF=>sr λ_ J1=>PS ?_
 refine nx J1 (sr λ_ J2=>PS ?_);refine nx J2 (aa λ_ J3=>sr λ_ J4=>P2 ?_);refine FA 0 Tryz.underlying110 FL ?_;refine tp (aL (vs:=dF bs) rfl Lc rfl FL rfl (RO 0) (zf bs) (wg (zf bs))) ?_;refine PS ?_;refine nx J4 (av ?_)
 refine bG (α:=(Nat)) (λi=>i≤5) (λi=>[(2,(.int .i64 0)),(3,(.int .i64 (((lX W (i*5):Nat):Int)))),(11,(.agg (dF bs).toArray)),(12,(.int .i64 (((i:Nat):Int))))]) (λi=>[an n (dF bs) 110,eY 160 5 bs (W)]) (λi=>5-i) 0
  (aP _) SB
  (λ_ s=>s) (λi hinv=>?_)
 obtain hi:=hinv;refine sr λ_ J5=>PS ?_
 refine aq ?_ ?_<;>intro h13;refine nx J5 (aa λ_ J6=>CY (qx J6 (aa λ_ J7=>av (sr λ_ J8=>tp (Qg (cs:=dF bs) (vs:=sO bs i) (r:=i*5) rfl Lc JK rfl BN rfl rfl (by omega) (by omega) (by omega) (Iy bs (by omega))) ?_))));refine XA OY λb5=>?_
 refine bR (vs:=sO bs i) (i:=0) (ab rfl) rfl rfl rfl rfl rfl (by rw[ot bs i];exact BN) (Ix bs i) rfl rfl (by rw[ot bs i];exact aM _) (jq (Eq.trans (rfl:_=5) (by rw[ot bs i]:(sO bs i).length=5).symm)) rfl (nx J8 (sr λ_ J9=>tp (aL (vs:=sO bs i) rfl JK rfl BN rfl (RO 0) (ot bs i) (wg (ot bs i))) ?_));refine PS ?_;refine nx J9 (av ?_)
 refine bG (α:=(Nat)) (λj=>j≤5) (λj=>[(2,(.int .i64 0)),(3,(.int .i64 (((lX W (i*5+j):Nat):Int)))),(11,(.agg (dF bs).toArray)),(12,(.int .i64 (((i:Nat):Int)))),(15,(.agg (sO bs i).toArray)),(16,(.int .i64 (((j:Nat):Int))))]) (λj=>[an n (dF bs) 110,eY 160 5 bs (W)]) (λj=>5-j) 0
  (aP _) SB
  (λ_ s=>ao [1,1] rfl s) (λj hinv=>?_)
 obtain hj:=hinv;refine sr λ_ J10=>PS ?_
 refine aq ?_ ?_<;>intro h17;refine nx J10 (aa λ_ J11=>CY (qx J11 (aa λ_ J12=>av (sr λ_ J13=>tp (sj (cs:=sO bs i) (v:=II bs (i*5+j)) (r:=j) rfl JK xM rfl FM rfl rfl (by omega) (by omega) (by omega) (FO bs i (by omega))) ?_))));refine PS ?_;refine nx J13 (sr λ_ J14=>PS ?_);refine tp (PV.ptrNeIf rfl xM rfl rfl) ?_;refine bh ?_ ?_<;>intro h20;have h20: ¬((i*5+j)%6=0):=by simpa using h20
 refine TL.weak (L':=[(2,(.int .i64 0)),(3,(.int .i64 (((lX W (i*5+j):Nat):Int)))),(7,(.pointer (some ⟨(bs.getD (i*5+j) 0),0,none⟩))),(11,(.agg (dF bs).toArray)),(12,(.int .i64 (((i:Nat):Int)))),(15,(.agg (sO bs i).toArray)),(16,(.int .i64 (((j:Nat):Int)))),(17,(.bool true)),(18,(II bs (i*5+j))),(19,(II bs (i*5+j))),(20,(.bool true))]) (bJ rfl rfl (bJ rfl rfl (bJ rfl (if_neg h20) (bJ rfl rfl (bJ rfl rfl (bJ rfl rfl (bJ rfl rfl (bJ rfl rfl (bJ rfl rfl (bJ rfl rfl (bJ rfl rfl SB))))))))))) (λ_ s=>s) (cB (H':=[iq 160 5 (bs.getD (i*5+j) 0) (W.getD (i*5+j) []),fM 160 5 bs W (i*5+j),an n (dF bs) 110]) (λ_ s=>Jy h20 (by omega) (aE [1] rfl s)) (nx J14 (CY (ag (P2 ?_)))));refine CE Cw (jG (bs.getD (i*5+j) 0) (W.getD (i*5+j) [])) ID ?_;refine tp (cG (r:=((lX W (i*5+j)+(W.getD (i*5+j) []).length:Nat):Int)) rfl rfl rfl (by rw[←Int.natCast_add];exact bO (by omega) (by have:=hsm (i*5+j) (by omega);omega))) ?_;refine PS ?_;refine ax (ah (af J12 (ag (AD ?_))));refine PS ?_;refine ax ?_
 exact aN ((j+1):(Nat)) (by omega) (by show 5- (j+1)<5-j;omega)
  (aW (bJ rfl (by rw[show lX W (i*5+(j+1))=lX W (i*5+j)+(W.getD (i*5+j) []).length from by rw[←pS,rK,if_neg h20]]) SB))
  (λ_ s=>aE [1,0] rfl (Jx h20 (by omega) (ao [0,0,0] rfl s)))
 refine nx J14 (CN (aT (ah (af J12 (ag (AD ?_))))));refine PS ?_;refine ax ?_
 exact aN ((j+1):(Nat)) (by omega) (by show 5- (j+1)<5-j;omega)
  (aW (bJ rfl (by rw[show lX W (i*5+(j+1))=lX W (i*5+j)from by rw[←pS,rK,if_pos (by simpa using h20),JN]]) SB))
  (λ_ s=>s)
 refine nx J10 (aa λ_ J15=>CN (bg (aC (aC (bD (ah (af J7 (ag (AD ?_)))))))));refine PS ?_;refine ax ?_
 exact aN ((i+1):(Nat)) (by omega) (by show 5- (i+1)<5-i;omega)
  (aW (bJ rfl (by rw[show(i+1)*5=i*5+j by omega]) SB))
  (λ_ s=>s)
 refine nx J5 (aa λ_ J16=>CN (bg (aC (aC (bD (af J3 (sr λ_ J17=>P2 ?_)))))));refine nx J17 (ak (WK [0,0] (aw rfl rfl ?_)));exact⟨by rw[show i*5=25 by omega],rfl⟩
theorem Cz(n:Nat)(W:List (List (List UInt8)))(hsm: ∀k,k<25→lX W k+(W.getD k []).length≤1000000000):DT 35 #[.pointer (some ⟨n,0,none⟩)] T0 [eP 110 160 5 n W] (RI (.int .i64 ((lX W 25:Nat):Int)) [eP 110 160 5 n W]):=
 Leg.Does.pack (B:=[]) λbs=>Leg.Does.fold (AM n bs W hsm) λe H hp=>by
  cases e with
  |returned v=>
   obtain⟨rfl,rfl⟩:=hp;exact⟨[eP 110 160 5 n W],λ_ s=>br (p:=λbs:List Nat=>[an n (dF bs) 110,eY 160 5 bs W]) (H:=[]) bs s,rfl,rfl⟩
  |panicked c=>exact hp.elim
  |outgrown=>exact hp.elim
theorem Jz{T U:Nat}{bs:List Nat}{b:Nat}(h: ¬bs.length%6=0):pn T U (bs++[b]) bs.length=iq T U b []:=by
 unfold pn;rw[if_neg h,List.getD_eq_getElem?_getD,List.getElem?_append_right (aM _),yE];rfl
theorem Fx{T U:Nat}{bs:List Nat}{b:Nat}(hl: ¬bs.length%6=0){H:List HP}{h:Hl}(s:bN (iq T U b []::kD T U bs::H) h):bN (kD T U (bs++[b])::H) h:=va T U bs b (by rw[Jz hl];exact s)
theorem Cy:
 DT 23 #[] T0 [] (dL (λv H=>∃n,v= .pointer (some ⟨n,0,none⟩)∧H=[eP 110 160 5 n (List.replicate 25 [])])):=by
 refine Leg.Does.body (vs:=[]) (n:=26) Tryz.func23 rfl rfl rfl (λw0 F hF=>?_);refine sr λ_ J1=>?_
 refine pN ?_;refine nx J1 ?_;refine sr λ_ J2=>?_
 refine tp (kn (cells:=#[(.pointer none),(.pointer none),(.pointer none),(.pointer none),(.pointer none),(.pointer none),(.pointer none),(.pointer none),(.pointer none),(.pointer none),(.pointer none),(.pointer none),(.pointer none),(.pointer none),(.pointer none),(.pointer none),(.pointer none),(.pointer none),(.pointer none),(.pointer none),(.pointer none),(.pointer none),(.pointer none),(.pointer none),(.pointer none)]) rfl rfl (by as_aux_lemma=>kernel_rfl)) ?_;refine TL.box (ab rfl) rfl rfl rfl rfl (λb5=>?_);change TL _ _ _ _ _ _ _ _ _ [an b5 [(.pointer none),(.pointer none),(.pointer none),(.pointer none),(.pointer none),(.pointer none),(.pointer none),(.pointer none),(.pointer none),(.pointer none),(.pointer none),(.pointer none),(.pointer none),(.pointer none),(.pointer none),(.pointer none),(.pointer none),(.pointer none),(.pointer none),(.pointer none),(.pointer none),(.pointer none),(.pointer none),(.pointer none),(.pointer none)] 110];refine pN ?_;refine nx J2 ?_;refine aa λ_ J3=>?_
 refine sr λ_ J4=>?_
 refine mv ?_;refine nx J4 ?_;refine av ?_
 refine bG (α:=(Nat)×(List Nat)) (λ⟨i,bs⟩=>i≤5∧bs.length=i*5) (λ⟨i,bs⟩=>[(0,(.pointer none)),(1,(.pointer (some ⟨b5,0,none⟩))),(6,(.int .i64 (((i:Nat):Int))))]) (λ⟨i,bs⟩=>[an b5 (lT (bs)) 110,kD 160 5 (bs)]) (λ⟨i,bs⟩=>5-i) (0,[])
  ⟨aP _,rfl⟩ (aW (aW (bJ rfl (by congr 1) (M1 _))))
  (λ_ s=>aE [1,0] rfl (Fu 160 5 s)) (λ⟨i,bs⟩ hinv=>?_)
 obtain⟨hi,hbs⟩:=hinv;refine sr λ_ J5=>?_
 refine tp (PV.lss rfl rfl rfl) ?_;refine aq (λh7=>?_) (λh7=>?_);refine nx J5 ?_;refine aa λ_ J6=>?_
 refine nE rfl ?_;refine aT ?_;refine af J6 ?_;refine aa λ_ J7=>?_
 refine av ?_;refine sr λ_ J8=>?_
 refine mv ?_;refine pN ?_;refine nx J8 ?_;refine sr λ_ J9=>?_
 refine mv ?_;refine nx J9 ?_;refine av ?_
 refine bG (α:=(Nat)×(List Nat)) (λ⟨j,bs2⟩=>j≤5∧bs2.length=i*5+j) (λ⟨j,bs2⟩=>[(0,(.pointer none)),(1,(.pointer (some ⟨b5,0,none⟩))),(2,(.int .i64 (((i:Nat):Int)))),(6,(.int .i64 (((i:Nat):Int)))),(9,(.int .i64 (((j:Nat):Int))))]) (λ⟨j,bs2⟩=>[an b5 (lT (bs2)) 110,kD 160 5 (bs2)]) (λ⟨j,bs2⟩=>5-j) (0,bs)
  ⟨aP _,hbs⟩ (aW (aW (aW (aW (bJ rfl (by congr 1) (M1 _))))))
  (λ_ s=>s) (λ⟨j,bs2⟩ hinv=>?_)
 obtain⟨hj,hbl⟩:=hinv;refine sr λ_ J10=>?_
 refine tp (PV.lss rfl rfl rfl) ?_;refine aq (λh10=>?_) (λh10=>?_);refine nx J10 ?_;refine aa λ_ J11=>?_
 refine nE rfl ?_;refine aT ?_;refine af J11 ?_;refine aa λ_ J12=>?_
 refine av ?_;refine sr λ_ J13=>?_
 refine mv ?_;refine pN ?_;refine nx J13 ?_;refine sr λ_ J14=>?_
 refine mv ?_;refine mv ?_;refine tp (PV.neq rfl rfl rfl) ?_;refine aq (λh14=>?_) (λh14=>?_);refine nx J14 ?_;refine nE rfl ?_;refine r9 (λw=>Frm F w∧True) el rfl (λ_ s=>⟨fC s,trivial⟩) ?_;refine ta 0 rfl (j8 rfl rfl) ?_;refine ta 1 rfl (j8 rfl rfl) ?_;refine ta 2 rfl (j8 rfl rfl) ?_;refine ta 4 rfl (gJ rfl rfl) ?_;refine ta 5 rfl (bl (r:=0) rfl Tryz.underlying110 rfl FL rfl rfl) ?_;refine ta 6 rfl (nX (r:=i*5) rfl Lc BN rfl rfl (by omega) (by omega) (by omega)) ?_;refine cQ [3] (by kernel_rfl) rfl ?_;refine aH rfl ?_ ?_;refine li (A:=[]) (ab rfl) rfl rfl rfl Pz rfl (Dw) (λ_ s=>s) (λ_ _ _=>trivial) (λvR HR hR=>?_);obtain⟨bx,rfl,rfl⟩:=hR;change TL _ _ _ _ _ _ _ _ _ [iq 160 5 bx [],an b5 (lT (bs2)) 110,kD 160 5 (bs2)];refine ax ?_;refine vh (λ_ s=>⟨fC s,trivial⟩) ?_;refine ta 7 rfl (nX (r:=i*5+j) rfl JK FM rfl rfl (by omega) (by omega) (by omega)) ?_;refine cQ [8] (by kernel_rfl) rfl ?_;refine aH rfl ?_ ?_;refine cd (i:=1) (H':=[iq 160 5 bx [],an b5 (lT (bs2++[bx])) 110,kD 160 5 (bs2)]) (ab rfl) rfl rfl rfl rfl rfl FM rfl rfl (by rw[zg];omega) (by rw[show i*5+j=bs2.length by omega];exact G0 (by omega) (by omega)) rfl ?_;refine ax ?_;refine vh (λ_ s=>⟨fC s,trivial⟩) ?_;refine TD.done (by kernel_rfl) ?_;refine ah ?_;refine af J12 ?_;refine ag ?_;refine tp (cG rfl rfl rfl (bO (by omega) (by omega))) ?_;refine mv ?_;refine ax ?_
 exact aN ((j+1,bs2++[bx]):(Nat)×(List Nat)) ⟨by omega,by rw[aj,gW];omega⟩ (by show 5- (j+1)<5-j;omega)
  (aW (aW (aW (aW (bJ rfl (by simp) (M1 _))))))
  (λ_ s=>show bN [an b5 (lT (bs2++[bx])) 110,kD 160 5 (bs2++[bx])] _ from aE [1,0] rfl (Fx (by omega) (ao [0,1,0] rfl s)))
 exact bL;exact bL;refine nx J14 ?_;refine Gk rfl ?_;refine aT ?_;refine ah ?_;refine af J12 ?_;refine ag ?_;refine tp (cG rfl rfl rfl (bO (by omega) (by omega))) ?_;refine mv ?_;refine ax ?_
 exact aN ((j+1,bs2++[0]):(Nat)×(List Nat)) ⟨by omega,by rw[aj,gW];omega⟩ (by show 5- (j+1)<5-j;omega)
  (aW (aW (aW (aW (bJ rfl (by simp) (M1 _))))))
  (λ_ s=>show bN [an b5 (lT (bs2++[0])) 110,kD 160 5 (bs2++[0])] _ by rw[Ew (by omega)];exact aE [1,0] rfl (Dv 160 5 bs2 (by omega) (aE [1,0] rfl s)))
 refine nx J10 ?_;refine aa λ_ J15=>?_
 refine Gk rfl ?_;refine bg ?_;refine aC ?_;refine aC ?_;refine bD ?_;refine ah ?_;refine af J7 ?_;refine ag ?_;refine tp (cG rfl rfl rfl (bO (by omega) (by omega))) ?_;refine mv ?_;refine ax ?_
 exact aN ((i+1,bs2):(Nat)×(List Nat)) ⟨by omega,by omega⟩ (by show 5- (i+1)<5-i;omega)
  (aW (aW (bJ rfl (by simp) (M1 _))))
  (λ_ s=>s)
 refine nx J5 ?_;refine aa λ_ J16=>?_
 refine Gk rfl ?_;refine bg ?_;refine aC ?_;refine aC ?_;refine bD ?_;refine af J3 ?_;refine sr λ_ J17=>?_
 refine mv ?_;refine pN ?_;refine nx J17 ?_;refine ak ?_;refine aG (H':=[eP 110 160 5 b5 (List.replicate 25 [])]) (dP _) (λ_ s=>br (p:=λbs:List Nat=>[an b5 (dF bs) 110,eY 160 5 bs (List.replicate 25 [])]) (H:=[]) bs (by rw[←G1 (by omega),←Fw (by omega)];exact s)) ?_;refine aw rfl rfl ?_;exact⟨b5,rfl,rfl⟩
end Go.Proofs.YtmcjhkbcmmddgaaGreat
end

section
namespace Leg
open Go Codec Api
def e8(n:Nat)(D M P:Nat→Value):List Value:= .pointer (some ⟨n,0,none⟩)::((List.range 5).map D++((List.range 5).map M++(List.range 5).map P))
section
variable (n:Nat) (D M P:Nat→Value) {i:Nat}
theorem rT:(e8 n D M P).length=16:=by simp[e8]
theorem A7:(e8 n D M P)[0]?=some (.pointer (some ⟨n,0,none⟩)):=rfl
theorem Fm(h:i<5):(e8 n D M P)[1+i]?=some (D i):=by
 rw[mn,e8,List.getElem?_cons_succ,List.getElem?_append_left (by simpa using h)];simp[h]
theorem xz(h:i<5):(e8 n D M P)[6+i]?=some (M i):=by
 rw[show 6+i=(5+i)+1 by omega,e8,List.getElem?_cons_succ,List.getElem?_append_right (by simp),List.getElem?_append_left (by simp;omega)];simp[h]
theorem Oh(h:i<5):(e8 n D M P)[11+i]?=some (P i):=by
 rw[show 11+i=(10+i)+1 by omega,e8,List.getElem?_cons_succ,List.getElem?_append_right (by simp;omega),List.getElem?_append_right (by simp;omega)];simp only[bW,JP];rw[show 10+i-5-5=i by omega];simp[h]
end
def nI{α:Type}(f:Nat→α)(i:Nat)(v:α):Nat→α:=λj=>if j=i then v else f j
theorem lN{α:Type}(f:Nat→α)(i:Nat)(v:α):nI f i v i=v:=if_pos rfl
theorem pZ{α:Type}(f:Nat→α){i j:Nat}(v:α)(h:j≠i):nI f i v j=f j:=if_neg h
theorem AR{α:Type}(f:Nat→α){i k:Nat}(h:i<k)(v:α):((List.range k).map f).set i v=(List.range k).map (nI f i v):=by
 refine List.ext_getElem? λj=>?_
 by_cases hj:j=i
 · subst hj
   rw[List.getElem?_set_self (by simpa using h)];simp[h,lN]
 · rw[List.getElem?_set_ne (λe=>hj e.symm)]
   by_cases hk:j<k
   · simp[hk,pZ f v hj]
   · simp[hk]
section
variable (n:Nat) (D M P:Nat→Value) {i:Nat} (v:Value)
theorem KZ(h:i<5):(e8 n D M P).set (1+i) v=e8 n (nI D i v) M P:=by
 rw[mn,e8,bU,qG _ _ (by simpa using h),AR D h];rfl
theorem vK(h:i<5):(e8 n D M P).set (6+i) v=e8 n D (nI M i v) P:=by
 rw[show 6+i=(5+i)+1 by omega,e8,bU,gV _ _ (by simp),qG _ _ (by simp;omega)];simp only[bW,JP];rw[show 5+i-5=i by omega,AR M h];rfl
theorem Gf(h:i<5):(e8 n D M P).set (11+i) v=e8 n D M (nI P i v):=by
 rw[show 11+i=(10+i)+1 by omega,e8,bU,gV _ _ (by simp;omega),gV _ _ (by simp;omega)];simp only[bW,JP];rw[show 10+i-5-5=i by omega,AR P h];rfl
end
abbrev Nh(c i:Nat):Value:= .agg #[.pointer (some ⟨c,0,none⟩), .int .i64 ((i:Nat):Int)]
end Leg
namespace Go.Proofs.YtmcjhkbcmmddgaaGreat
open Go Leg Codec Api Dsk Wal
section
variable {CT NT BT U c n d i:Nat} {D M P:Nat→Value} {W:List (List (List UInt8))} {recs:List (List UInt8)} {l:List SaidT} {H:List HP} {h:Hl}
end
end Go.Proofs.YtmcjhkbcmmddgaaGreat
end

section
namespace Api
open Go Leg Codec Dsk Wal
structure MS(δ:Type) where
 id:Int
 view:ViewT
 own:RowT
 mirror:MirT
 acc:AccT
 round:Int
 vote:Option VoteT
 book:BookT
 busy:Bool
 kept:Int
 waits:Int
 ops:Int
 replies:List ReplyT
 told:Vector Int 5
 last:Vector RowT 5
 e:δ
 o:List SaidT
structure Adr where
 lg:Nat
 vo:Value
 rs:Value
structure Dk(δ:Type) where
 pt:δ→List UInt8→δ×Int
 dn:δ→Bool
 ok:δ→Prop
 sure: ∀(e:δ) (bs:List UInt8),ok e→bs.length≤3000→ok (pt e bs).1
variable {δ:Type}
abbrev MS.rep(s:MS δ)(a:Adr):RepT:=⟨s.id, .pointer (some ⟨a.lg,0,none⟩),s.view,s.own,s.mirror,s.acc,s.round,a.vo,s.book,s.busy,s.kept,s.waits,s.ops,a.rs,s.told,s.last⟩
def MS.setView(s:MS δ)(v:ViewT):MS δ:= {s with view:=v}
def MS.setOwn(s:MS δ)(v:RowT):MS δ:= {s with own:=v}
def MS.setAcc(s:MS δ)(v:AccT):MS δ:= {s with acc:=v}
def MS.setRound(s:MS δ)(v:Int):MS δ:= {s with round:=v}
def MS.setBusy(s:MS δ)(v:Bool):MS δ:= {s with busy:=v}
def MS.setKept(s:MS δ)(v:Int):MS δ:= {s with kept:=v}
def MS.setWaits(s:MS δ)(v:Int):MS δ:= {s with waits:=v}
def MS.setOps(s:MS δ)(v:Int):MS δ:= {s with ops:=v}
def MS.setTold(s:MS δ)(v:Vector Int 5):MS δ:= {s with told:=v}
def MS.setLast(s:MS δ)(v:Vector RowT 5):MS δ:= {s with last:=v}
def Adr.nil:Adr:=⟨0, .pointer none, .slice none 0 0⟩
def cn(w:Int):Int:=IntKind.i64.wrap (1*2^min w.toNat IntKind.i64.bits)
def xg(a b:BallotT):Bool:=if a.round≠b.round then decide (a.round<b.round)else decide (a.who<b.who)
def qz(a:AccT)(ep:Int)(b:BallotT):Bool:=decide (ep≠a.epoch)||(decide (b.round<1)||xg b a.vow)
def bC(a:AccT)(ep:Int)(b:BallotT):AccT×Bool:=if qz a ep b then(a,false)else({a with vow:=b},true)
def fP(a:AccT)(ep:Int)(b:BallotT)(c:ChangeT):AccT×Bool:=if qz a ep b then(a,false)else({a with vow:=b,had:=b,change:=c},true)
def kJ(bits:Int)(k:Nat):List Int:=((List.range k).filter λi:Nat=>j7 bits ((i:Nat):Int)).map λi:Nat=>((i:Nat):Int)
def x7(bits:Int):List Int:=kJ bits 5
def I8(part all:Int):Bool:=decide (2* (((x7 (qU .i64 part all)).length:Nat):Int)>(((x7 all).length:Nat):Int))
def dY(v:ViewT)(bits:Int):Bool:=I8 bits v.members
def iA(v:ViewT)(b:BallotT)(c:ChangeT):VoteT:= {VoteT.zero with view:=v,ballot:=b,change:=c}
def kU(v:VoteT)(who:Int)(b:BallotT):Bool:=decide (b.flat=v.ballot.flat)&&gA v.view who
def cN(v:VoteT)(who:Int)(had:BallotT)(c:ChangeT):VoteT:=
 if decide (0<had.round)&&xg v.best had then {v with vowed:=gH .i64 v.vowed (cn who),best:=had,change:=c}else {v with vowed:=gH .i64 v.vowed (cn who)}
def dT(v:VoteT)(who:Int)(b had:BallotT)(c:ChangeT):VoteT×Bool:=
 if v.putting|| !kU v who b then(v,false)else({cN v who had c with putting:=dY v.view (gH .i64 v.vowed (cn who))},dY v.view (gH .i64 v.vowed (cn who)))
def fl(v:VoteT)(who:Int)(b:BallotT):VoteT×Bool:=
 if !v.putting|| !kU v who b then(v,false)else({v with took:=gH .i64 v.took (cn who)},dY v.view (gH .i64 v.took (cn who)))
def oV(x:RowT)(who v:Int)(l:Vector CellT 4):RowT:=if h:cw who=true then {x with heir:=x.heir.set who.toNat v (fK h),left:=x.left.set who.toNat l (fK h)}else x
def xh(x:RowT)(who:Int):Vector CellT 4:=if h:cw who=true then x.left[who.toNat]'(fK h)else RowT.zero.cells
def nQ(who:Int)(dead:RowT)(x:RowT)(i:Nat):RowT:=if((i:Nat):Int)≠who∧0<gp dead ((i:Nat):Int)∧gp x ((i:Nat):Int)=0 then oV x ((i:Nat):Int) (gp dead ((i:Nat):Int)) (xh dead ((i:Nat):Int))else x
def oz(x:RowT)(who:Int)(dead:RowT)(k:Nat):RowT:=(List.range k).foldl (nQ who dead) (oV x who (gX (dead.version+1)) dead.cells)
def dU(x:RowT)(who:Int)(dead:RowT):RowT×Int:=
 if !cw who then(.zero,5)else if 0<gp x who then(.zero,8)else({oz x who dead 5 with version:=gX ((oz x who dead 5).version+1)},0)
def rl(s:MS δ)(who:Int):Int:=if h:cw who=true then s.told[who.toNat]'(fK h)else 0
def n5(s:MS δ)(who:Int):RowT:=if h:cw who=true then s.last[who.toNat]'(fK h)else .zero
def B6{α:Type}(v:Vector α 5)(w:Int)(x:α):Vector α 5:=if h:cw w=true then v.set w.toNat x (fK h)else v
def lY(s:MS δ)(who:Int)(y:RowT):MS δ:= {s with last:=if rl s who=0∨(n5 s who).version<y.version then B6 s.last who y else s.last}
def uC(s:MS δ)(from' who:Int)(y:RowT):MS δ:= {lY s who y with told:=B6 s.told who (gH .i64 (rl s who) (cn from'))}
def we(s:MS δ)(who w:Int):Bool:=decide ((rl s who).fdiv (2^min w.toNat IntKind.i64.bits)%2=1)
def Dc(s:MS δ)(i:Nat):Bool:=decide (lx s.view ((i:Nat):Int)=some s.id)&&decide (gp s.own ((i:Nat):Int)≤0)
def iI(s:MS δ)(k:Nat):List Int:=((List.range k).filter (Dc s)).map λi:Nat=>((i:Nat):Int)
def bF(s:MS δ):List Int:=iI s 5
def vC(s:MS δ):Bool:=(bF s).all λi=>(iy i).all λw=>we s i w
def ql(s:MS δ)(l:List Int):RowT:=l.foldl (λx i=>if 0<gp x i then x else(dU x i (n5 s i)).1) s.own
def fI(v:ViewT):MsgT:= {MsgT.zero with kind:=7,view:=v}
def iz(i:Int)(v:ViewT):MsgT:= {MsgT.zero with kind:=8,whose:=i,view:=v}
def fm(ep:Int)(b:BallotT):MsgT:= {MsgT.zero with kind:=3,epoch:=ep,ballot:=b}
def fc(ep:Int)(b had:BallotT)(c:ChangeT):MsgT:= {MsgT.zero with kind:=4,epoch:=ep,ballot:=b,had:=had,change:=c}
def ff(ep:Int)(b:BallotT)(c:ChangeT):MsgT:= {MsgT.zero with kind:=5,epoch:=ep,ballot:=b,change:=c}
def eU(ep:Int)(b:BallotT):MsgT:= {MsgT.zero with kind:=6,epoch:=ep,ballot:=b}
def fk(ep:Int)(b:BallotT):RecT:= {RecT.zero with kind:=3,epoch:=ep,ballot:=b}
def gE(ep:Int)(b:BallotT)(c:ChangeT):RecT:= {RecT.zero with kind:=4,epoch:=ep,ballot:=b,change:=c}
def dp(s:MS δ)(n:Int):MS δ:= {s with round:=n}
def jr(s:MS δ)(v:VoteT):MS δ:= {s with vote:=some v}
def tC(s:MS δ)(a:AccT):MS δ:= {s with acc:=a}
variable (K:Dk δ)
def iN(s:MS δ)(l:List SaidT):MS δ:= {s with o:=if K.dn s.e then s.o else s.o++l}
def x8(s:MS δ)(to':Int)(m:MsgT):MS δ:=iN K s [⟨to',m⟩]
theorem qb(s:MS δ):iN K s []=s:=by
 unfold iN;rw[aU,ite_self]
theorem It(s:MS δ)(a b:List SaidT):iN K (iN K s a) b=iN K s (a++b):=by
 unfold iN
 by_cases h:K.dn s.e=true<;>simp[h]
def lw(f:MS δ→MS δ)(s:MS δ)(to':Int)(m:MsgT):MS δ:=if to'=s.id then f s else x8 K s to' m
def dE(s:MS δ)(r:RecT):MS δ:= {s with e:=(K.pt s.e (dZ r)).1}
def qS(s:MS δ)(r:RecT):Int:=(K.pt s.e (dZ r)).2
def dK(s:MS δ)(op err val:Int):MS δ:= {s with replies:=s.replies++[⟨op,err,val⟩]}
def fz(s:MS δ):MS δ:=iN K s (pu (s.rep .nil))
def nf(id:Int)(m:MsgT)(p:Nat→Bool)(k:Nat):List SaidT:=((List.range k).filter λi:Nat=> !decide (((i:Nat):Int)=id)&&p i).map λi:Nat=>⟨((i:Nat):Int),m⟩
theorem je(id:Int)(m:MsgT)(p:Nat→Bool)(k:Nat):nf id m p (k+1)=nf id m p k++(if((k:Nat):Int)≠id∧p k=true then [⟨((k:Nat):Int),m⟩]else []):=by
 unfold nf;rw[cX,List.filter_append,cL]
 by_cases h:((k:Nat):Int)=id<;>by_cases h2:p k=true<;>simp[h,h2]
def lC(s:MS δ)(y:RowT):MS δ:=iN K s (nf s.id (qM s.id y) (λ_=>true) 5)
def lB(s:MS δ)(v:ViewT):MS δ:=iN K s (nf s.id (fI v) (λ_=>true) 5)
def s6(s:MS δ)(x:RowT)(op:Int):MS δ:= {s with own:=x,busy:=true,kept:=0,waits:=op}
def e9(s:MS δ)(x:RowT)(op:Int):MS δ×Int:=if qS K s (kC x)≠0 then(dE K s (kC x),qS K s (kC x))else(fz K (s6 (dE K s (kC x)) x op),0)
def lZ(s:MS δ):MS δ:=if s.busy||decide ((bF s).length=0)then s else if vC s then(e9 K s (ql s (bF s)) 0).1 else s
def hJ(s:MS δ):MS δ:= {s with busy:=false,book:=(gk s.book s.id s.own).1}
def lM(s:MS δ):MS δ:= {s with replies:=if 0<s.waits then s.replies++[⟨s.waits,0,0⟩]else s.replies,waits:=if 0<s.waits then 0 else s.waits}
theorem yL{s:MS δ}(h:0<s.waits):lM s= {dK s s.waits 0 0 with waits:=0}:=by unfold lM;rw[if_pos h,if_pos h];rfl
theorem yM{s:MS δ}(h: ¬0<s.waits):lM s=s:=by unfold lM;rw[if_neg h,if_neg h]
def ld(s:MS δ):MS δ:=lZ K (lC K (lM (hJ s)) s.own)
def lF(s:MS δ)(from' ver:Int):Bool:=s.busy&&(decide (ver=s.own.version)&&decide (from'∈iy s.id))
def xp(s:MS δ):Bool:=(iy s.id).all λw=> !Bh s.kept w
def iY(s:MS δ)(from':Int):MS δ:= {s with kept:=gH .i64 s.kept (cn from')}
def dy(s:MS δ)(from':Int)(m:MsgT):MS δ:=if lF s from' m.version then(if xp (iY s from')then ld K (iY s from')else iY s from')else s
def Dy(s:MS δ)(w:Int)(y:RowT):MS δ:= {s with book:=(gk s.book w y).1}
def iO(s:MS δ)(w:Int)(y:RowT):MS δ:= {s with mirror:=(mJ s.mirror w y).1}
def iE(s:MS δ)(from':Int)(m:MsgT):MS δ:=
 if m.whose≠from'∨gL s.mirror m.whose=true then s
 else if lW s.mirror m.whose m.row then(if qS K s (j6 m.whose m.row)≠0 then dE K s (j6 m.whose m.row)else x8 K (iO (dE K s (j6 m.whose m.row)) m.whose m.row) from' (qO (eI (iO (dE K s (j6 m.whose m.row)) m.whose m.row).mirror m.whose).version))
 else x8 K s from' (qO (eI s.mirror m.whose).version)
def fD(s:MS δ)(from':Int)(m:MsgT):MS δ:=lZ K (if from'∈iy m.whose then uC s from' m.whose m.row else s)
def lG(s:MS δ)(w:Int):MS δ:= {s with mirror:=oy s.mirror w}
def fh(s:MS δ)(from' w:Int):MS δ:=
 let back:=λs:MS δ=>lw K (λs=>fD K s s.id (hY w (eI s.mirror w))) s from' (hY w (eI s.mirror w))
 if lx s.view w≠some from' then s
 else if gL s.mirror w then back s
 else if qS K s (ji w)≠0 then dE K s (ji w)else back (lG (dE K s (ji w)) w)
def hO(s:MS δ)(i w:Int):MS δ:=if we s i w then s else lw K (λs=>fh K s s.id i) s w (iz i s.view)
def np(s:MS δ)(i:Int):MS δ:=hO K (hO K s i ((i+1)%5)) i ((i+2)%5)
def gq(l:List Int)(s:MS δ):MS δ:=l.foldl (np K) s
def qt(s:MS δ):MS δ:=gq K (bF s) s
def mi(s:MS δ)(v:ViewT):MS δ:= {s with view:=v,acc:= {AccT.zero with epoch:=v.epoch},vote:=none,round:=0}
def nO(s:MS δ)(v:ViewT):Bool:=decide (s.view.epoch<v.epoch)&&decide (qS K s (gg v)=0)
def gm(s:MS δ)(v:ViewT):MS δ:=if v.epoch≤s.view.epoch then s else if qS K s (gg v)≠0 then dE K s (gg v)else qt K (mi (dE K s (gg v)) v)
def kH(s:MS δ)(from':Int)(m:MsgT):MS δ:=fh K (gm K s m.view) from' m.whose
def ky(s:MS δ)(c:ChangeT):MS δ:=if(cm s.view c).2≠0 then s else if nO K s (cm s.view c).1 then lB K (gm K s (cm s.view c).1) (cm s.view c).1 else gm K s (cm s.view c).1
def eT(f:MS δ→MS δ)(s:MS δ)(from':Int)(m:MsgT):MS δ:=
 if m.epoch<s.view.epoch then(if m.kind=3∨m.kind=5 then x8 K s from' (fI s.view)else s)
 else if s.view.epoch<m.epoch∨gA s.view s.id=false then s
 else f (dp s (max s.round m.ballot.round))
def kV(from':Int)(m:MsgT)(s:MS δ):MS δ:=match s.vote with
 |none=>s
 |some vt=>if(fl vt from' m.ballot).2 then ky K (jr s (fl vt from' m.ballot).1) vt.change else(jr s (fl vt from' m.ballot).1)
def p7(s:MS δ)(from':Int)(m:MsgT):MS δ:=eT K (kV K from' m) s from' m
def lR(from':Int)(m:MsgT)(s:MS δ):MS δ:=lw K (λs=>p7 K s s.id (eU m.epoch m.ballot)) s from' (eU m.epoch m.ballot)
def nL(from':Int)(m:MsgT)(s:MS δ):MS δ:=
 if(cm s.view m.change).2≠0 then s else if(fP s.acc m.epoch m.ballot m.change).2=false then s
 else if(fP s.acc m.epoch m.ballot m.change).1.flat≠s.acc.flat then(if qS K s (gE m.epoch m.ballot m.change)≠0 then dE K s (gE m.epoch m.ballot m.change)else lR K from' m (tC (dE K s (gE m.epoch m.ballot m.change)) (fP s.acc m.epoch m.ballot m.change).1))
 else lR K from' m s
def ry(s:MS δ)(from':Int)(m:MsgT):MS δ:=eT K (nL K from' m) s from' m
def iF(s:MS δ)(m:MsgT):MS δ:=iN K s (nf s.id m (λi=>gA s.view ((i:Nat):Int)) 5)
def iV(f:MS δ→MsgT→MS δ)(s:MS δ)(m:MsgT):MS δ:=if gA s.view s.id then f (iF K s m) m else iF K s m
def jw(s:MS δ)(vt:VoteT):MS δ:=iV K (λs m=>ry K s s.id m) s (ff s.view.epoch vt.ballot vt.change)
def oQ(from':Int)(m:MsgT)(s:MS δ):MS δ:=match s.vote with
 |none=>s
 |some vt=>if(dT vt from' m.ballot m.had m.change).2 then jw K (jr s (dT vt from' m.ballot m.had m.change).1) (dT vt from' m.ballot m.had m.change).1 else(jr s (dT vt from' m.ballot m.had m.change).1)
def p8(s:MS δ)(from':Int)(m:MsgT):MS δ:=eT K (oQ K from' m) s from' m
def l3(from':Int)(m:MsgT)(a:AccT)(s:MS δ):MS δ:=lw K (λs=>p8 K s s.id (fc m.epoch m.ballot a.had a.change)) s from' (fc m.epoch m.ballot a.had a.change)
def oH(from':Int)(m:MsgT)(s:MS δ):MS δ:=
 if(bC s.acc m.epoch m.ballot).2=false then s
 else if(bC s.acc m.epoch m.ballot).1.vow.flat≠s.acc.vow.flat then(if qS K s (fk m.epoch m.ballot)≠0 then dE K s (fk m.epoch m.ballot)else l3 K from' m (bC s.acc m.epoch m.ballot).1 (tC (dE K s (fk m.epoch m.ballot)) (bC s.acc m.epoch m.ballot).1))
 else l3 K from' m (bC s.acc m.epoch m.ballot).1 s
def rA(s:MS δ)(from':Int)(m:MsgT):MS δ:=eT K (oH K from' m) s from' m
def k9(s:MS δ)(vt:VoteT):MS δ:=iV K (λs m=>rA K s s.id m) s (fm s.view.epoch vt.ballot)
def nM(s:MS δ)(vt:VoteT):MS δ:=if vt.putting then jw K s vt else k9 K s vt
def dx(s:MS δ):BallotT:=⟨gX (s.round+1),s.id⟩
def qw(s:MS δ)(c:ChangeT):MS δ:=jr (dp (tC (dE K s (fk s.view.epoch (dx s))) (bC s.acc s.view.epoch (dx s)).1) (dx s).round) (iA s.view (dx s) c)
def cD(s:MS δ)(c:ChangeT):MS δ×Int:=
 if(bC s.acc s.view.epoch (dx s)).2=false then(s,6)else if qS K s (fk s.view.epoch (dx s))≠0 then(dE K s (fk s.view.epoch (dx s)),qS K s (fk s.view.epoch (dx s)))else(qw K s c,0)
def gj(s:MS δ)(c:ChangeT):Int:=if(cm s.view c).2=0∧s.vote.isSome=true then 8 else(cm s.view c).2
def dR(s:MS δ)(op:Int)(c:ChangeT):MS δ×Int:=
 if gj s c≠0 then(dK s op (gj s c) 0,gj s c)
 else if(cD K s c).2≠0 then(dK (cD K s c).1 op (cD K s c).2 0,(cD K s c).2)
 else(nM K (dK (cD K s c).1 op 0 0) (iA s.view (dx s) c),0)
def dr(s:MS δ)(o:OpT):RowT×Int×Int:=kK (s.rep .nil) o
def bP(s:MS δ):MS δ:= {s with ops:=gX (s.ops+1)}
def od(s:MS δ)(o:OpT):MS δ×Int:=
 if(dr s o).2.2≠0∨o.kind=3 then(dK s s.ops (dr s o).2.2 (dr s o).2.1,(dr s o).2.2)
 else if(e9 K s (dr s o).1 s.ops).2≠0 then(dK (e9 K s (dr s o).1 s.ops).1 s.ops (e9 K s (dr s o).1 s.ops).2 0,(e9 K s (dr s o).1 s.ops).2)
 else((e9 K s (dr s o).1 s.ops).1,0)
def cb(s:MS δ)(o:OpT):MS δ×Int:=if gA s.view s.id&&decide (o.kind=4)then dR K (bP s) (bP s).ops o.change else od K (bP s) o
def gI(s:MS δ)(from':Int)(m:MsgT):MS δ:=
 if m.kind=0 then iE K s from' m else if m.kind=1 then dy K s from' m else if m.kind=2 then Dy s m.whose m.row
 else if m.kind=7 then gm K s m.view else if m.kind=8 then kH K s from' m else if m.kind=9 then fD K s from' m
 else if m.kind=3 then rA K s from' m else if m.kind=4 then p8 K s from' m else if m.kind=5 then ry K s from' m else if m.kind=6 then p7 K s from' m else s
def bX(s:MS δ):MS δ:=qt K (lZ K (if s.busy=true then fz K s else s))
def cg(s:MS δ):MS δ:=if 1<s.view.epoch then lB K s s.view else s
def gz(s:MS δ):MS δ:=if 0< (cC s.book s.id).version then lC K s (cC s.book s.id)else s
def p4(s:MS δ):MS δ:=match s.vote with
 |none=>s
 |some vt=>if(cm s.view vt.change).2=0 then(if(cD K s vt.change).2=0 then nM K (cD K s vt.change).1 (iA s.view (dx s) vt.change)else(cD K s vt.change).1)else s
def iL(s:MS δ):MS δ:=if gA (cg K (bX K s)).view (cg K (bX K s)).id then p4 K (gz K (cg K (bX K s)))else cg K (bX K s)
def ig(s:MS δ)(m:RecT):MS δ:=
 if m.kind=0 then {s with own:=m.row,busy:=true,kept:=0}
 else if m.kind=1 then iO s m.whose m.row
 else if m.kind=2 then lG s m.whose
 else if m.kind=3 then {s with acc:= {s.acc with vow:=m.ballot},round:=max s.round m.ballot.round}
 else if m.kind=4 then {s with acc:= {s.acc with vow:=m.ballot,had:=m.ballot,change:=m.change},round:=max s.round m.ballot.round}
 else if m.kind=5 then mi s m.view
 else s
def gS:List (List UInt8)→MS δ→Option (MS δ)
 | [],s=>some s
 |b::bs,s=>if(dC b).2≠0 then none else gS bs (ig s (dC b).1)
def FE(id:Int)(e:δ):MS δ:=⟨id, .zero, .zero, .zero, .zero,0,none, .zero,false,0,0,0,[], #v[0,0,0,0,0], #v[RowT.zero,RowT.zero,RowT.zero,RowT.zero,RowT.zero],e,[]⟩
def w6(id:Int)(e:δ):MS δ:=mi (FE id e) firstV
theorem GU{ls:List (List UInt8)}{k:Nat}{s:MS δ}(h:k<ls.length)(g:(dC ls[k]).2≠0):gS (ls.drop k) s=none:=by
 rw[dA h,gS,if_pos g]
theorem IA{ls:List (List UInt8)}{k:Nat}{s:MS δ}(h:k<ls.length)(g: ¬(dC ls[k]).2≠0):gS (ls.drop k) s=gS (ls.drop (k+1)) (ig s (dC ls[k]).1):=by
 rw[dA h,gS,if_neg g]
end Api
end

section
namespace Api
open Go Leg Codec Dsk Wal
theorem oC(m:RecT):(dZ m).length≤3000:=by
 have h1:=iR m.row;have h2:=aY m.ballot.flat;have h4:=aY m.change.flat;have h5:=aY m.view.flat;have h6:=aY [m.kind,m.whose];have h8:=aY [m.kind,m.epoch];have h9:=aY [m.kind];simp only[BallotT.flat,ChangeT.flat,ViewT.flat,az,aB,aA]at h2 h4 h5 h6 h8 h9;unfold dZ
 repeat' split
 all_goals first|omega| (simp only[aj,BallotT.flat,ChangeT.flat,ViewT.flat,aB];omega)
abbrev mY(n:Int):Prop:= -9223372036854775808≤n∧n<9223372036854775808
theorem nF{n:Int}(h:mY n):(Lit.int .i64 n).wf=true:=by
 have m1:IntKind.i64.min= -9223372036854775808:=by decide
 have m2:IntKind.i64.max=9223372036854775807:=by decide
 simp only[Lit.wf,m1,m2,au,decide_eq_true_eq];omega
theorem nH(n:Int):mY (gX n):=by
 unfold gX mY;simp only[IntKind.wrap,IntKind.bits,IntKind.signed];simp;omega
structure CW(c:CellT):Prop where
 inn:mY c.inn
 out:mY c.out
 given: ∀(j:Nat) (h:j<5),mY c.given[j]
class OkRow(y:RowT):Prop where
 version:mY y.version
 cells: ∀(k:Nat) (h:k<4),CW y.cells[k]
 heir: ∀(i:Nat) (h:i<5),mY y.heir[i]
 left: ∀(i k:Nat) (h:i<5) (g:k<4),CW y.left[i][k]
theorem sC{α:Type}{n:Nat}{v:Vector α n}{x:α}(h:x∈v.toList): ∃(j:Nat) (h:j<n),x=v[j]:=by
 obtain⟨j,hj,rfl⟩:=fB h;rw[aA]at hj;exact⟨j,hj,by simp⟩
theorem F1{α:Type}{n:Nat}(v:Vector α n)(j:Nat)(h:j<n):v[j]∈v.toList:=by simp
theorem yK{m:Nat}{v:Vector CellT m}(h: ∀(k:Nat) (h:k<m),CW v[k]):WF (bT v.toList):=λn hn=>by
 obtain⟨c,hc,hn⟩:=kp.1 hn;obtain⟨k,hk,rfl⟩:=sC hc;simp only[CellT.flat,bV]at hn;rcases hn with rfl|rfl|hn
 · exact nF (h k hk).inn
 · exact nF (h k hk).out
 · obtain⟨j,hj,rfl⟩:=sC hn
   exact nF ((h k hk).given j hj)
theorem OkRow.wf{x:RowT}(h:OkRow x):WF x.flat:=λn hn=>by
 simp only[RowT.flat,bV,bA]at hn;rcases hn with rfl|hn|hn|hn
 · exact nF h.version
 · exact yK h.cells n hn
 · obtain⟨j,hj,rfl⟩:=sC hn
   exact nF (h.heir j hj)
 · obtain⟨v,hv,hn⟩:=kp.1 hn
   obtain⟨j,hj,rfl⟩:=sC hv;exact yK (λk hk=>h.left j k hj hk) n hn
abbrev Ou:= @OkRow.wf
theorem CW.of{m:Nat}{v:Vector CellT m}(h:WF (bT v.toList))(k:Nat)(hk:k<m):CW v[k]:=by
 have q: ∀n∈v[k].flat,mY n:=λn hn=>sv (h n (kp.2 ⟨_,F1 v k hk,hn⟩))
 exact⟨q _ (by simp[CellT.flat]),q _ (by simp[CellT.flat]),λj hj=>q _ (by simp[CellT.flat])⟩
theorem OkRow.of{x:RowT}(h:WF x.flat):OkRow x:=
 ⟨sv (h _ (by simp[RowT.flat])),CW.of λn hn=>h n (by simp[RowT.flat,hn]),λi hi=>sv (h _ (by simp[RowT.flat])),
  λi k hi hk=>CW.of (λn hn=>h n (by simp only[RowT.flat,bV,bA,kp];exact .inr (.inr (.inr ⟨_,F1 x.left i hi,hn⟩)))) k hk⟩
class OkVw(v:ViewT):Prop where
 rng:Rng v
 wf:WF v.flat
class OkVt(v:VoteT):Prop where
 view:OkVw v.view
 ballot:WF v.ballot.flat
 change:WF v.change.flat
 best:WF v.best.flat
class OkMg(m:MsgT):Prop where
 row:OkRow m.row
 view:OkVw m.view
 ballot:WF m.ballot.flat
 had:WF m.had.flat
 change:WF m.change.flat
variable {δ:Type}
class OkR(K:outParam (Dk δ))(s:MS δ):Prop where
 e:K.ok s.e
 id:cw s.id=true
 view:OkVw s.view
 own:OkRow s.own
 mir: ∀(i:Nat) (h:i<5),OkRow s.mirror.rows[i]
 book: ∀(i:Nat) (h:i<5),OkRow s.book.rows[i]
 last: ∀(i:Nat) (h:i<5),OkRow s.last[i]
 acc:WF s.acc.flat
 vote: ∀vt,s.vote=some vt→OkVt vt
variable {K:Dk δ}
instance OkRow.zero:OkRow RowT.zero:=OkRow.of tame_rzero.wf
theorem CW.zero:CW .zero:=⟨by decide,by decide,λj hj=>by
 match j,hj with
 |0,_|1,_|2,_|3,_|4,_=>exact⟨(by decide:(-9223372036854775808:Int)≤0),(by decide:(0:Int)<9223372036854775808)⟩⟩
instance {s:MS δ}[h:OkR K s]:OkRow s.own:=h.own
instance {s:MS δ}[h:OkR K s]:OkVw s.view:=h.view
instance {m:MsgT}[h:OkMg m]:OkRow m.row:=h.row
instance {m:MsgT}[h:OkMg m]:OkVw m.view:=h.view
theorem oP{α:Type}{n:Nat}{p:α→Prop}{v:Vector α n}{i:Nat}(hi:i<n){x:α}(h: ∀(j:Nat) (hj:j<n),p v[j])(hx:p x)(j:Nat)(hj:j<n):p (v.set i x hi)[j]:=by
 rw[Vector.getElem_set];split
 · exact hx
 · exact h j hj
instance {s:MS δ}[h:OkR K s](w:Int):OkRow (eI s.mirror w):=by unfold eI;split;exact h.mir _ _;exact .zero
instance {s:MS δ}[h:OkR K s](w:Int):OkRow (cC s.book w):=by unfold cC;split;exact h.book _ _;exact .zero
instance {s:MS δ}[h:OkR K s](w:Int):OkRow (n5 s w):=by unfold n5;split;exact h.last _ _;exact .zero
theorem uy{x:RowT}[h:OkRow x](key:Int):CW (dO x key):=by unfold dO;split;exact h.cells _ _;exact .zero
theorem Hv{x:RowT}[h:OkRow x](i:Int):mY (gp x i):=by unfold gp;split;exact h.heir _ _;exact⟨by decide,by decide⟩
theorem Hp{x:RowT}[h:OkRow x](i:Int)(k:Nat)(hk:k<4):CW (xh x i)[k]:=by unfold xh;split;exact h.left _ _ _ _;exact OkRow.zero.cells k hk
theorem w8{x:RowT}[h:OkRow x]{key n counts:Int}{c:CellT}(hc:CW c):OkRow (lV x key n counts c).1:=by
 unfold lV;split
 · exact .zero
 · refine⟨nH _,λk hk=>?_,λi hi=>?_,λi k hi hk=>?_⟩
   · show CW (lI x key c).cells[k]
     unfold lI;split
     · exact oP (p:=CW) (AT (by assumption)) h.cells hc k hk
     · exact h.cells k hk
   · show mY (lI x key c).heir[i]
     unfold lI;split<;>exact h.heir i hi
   · show CW (lI x key c).left[i][k]
     unfold lI;split<;>exact h.left i k hi hk
instance {x:RowT}[OkRow x](key n:Int):OkRow (qd x key n).1:=by
 unfold qd;split
 · have:=uy (x:=x) key
   exact w8 ⟨nH _,this.out,this.given⟩
 · exact .zero
instance {x:RowT}[OkRow x](key n:Int):OkRow (qe x key n).1:=by
 unfold qe;split
 · have:=uy (x:=x) key
   exact w8 ⟨this.inn,nH _,this.given⟩
 · exact .zero
instance {x:RowT}[OkRow x](key n to':Int):OkRow (mF x key n to').1:=by
 unfold mF;split
 · have:=uy (x:=x) key
   refine w8 ?_;unfold xo;split
   · exact⟨this.inn,this.out,oP (p:=mY) (fK (by assumption)) this.given (nH _)⟩
   · exact this
 · exact .zero
theorem wx{x:RowT}(h:OkRow x){w v:Int}{l:Vector CellT 4}(hv:mY v)(hl: ∀(k:Nat) (h:k<4),CW l[k]):OkRow (oV x w v l):=by
 unfold oV;split
 · exact⟨h.version,h.cells,oP (p:=mY) (fK (by assumption)) h.heir hv,λi k hi hk=>oP (p:=λu:Vector CellT 4=>CW u[k]) (fK (by assumption)) (λj hj=>h.left j k hj hk) (hl k hk) i hi⟩
 · exact h
instance {x d:RowT}[h:OkRow x][g:OkRow d](who:Int):OkRow (dU x who d).1:=by
 have q: ∀k,OkRow (oz x who d k):=λk=>by
  induction k with
  |zero=>exact wx h (nH _) g.cells
  |succ k ih=>
   have e:oz x who d (k+1)=nQ who d (oz x who d k) k:=by unfold oz;rw[cX,fb];rfl
   rw[e];unfold nQ;split
   · exact wx ih (Hv _) (Hp _)
   · exact ih
 unfold dU;split
 · exact .zero
 split
 · exact .zero
 · exact⟨nH _,(q 5).cells,(q 5).heir,(q 5).left⟩
instance {s:MS δ}[h:OkR K s](l:List Int):OkRow (ql s l):=by
 have: ∀(l:List Int) (x:RowT),OkRow x→OkRow (l.foldl (λx i=>if 0<gp x i then x else(dU x i (n5 s i)).1) x):=λl=>by
  induction l with
  |nil=>exact λx hx=>hx
  |cons i l ih=>exact λx hx=>ih _ (by dsimp only;split;exact hx;exact inferInstance)
 exact this l _ h.own
instance {s:MS δ}[h:OkR K s](o:OpT):OkRow (dr s o).1:=by
 have:OkRow (iG (s.rep .nil) o).1:=by
  unfold iG
  repeat' split
  all_goals first|exact .zero|exact inferInstanceAs (OkRow (qd s.own _ _).1)|exact inferInstanceAs (OkRow (qe s.own _ _).1)|exact inferInstanceAs (OkRow (mF s.own _ _ _).1)
 unfold dr kK
 repeat' split
 all_goals first|exact .zero|exact this
theorem xm{l:List Int}{k:Nat}(h:k<l.length):(ints l)[k]?=some (.int .i64 (l.getD k 0)):=by simp[ints,h,List.getD_eq_getElem?_getD]
theorem pj(s:MS δ)(k:Nat):iI s (k+1)=iI s k++(if Dc s k then [((k:Nat):Int)]else []):=by
 unfold iI;rw[cX,List.filter_append,cL]
 by_cases h:Dc s k=true<;>simp[h]
theorem ww(b:Int)(k:Nat):kJ b (k+1)=kJ b k++(if j7 b ((k:Nat):Int)then [((k:Nat):Int)]else []):=by
 unfold kJ;rw[cX,List.filter_append,cL]
 by_cases h:j7 b ((k:Nat):Int)=true<;>simp[h]
theorem tW(b:Int)(k:Nat):(kJ b k).length≤k:=by
 unfold kJ;rw[bW];exact yF (Bl _ _) (by simp)
theorem uo{v:ViewT}{w i:Int}(h:(lx v w).isSome=true)(g:(lx v w).getD 0=i):lx v w=some i:=by
 cases q:lx v w with
 |none=>rw[q]at h;cases h
 |some z=>rw[q]at g;rw[←g];rfl
theorem AZ{s:MS δ}{k:Nat}(h:Dc s k=true):lx s.view ((k:Nat):Int)=some s.id∧gp s.own ((k:Nat):Int)≤0:=by
 unfold Dc at h;rw[au,decide_eq_true_iff,decide_eq_true_iff]at h;exact h
theorem MJ{s:MS δ}{k:Nat}(h1:(lx s.view ((k:Nat):Int)).isSome=true)(h2:(lx s.view ((k:Nat):Int)).getD 0=s.id)(h3:gp s.own ((k:Nat):Int)≤0):Dc s k=true:=by
 unfold Dc;rw[au,decide_eq_true_iff,decide_eq_true_iff];refine⟨?_,h3⟩;cases q:lx s.view ((k:Nat):Int)with
 |none=>rw[q]at h1;cases h1
 |some z=>rw[q]at h2;rw[←h2];rfl
theorem HC(s:MS δ)(k:Nat):(iI s k).length≤k:=by
 unfold iI;rw[bW];exact yF (Bl _ _) (by simp)
theorem MC{x d:RowT}{who:Int}(h:cw who=true)(h2: ¬0<gp x who):(dU x who d).2=0:=by
 rw[dU,h,if_neg (by decide),if_neg h2]
theorem Ds(K:Dk δ){l:List Int}{q:Nat}(h:q<l.length)(s:MS δ):gq K (l.take (q+1)) s=np K (gq K (l.take q) s) (l.getD q 0):=by
 unfold gq;rw[cx h,fb,List.getD_eq_getElem?_getD,List.getElem?_eq_getElem h];rfl
theorem uY(s:MS δ){l:List Int}{q:Nat}(h:q<l.length):ql s (l.take (q+1))=(if 0<gp (ql s (l.take q)) (l.getD q 0)then ql s (l.take q)else(dU (ql s (l.take q)) (l.getD q 0) (n5 s (l.getD q 0))).1):=by
 unfold ql;rw[cx h,fb,List.getD_eq_getElem?_getD,List.getElem?_eq_getElem h];rfl
theorem xv{s:MS δ}{i:Int}(h:i∈bF s):cw i=true∧lx s.view i=some s.id∧gp s.own i≤0:=by
 unfold bF iI at h;rw[dw]at h;obtain⟨k,hk,rfl⟩:=h;rw[List.mem_filter,ee]at hk;have h2:=hk.2;unfold Dc at h2;rw[au,decide_eq_true_iff,decide_eq_true_iff]at h2;exact⟨decide_eq_true ⟨by omega,by omega⟩,h2.1,h2.2⟩
theorem hZ(x:RowT){k:Nat}(h:k<5):gp x ((k:Nat):Int)=x.heir[k]:=by
 rw[gp,dif_pos (show cw ((k:Nat):Int)=true from decide_eq_true ⟨by omega,by omega⟩)];rfl
theorem H7(w:Int):(iy w).length≤1000000:=by unfold iy;split<;>simp
theorem F4{k:Nat}(h:k<5):cw ((k:Nat):Int)=true:=decide_eq_true ⟨by omega,by omega⟩
theorem Hq(x:RowT){k:Nat}(h:k<5):xh x ((k:Nat):Int)=x.left[k]:=by
 rw[xh,dif_pos (F4 h)];rfl
theorem Ej(x:RowT){k:Nat}(h:k<5)(v:Int)(l:Vector CellT 4):oV x ((k:Nat):Int) v l= {x with heir:=x.heir.set k v h,left:=x.left.set k l h}:=by
 rw[oV,dif_pos (F4 h)];rfl
theorem pd(x:RowT)(who:Int)(dead:RowT)(k:Nat):oz x who dead (k+1)=nQ who dead (oz x who dead k) k:=by unfold oz;rw[cX,fb];rfl
instance OkVw.first:OkVw firstV:=⟨Rng.first,λn hn=>by
 have h:n∈[(1:Int),7,0,0,0,0,0]:=hn;simp only[bV,List.not_mem_nil,or_false,or_self]at h
 rcases h with rfl|rfl|rfl<;>decide⟩
instance OkVw.zero:OkVw ViewT.zero:=⟨Oq,λn hn=>by
 have h:n∈[(0:Int),0,0,0,0,0,0]:=hn;simp only[bV,List.not_mem_nil,or_false,or_self]at h
 rcases h with rfl;decide⟩
theorem D6{v:ViewT}(h1:mY v.epoch)(h2:mY v.members)(hr:Rng v):WF v.flat:=λn hn=>by
 simp only[ViewT.flat,bV]at hn;rcases hn with rfl|rfl|hn
 · exact nF h1
 · exact nF h2
 · obtain⟨j,hj,rfl⟩:=sC hn
   have:=hr j hj;exact nF ⟨by omega,by omega⟩
theorem pV(n:Int):mY (IntKind.i64.wrap n):=nH n
instance OkVw.next{v:ViewT}[h:OkVw v](c:ChangeT):OkVw (cm v c).1:=by
 unfold cm;split
 · exact .zero
 split
 · split
   · exact .zero
   · exact⟨h.rng,D6 (pV _) (pV _) h.rng⟩
 split
 · split
   · exact .zero
   · have hr:Rng ⟨IntKind.i64.wrap (v.epoch+1),jk .i64 v.members (2^c.who.toNat),lE v c⟩:=λi hi=>by
      show 0≤(lE v c)[i]∧(lE v c)[i]≤5;unfold lE;rw[Vector.getElem_mapIdx];unfold nj;split
      · have hm:cw c.heir=true:=by
         rename_i q _ _ _ _;simp only[di,Bool.not_eq_true',not_or,jJ]at q;exact q.2
        have hm2:0≤c.heir∧c.heir<5:=of_decide_eq_true hm;omega
      · exact h.rng i hi
     exact⟨hr,D6 (pV _) (pV _) hr⟩
 · exact .zero
theorem JD{b:BallotT}(h1:mY b.round)(h2:mY b.who):WF b.flat:=λn hn=>by
 have h:n∈[b.round,b.who]:=hn;simp only[bV,List.not_mem_nil,or_false]at h;rcases h with rfl|rfl
 · exact nF h1
 · exact nF h2
theorem iv:WF BallotT.zero.flat:=JD (by decide) (by decide)
theorem pG:WF ChangeT.zero.flat:=λn hn=>by
 have h:n∈[(0:Int),0,0]:=hn;simp only[bV,List.not_mem_nil,or_false,or_self]at h;rcases h with rfl;decide
instance OkMg.sealed(w:Int)(y:RowT)[h:OkRow y]:OkMg (hY w y):=⟨h, .zero,iv,iv,pG⟩
instance OkMg.sealW(w:Int)(v:ViewT)[h:OkVw v]:OkMg (iz w v):=⟨.zero,h,iv,iv,pG⟩
section
variable {s:MS δ}
instance [h:OkR K s](l:List SaidT):OkR K (iN K s l):=⟨h.e,h.id,h.view,h.own,h.mir,h.book,h.last,h.acc,h.vote⟩
instance {p:Prop}[Decidable p]{a b:MS δ}[ha:OkR K a][hb:OkR K b]:OkR K (if p then a else b):=by split;exact ha;exact hb
instance {f:MS δ→MS δ}{t:Int}{m:MsgT}[h:OkR K s][hf:OkR K (f s)]:OkR K (lw K f s t m):=by
 unfold lw;split
 · exact hf
 · exact⟨h.e,h.id,h.view,h.own,h.mir,h.book,h.last,h.acc,h.vote⟩
instance [h:OkR K s](t:Int)(m:MsgT):OkR K (x8 K s t m):=inferInstanceAs (OkR K (iN K s _))
instance [h:OkR K s](r:RecT):OkR K (dE K s r):=⟨K.sure _ _ h.e (oC r),h.id,h.view,h.own,h.mir,h.book,h.last,h.acc,h.vote⟩
instance [h:OkR K s](a b c:Int):OkR K (dK s a b c):=⟨h.e,h.id,h.view,h.own,h.mir,h.book,h.last,h.acc,h.vote⟩
instance [h:OkR K s]:OkR K (bP s):=⟨h.e,h.id,h.view,h.own,h.mir,h.book,h.last,h.acc,h.vote⟩
instance [h:OkR K s](f:Int):OkR K (iY s f):=⟨h.e,h.id,h.view,h.own,h.mir,h.book,h.last,h.acc,h.vote⟩
instance [h:OkR K s]:OkR K (lM s):=⟨h.e,h.id,h.view,h.own,h.mir,h.book,h.last,h.acc,h.vote⟩
theorem zd{b:BookT}{w:Int}{x:RowT}(h: ∀(i:Nat) (h:i<5),OkRow b.rows[i])(hx:OkRow x): ∀(i:Nat) (h:i<5),OkRow (gk b w x).1.rows[i]:=by
 unfold gk;split
 · unfold Az
   split
   · exact oP (p:=OkRow) (fK (by assumption)) h hx
   · exact h
 · exact h
instance OkR.merge[h:OkR K s](w:Int)(x:RowT)[hx:OkRow x]:OkR K (Dy s w x):=⟨h.e,h.id,h.view,h.own,h.mir,zd h.book hx,h.last,h.acc,h.vote⟩
instance [h:OkR K s]:OkR K (hJ s):=⟨h.e,h.id,h.view,h.own,h.mir,zd h.book h.own,h.last,h.acc,h.vote⟩
theorem EL{b:MirT}{w:Int}{x:RowT}(h: ∀(i:Nat) (h:i<5),OkRow b.rows[i])(hx:OkRow x): ∀(i:Nat) (h:i<5),OkRow (mJ b w x).1.rows[i]:=by
 unfold mJ;split
 · unfold AQ
   split
   · exact oP (p:=OkRow) (fK (by assumption)) h hx
   · exact h
 · exact h
instance [h:OkR K s](w:Int)(x:RowT)[hx:OkRow x]:OkR K (iO s w x):=⟨h.e,h.id,h.view,h.own,EL h.mir hx,h.book,h.last,h.acc,h.vote⟩
instance [h:OkR K s](w:Int):OkR K (lG s w):=⟨h.e,h.id,h.view,h.own,λi hi=>by
 show OkRow (oy s.mirror w).rows[i]
 unfold oy;split<;>exact h.mir i hi,h.book,h.last,h.acc,h.vote⟩
instance [h:OkR K s](x:RowT)[hx:OkRow x](op:Int):OkR K (s6 s x op):=⟨h.e,h.id,h.view,hx,h.mir,h.book,h.last,h.acc,h.vote⟩
instance [OkR K s]:OkR K (fz K s):=inferInstanceAs (OkR K (iN K s _))
instance [OkR K s](y:RowT):OkR K (lC K s y):=inferInstanceAs (OkR K (iN K s _))
instance [OkR K s](v:ViewT):OkR K (lB K s v):=inferInstanceAs (OkR K (iN K s _))
instance [OkR K s](m:MsgT):OkR K (iF K s m):=inferInstanceAs (OkR K (iN K s _))
instance [OkR K s](x:RowT)[OkRow x](op:Int):OkR K (e9 K s x op).1:=by unfold e9;split<;>exact inferInstance
instance [h:OkR K s]:OkR K (lZ K s):=by
 unfold lZ;split
 · exact h
 split
 · exact inferInstance
 · exact h
instance [OkR K s]:OkR K (ld K s):=by unfold ld;exact inferInstance
instance [h:OkR K s](f:Int)(m:MsgT):OkR K (dy K s f m):=by
 unfold dy
 repeat' split
 all_goals exact inferInstance
instance [h:OkR K s](f:Int)(m:MsgT)[OkMg m]:OkR K (iE K s f m):=by
 unfold iE
 repeat' split
 all_goals exact inferInstance
theorem Km{v:Vector RowT 5}{w:Int}{x:RowT}(h: ∀(i:Nat) (h:i<5),OkRow v[i])(hx:OkRow x): ∀(i:Nat) (h:i<5),OkRow (B6 v w x)[i]:=by
 unfold B6;split
 · exact oP (p:=OkRow) (fK (by assumption)) h hx
 · exact h
instance [h:OkR K s](w:Int)(x:RowT)[hx:OkRow x]:OkR K (lY s w x):=⟨h.e,h.id,h.view,h.own,h.mir,h.book,by
 show ∀(i:Nat) (h:i<5),OkRow (if rl s w=0∨(n5 s w).version<x.version then B6 s.last w x else s.last)[i];split
 · exact Km h.last hx
 · exact h.last,h.acc,h.vote⟩
instance [OkR K s](f w:Int)(y:RowT)[OkRow y]:OkR K (uC s f w y):=by
 have h:OkR K (lY s w y):=inferInstance;exact⟨h.e,h.id,h.view,h.own,h.mir,h.book,h.last,h.acc,h.vote⟩
instance [h:OkR K s](f:Int)(m:MsgT)[OkMg m]:OkR K (fD K s f m):=by unfold fD;split<;>exact inferInstance
theorem wD[OkR K s]{f:MS δ→MS δ}(hf:OkR K (f s))(t:Int)(m:MsgT):OkR K (lw K f s t m):=by unfold lw;split;exact hf;exact inferInstance
instance [h:OkR K s](f w:Int):OkR K (fh K s f w):=by
 unfold fh
 repeat' split
 · exact h
 · exact wD inferInstance _ _
 · exact inferInstance
 · exact wD inferInstance _ _
instance [h:OkR K s](i w:Int):OkR K (hO K s i w):=by
 unfold hO;split
 · exact h
 · exact wD inferInstance _ _
instance [OkR K s](i:Int):OkR K (np K s i):=by unfold np;exact inferInstance
theorem ux: ∀(l:List Int) (s:MS δ),OkR K s→OkR K (gq K l s)
 | [],_,h=>h
 |i::l,s,h=>ux l (np K s i) inferInstance
instance [h:OkR K s]:OkR K (qt K s):=ux _ _ h
theorem Ol(n:Int)(h:mY n):WF ({AccT.zero with epoch:=n}:AccT).flat:=λk hk=>by
 have q:k∈[n,0,0,0,0,0,0,0]:=hk;simp only[bV,List.not_mem_nil,or_false,or_self]at q;rcases q with rfl|rfl
 · exact nF h
 · decide
instance [h:OkR K s](v:ViewT)[hv:OkVw v]:OkR K (mi s v):=⟨h.e,h.id,hv,h.own,h.mir,h.book,h.last,Ol _ (sv (hv.wf _ (by simp[ViewT.flat]))),λ_ e=>nomatch e⟩
instance [h:OkR K s](v:ViewT)[OkVw v]:OkR K (gm K s v):=by
 unfold gm
 repeat' split
 all_goals exact inferInstance
instance [h:OkR K s](f:Int)(m:MsgT)[OkMg m]:OkR K (kH K s f m):=by unfold kH;exact inferInstance
instance [h:OkR K s](c:ChangeT):OkR K (ky K s c):=by
 unfold ky
 repeat' split
 all_goals exact inferInstance
class OkAc(a:AccT):Prop where wf:WF a.flat
instance [h:OkR K s]:OkAc s.acc:=⟨h.acc⟩
theorem oe{a b:List Int}(h:WF (a++b)):WF a:=λn hn=>h n (List.mem_append_left _ hn)
theorem tL{a b:List Int}(h:WF (a++b)):WF b:=λn hn=>h n (jh _ hn)
theorem OkAc.vow{a:AccT}(h:OkAc a):WF a.vow.flat:=tL (oe (oe h.wf))
theorem OkAc.had{a:AccT}(h:OkAc a):WF a.had.flat:=tL (oe h.wf)
theorem OkAc.change{a:AccT}(h:OkAc a):WF a.change.flat:=tL h.wf
theorem OkAc.epoch{a:AccT}(h:OkAc a):WF [a.epoch]:=oe (oe (oe h.wf))
theorem OkAc.ask{a:AccT}(h:OkAc a){ep:Int}{b:BallotT}(hb:WF b.flat):OkAc (bC a ep b).1:=by
 unfold bC;split
 · exact h
 · exact⟨mf (mf (mf h.epoch hb) h.had) h.change⟩
theorem OkAc.put{a:AccT}(h:OkAc a){ep:Int}{b:BallotT}{c:ChangeT}(hb:WF b.flat)(hc:WF c.flat):OkAc (fP a ep b c).1:=by
 unfold fP;split
 · exact h
 · exact⟨mf (mf (mf h.epoch hb) hb) hc⟩
instance [h:OkR K s](n:Int):OkR K (dp s n):=⟨h.e,h.id,h.view,h.own,h.mir,h.book,h.last,h.acc,h.vote⟩
instance [h:OkR K s](v:VoteT)[hv:OkVt v]:OkR K (jr s v):=⟨h.e,h.id,h.view,h.own,h.mir,h.book,h.last,h.acc,λ_ e=>aR e▸hv⟩
instance [h:OkR K s](a:AccT)[ha:OkAc a]:OkR K (tC s a):=⟨h.e,h.id,h.view,h.own,h.mir,h.book,h.last,ha.wf,h.vote⟩
instance {v:VoteT}[h:OkVt v]{m:MsgT}[hm:OkMg m](w:Int):OkVt (dT v w m.ballot m.had m.change).1:=by
 unfold dT;split
 · exact h
 · unfold cN
   split
   · exact⟨h.view,h.ballot,hm.change,hm.had⟩
   · exact⟨h.view,h.ballot,h.change,h.best⟩
instance {v:VoteT}[h:OkVt v](w:Int)(b:BallotT):OkVt (fl v w b).1:=by
 unfold fl;split
 · exact h
 · exact⟨h.view,h.ballot,h.change,h.best⟩
instance {m:MsgT}[hm:OkMg m][h:OkR K s](ep:Int):OkAc (bC s.acc ep m.ballot).1:=OkAc.ask ⟨h.acc⟩ hm.ballot
instance {m:MsgT}[hm:OkMg m][h:OkR K s](ep:Int):OkAc (fP s.acc ep m.ballot m.change).1:=OkAc.put ⟨h.acc⟩ hm.ballot hm.change
instance tookF_ok[h:OkR K s](f:Int)(m:MsgT):OkR K (kV K f m s):=by
 unfold kV;split
 · exact h
 · rename_i vt hv
   have:=h.vote vt hv;split<;>exact inferInstance
theorem sA[h:OkR K s]{f:MS δ→MS δ}(hf: ∀s:MS δ,OkR K s→OkR K (f s))(w:Int)(m:MsgT):OkR K (eT K f s w m):=by
 unfold eT
 repeat' split
 · exact inferInstance
 · exact h
 · exact h
 · exact hf _ inferInstance
instance [OkR K s](w:Int)(m:MsgT):OkR K (p7 K s w m):=sA (λ_ _=>inferInstance) w m
instance [h:OkR K s](w:Int)(m:MsgT):OkR K (lR K w m s):=by unfold lR;exact inferInstance
instance [h:OkR K s](w:Int)(m:MsgT)[OkMg m]:OkR K (nL K w m s):=by
 unfold nL
 repeat' split
 all_goals exact inferInstance
instance [OkR K s](w:Int)(m:MsgT)[OkMg m]:OkR K (ry K s w m):=sA (λ_ _=>inferInstance) w m
instance OkMg.putM(ep:Int){vt:VoteT}[h:OkVt vt]:OkMg (ff ep vt.ballot vt.change):=⟨.zero, .zero,h.ballot,iv,h.change⟩
instance OkMg.askM(ep:Int){vt:VoteT}[h:OkVt vt]:OkMg (fm ep vt.ballot):=⟨.zero, .zero,h.ballot,iv,pG⟩
instance OkMg.takenM(ep:Int){m:MsgT}[h:OkMg m]:OkMg (eU ep m.ballot):=⟨.zero, .zero,h.ballot,iv,pG⟩
theorem OkMg.promM(ep:Int){m:MsgT}[h:OkMg m]{a:AccT}(ha:OkAc a):OkMg (fc ep m.ballot a.had a.change):=⟨.zero, .zero,h.ballot,ha.had,ha.change⟩
theorem uQ[h:OkR K s]{f:MS δ→MsgT→MS δ}{m:MsgT}(hf: ∀s:MS δ,OkR K s→OkR K (f s m)):OkR K (iV K f s m):=by
 unfold iV;split
 · exact hf _ inferInstance
 · exact inferInstance
instance [h:OkR K s](vt:VoteT)[OkVt vt]:OkR K (jw K s vt):=uQ λ_ _=>inferInstance
instance [h:OkR K s](f:Int)(m:MsgT)[OkMg m]:OkR K (oQ K f m s):=by
 unfold oQ;split
 · exact h
 · rename_i vt hv
   have:=h.vote vt hv;split<;>exact inferInstance
instance [OkR K s](w:Int)(m:MsgT)[OkMg m]:OkR K (p8 K s w m):=sA (λ_ _=>inferInstance) w m
theorem xI[h:OkR K s](w:Int)(m:MsgT)[OkMg m]{a:AccT}(ha:OkAc a):OkR K (l3 K w m a s):=by
 have:=OkMg.promM m.epoch (m:=m) ha;unfold l3;exact inferInstance
instance [h:OkR K s](w:Int)(m:MsgT)[OkMg m]:OkR K (oH K w m s):=by
 unfold oH
 repeat' split
 · exact h
 · exact inferInstance
 · exact xI w m inferInstance
 · exact xI w m inferInstance
instance [OkR K s](w:Int)(m:MsgT)[OkMg m]:OkR K (rA K s w m):=sA (λ_ _=>inferInstance) w m
instance [h:OkR K s](vt:VoteT)[OkVt vt]:OkR K (k9 K s vt):=uQ λ_ _=>inferInstance
instance [h:OkR K s](vt:VoteT)[OkVt vt]:OkR K (nM K s vt):=by unfold nM;split<;>exact inferInstance
theorem D4{v:VoteT}{w:Int}{b had:BallotT}{c:ChangeT}(h:(dT v w b had c).2=true):(dT v w b had c).1.putting=true:=by
 unfold dT at h ⊢;split
 · rename_i q;rw[if_pos q]at h;cases h
 · rename_i q;rw[if_neg q]at h;exact h
theorem D8(s:MS δ)[h:OkR K s]:WF (dx s).flat:=JD (nH _) (by have:0≤s.id∧s.id<5:=of_decide_eq_true h.id;exact⟨by show _≤s.id;omega,by show s.id<_;omega⟩)
class OkCh(c:ChangeT):Prop where wf:WF c.flat
instance newVote_ok[h:OkR K s](c:ChangeT)[hc:OkCh c]:OkVt (iA s.view (dx s) c):=⟨h.view,D8 s,hc.wf,iv⟩
instance {vt:VoteT}[h:OkVt vt]:OkCh vt.change:=⟨h.change⟩
instance [h:OkR K s](c:ChangeT)[OkCh c]:OkR K (qw K s c):=by
 have:OkAc (bC s.acc s.view.epoch (dx s)).1:=OkAc.ask ⟨h.acc⟩ (D8 s);unfold qw;exact inferInstance
instance [h:OkR K s](c:ChangeT)[OkCh c]:OkR K (cD K s c).1:=by
 unfold cD
 repeat' split
 all_goals exact inferInstance
theorem rU{c:ChangeT}(h:(cD K s c).2=0):(cD K s c).1.vote=some (iA s.view (dx s) c):=by
 unfold cD at h ⊢
 by_cases h1:(bC s.acc s.view.epoch (dx s)).2=false
 · rw[if_pos h1]at h;cases h
 by_cases h2:qS K s (fk s.view.epoch (dx s))≠0
 · rw[if_neg h1,if_pos h2]at h;exact absurd h h2
 · rw[if_neg h1,if_neg h2];rfl
instance [h:OkR K s](op:Int)(c:ChangeT)[OkCh c]:OkR K (dR K s op c).1:=by
 unfold dR
 repeat' split
 all_goals exact inferInstance
instance [h:OkR K s](o:OpT):OkR K (od K s o).1:=by
 unfold od
 repeat' split
 all_goals exact inferInstance
instance [h:OkR K s](o:OpT)[OkCh o.change]:OkR K (cb K s o).1:=by unfold cb;split<;>exact inferInstance
instance [h:OkR K s]:OkR K (bX K s):=by unfold bX;exact inferInstance
instance [h:OkR K s]:OkR K (cg K s):=by unfold cg;exact inferInstance
instance [h:OkR K s]:OkR K (gz K s):=by unfold gz;exact inferInstance
instance [h:OkR K s]:OkR K (p4 K s):=by
 unfold p4;split
 · exact h
 · rename_i vt hv
   have:=h.vote vt hv
   repeat' split
   all_goals exact inferInstance
instance [h:OkR K s]:OkR K (iL K s):=by unfold iL;exact inferInstance
instance [h:OkR K s](f:Int)(m:MsgT)[OkMg m]:OkR K (gI K s f m):=by
 unfold gI
 repeat' split
 all_goals exact inferInstance
theorem jf(s:MS δ)(c:ChangeT):(cD K s c).1.replies=s.replies:=by
 unfold cD;split
 · rfl
 · split<;>rfl
theorem jP(s:MS δ)(x:RowT)(op:Int):(e9 K s x op).1.replies=s.replies:=by unfold e9;split<;>rfl
end
end Api
end

section
namespace Leg
open Go Codec Api Go.Conc
section
variable {P:Program} {w0:World} {F:Hl} {n:Nat} {ops:Array Oper} {Q:QQ} {is:List Nat} {D:List Deferred} {L:List (Nat×Value)} {H:List HP} {i d:Nat} {o:Oper}
theorem TX.recv1{x:Operand}{t e:TypeId}{dir:ChanDir}{c cap s r:Nat}{z v:Value}{vs vs0:List Value}(k:Nat)(ho:ops[i]?=some o)(hw:Want n D ops o L)(hop:o.op= .recv t x false)(hd:o.dst=some d)(hn:Nat.blt d n=true)(ht:P.underlying t=some (.chan dir e))(hz:(P.info? e).map (·.zero)=some (some z))
 (hx:cI L x=some (.chan (some c))) (hk:Nat.blt k H.length=true) (hH:H.getD k (λ_=>True)=ey c cap vs0 s r) (he:vs0=v::vs)
 (h:TX P w0 F n ops Q is D ((d,v)::L) (H.set k (ey c cap vs s (r+1)))):TX P w0 F n ops Q (i::is) D L H:=λa w f sm m=>by
 subst he;have hc:=m.chan k hk hH
 have hr:(execOp a.eval o).run P w= .ok (.comm #[{chan:= .chan (some c),send:=none,zero:=z}] true (.recv false)) w:=by
  simp[execOp,hop,f.eval hx,Sem.run_bind,run_underlying ht,mT hz]
 refine MZ (v:=v) (w2:=w.setChan c cap vs.toArray false s (r+1) false) ho (hw a f) hr (λfr cs es hs=>?_) ?_
 · have:=step_lone_recv_buf false hs hc (by simp)
   rw[this];simp[got]
 · rw[hd]
   exact h _ _ (f.put (lb hn) _) (sm.setChan ..) (m.setChan k hk hH)
theorem TX.send1{x y:Operand}{c cap s r:Nat}{v:Value}{vs:List Value}(k:Nat)(ho:ops[i]?=some o)(hw:Want n D ops o L)(hop:o.op= .send x y)(hd:o.dst=none)
 (hx:cI L x=some (.chan (some c))) (hy:cI L y=some v) (hk:Nat.blt k H.length=true) (hH:H.getD k (λ_=>True)=ey c cap vs s r) (hroom:vs.length<cap)
 (h:TX P w0 F n ops Q is D L (H.set k (ey c cap (vs++[v]) (s+1) r))):TX P w0 F n ops Q (i::is) D L H:=λa w f sm m=>by
 have hc:=m.chan k hk hH
 have hr:(execOp a.eval o).run P w= .ok (.comm #[{chan:= .chan (some c),send:=some v,zero:= .tuple #[]}] true .send) w:=by
  simp[execOp,hop,f.eval hx,f.eval hy,Sem.run]
 refine MZ (v:=undef) (w2:=w.setChan c cap (vs++[v]).toArray false (s+1) r false) ho (hw a f) hr (λfr cs es hs=>?_) ?_
 · have:=step_lone_send_room hs hc (by simpa using hroom)
   rw[this];simp
 · rw[hd]
   exact h _ _ f (sm.setChan ..) (m.setChan k hk hH)
end
def CV(k:Nat)(u:Value):Value:=if k=0 then .slice none 0 0 else u
theorem Iz{α:Type}{l:List α}{k:Nat}(h:k<l.length):l.drop k++l.take k=l[k]::(l.drop (k+1)++l.take k):=by rw[dA h];rfl
theorem Cg{α:Type}{l:List α}{k:Nat}(h:k<l.length):(l.drop (k+1)++l.take k)++[l[k]]=l.drop (k+1)++l.take (k+1):=by rw[aV,cx h]
end Leg
namespace Leg
open Go
theorem Ji{us:List Value}{k:Nat}(h:k=0)(hk:k<us.length):us[k]=CV (k+1) (us.getD 0 undef):=by
 subst h;unfold CV;rw[if_neg (by omega)];simp[List.getD_eq_getElem?_getD,hk]
theorem Jg{u:Value}{k:Nat}(h: ¬k=0):CV k u=CV (k+1) u:=by unfold CV;rw[if_neg h,if_neg (by omega)]
theorem Jh{u:Value}{k:Nat}(h: ¬k=0):CV k u=u:=if_neg h
end Leg
namespace Leg
open Go
def sF{α:Type}:List α→List α
 | []=>[]
 |a::l=>l++[a]
def Ih{α:Type}(l:List α):Bool:=decide (l.length≠0∧l.length≠8)
def DR{α:Type}[Inhabited α](l:List α):List α:=if l.length≠0∧l.length≠8 then l++[l.getD 0 default]else l
end Leg
namespace Leg
open Go
def lA{α:Type}:Nat→List α→List α
 |0,l=>l
 |n+1,l=>sF (lA n l)
theorem Gy{α:Type}(l:List α):(sF l).length=l.length:=by cases l<;>simp[sF]
theorem jt{α:Type}: ∀(n:Nat) (l:List α),(lA n l).length=l.length
 |0,_=>rfl
 |n+1,l=>by rw[lA,Gy,jt n l]
theorem Gx{α:Type}{l:List α}{x:α}:x∈sF l↔x∈l:=by
 cases l with
 |nil=>rfl
 |cons a l=>simp[sF,or_comm]
theorem m5{α:Type}{x:α}: ∀(n:Nat) (l:List α),x∈lA n l↔x∈l
 |0,_=>Iff.rfl
 |n+1,l=>by rw[lA,Gx,m5 n l]
theorem yP{α β:Type}(f:α→β)(l:List α):sF (l.map f)=(sF l).map f:=by cases l<;>simp[sF]
theorem Kf{α β:Type}[Inhabited α][Inhabited β](f:α→β)(l:List α):DR (l.map f)=(DR l).map f:=by
 unfold DR;rw[bW];split
 · rename_i h
   cases l with
   |nil=>exact absurd rfl h.1
   |cons a l=>simp
 · rfl
theorem Kg{α β:Type}(f:α→β)(l:List α):Ih (l.map f)=Ih l:=by unfold Ih;rw[bW]
end Leg
end

section
namespace Api
open Go Leg Codec Dsk Wal
instance :Inhabited MsgT:=⟨.zero⟩
structure LD where
 cnt:Nat
 used:Int
 D:DS
structure DkOk(D:DS):Prop where
 ok:D.Ok
 inn:Wal.DS.In D
 ws:D.ws.length≤2048
 up:D.dn=false→D.ws=[]
def Wrote(D:DS)(n:Nat)(r:Int×DS):Prop:=r.2.Ok∧Wal.DS.In r.2∧((D.dn=true∧r.2=D)∨(D.dn=false∧r.2.ws.length≤D.ws.length+n∧(r.1=0→r.2.dn=false)∧(r.1≠0→r.2.dn=true)))
theorem Wrote.none{D:DS}(h:D.Ok)(hi:Wal.DS.In D):Wrote D 0 (0,D):=⟨h,hi,by
 cases hd:D.dn
 · exact .inr ⟨rfl,aM _,λ_=>by first|exact hd|rfl,λq=>absurd rfl q⟩
 · exact .inl ⟨rfl,rfl⟩⟩
theorem Wrote.more{D:DS}{n m:Nat}{r:Int×DS}(h:Wrote D n r)(hm:n≤m):Wrote D m r:=⟨h.1,h.2.1,h.2.2.imp id λ⟨a,b,c⟩=>⟨a,by omega,c⟩⟩
theorem Wrote.one{D:DS}(h:D.Ok)(hi:Wal.DS.In D){at':Int}{bs:List UInt8}(h1:0≤at'∧at'<2048)(h2:bs.length≤64):Wrote D 1 (D.write at' bs):=by
 cases hd:D.dn
 · by_cases hc:D.ar=true∧D.lf=0
   · rw[rj h1 h2 hc]
     exact⟨⟨h.s,h.ws,h.lf⟩,hi, .inr ⟨hd,Nat.le_succ _,(λq=>absurd q (by show ¬(4:Int)=0;decide)),λ_=>rfl⟩⟩
   · have h4:D.ar=false∨0<D.lf:=by
      have:=h.lf;cases q:D.ar
      · exact .inl rfl
      · right
        have:D.lf≠0:=λe=>hc ⟨q,e⟩
        omega
     rw[oM h1 h2 hd h4];exact⟨vG h h2 h4,vH hi h1, .inr ⟨hd,by simp[yb],λ_=>rfl,λq=>absurd rfl q⟩⟩
 · have e:D.write at' bs=(4,D):=by
    rw[DS.write,if_neg (by omega),if_pos (.inl hd)];cases D;simp only at hd;rw[hd]
   rw[e];exact⟨h,hi, .inl ⟨hd,rfl⟩⟩
theorem Wrote.then{D:DS}{n m:Nat}{r q:Int×DS}(h:Wrote D n r)(h0:r.1=0)(g:Wrote r.2 m q):Wrote D (n+m) q:=by
 obtain⟨_,_,h⟩:=h;refine⟨g.1,g.2.1,?_⟩;rcases h with⟨hd,e⟩| ⟨hd,hl,hz,_⟩
 · rw[e]at g
   rcases g.2.2 with⟨_,e2⟩| ⟨hd2,_⟩
   · exact .inl ⟨hd,e2⟩
   · rw[hd]at hd2;cases hd2
 · rcases g.2.2 with⟨hd2,_⟩| ⟨_,hl2,h3⟩
   · rw[hz h0]at hd2;cases hd2
   · exact .inr ⟨hd,by omega,h3⟩
theorem Wrote.writes: ∀(ss:List ix) (at':Int) (D:DS),D.Ok→Wal.DS.In D→0≤at'→at'+ss.length≤2048→(∀s∈ss,s.length=64)→Wrote D ss.length (fQ ss at' D)
 | [],_,D,h,hi,_,_,_=>Wrote.none h hi
 |s::ss,at',D,h,hi,h0,h1,hs=>by
  simp only[az]at h1;have h2:=hs s (by simp);have o:=Wrote.one h hi (at':=at') (bs:=s) (by omega) (by omega);rw[fQ];split
  · rename_i hz
    have:=o.then hz (Wrote.writes ss (at'+1) _ o.1 o.2.1 (by omega) (by omega) λx hx=>hs x (by simp[hx]))
    rwa [mn]at this
  · exact o.more (by simp)
abbrev Qn:= @Wrote.writes
theorem Wrote.wipes: ∀(n:Nat) (at':Int) (D:DS),D.Ok→Wal.DS.In D→0≤at'→at'+n≤2048→Wrote D n (gP n at' D)
 |0,_,D,h,hi,_,_=>Wrote.none h hi
 |n+1,at',D,h,hi,h0,h1=>by
  rw[gP];split
  · exact(Wrote.wipes n (at'+1) D h hi (by omega) (by omega)).more (by omega)
  · have o:=Wrote.one h hi (at':=at') (bs:=[]) (by omega) (by simp)
    split
    · rename_i hz
      have:=o.then hz (Wrote.wipes n (at'+1) _ o.1 o.2.1 (by omega) (by omega))
      rwa [mn]at this
    · exact o.more (by omega)
theorem DkOk.wrote{D:DS}(h:DkOk D){n:Nat}{r:Int×DS}(g:Wrote D n r)(hn:n≤2048):(r.1≠0→DkOk r.2)∧DkOk r.2.sync.2:=by
 obtain⟨ho,hi,hr⟩:=g;rcases hr with⟨hd,e⟩| ⟨hd,hl,h0,h1⟩
 · rw[e]
   refine⟨λ_=>h,?_⟩;rw[DS.sync,if_pos hd];exact h
 · rw[h.up hd]at hl
   simp only[aB,bm]at hl;refine⟨λq=>⟨ho,hi,by omega,λz=>by rw[h1 q]at z;cases z⟩,?_⟩
   by_cases q:r.1=0
   · obtain⟨_,s2,_⟩:=mS (h0 q)
     exact⟨OC ho,vD hi,by rw[s2];exact aP _,λ_=>s2⟩
   · rw[DS.sync,if_pos (h1 q)]
     exact⟨ho,hi,by show r.2.ws.length≤2048;omega,λz=>by rw[show r.2.dn=true from h1 q]at z;cases z⟩
theorem wH{D:DS}(hI:Wal.DS.In D)(hD:D.Ok): ∀(f:Nat) (cnt used:Int),0≤used→used≤2048→0≤(fW D.read f cnt used).2∧(fW D.read f cnt used).2≤2048∧(fW D.read f cnt used).1.length≤f
 |0,_,_,h0,h1=>⟨h0,h1,aM _⟩
 |f+1,cnt,used,h0,h1=>by
  rw[fW];split
  · exact⟨h0,h1,aP _⟩
  · rename_i b all h
    have h2:=oU hI hD h0 h;have h3:=(ka (mc hD _) h).1;obtain⟨a,b',c⟩:=wH hI hD f (cnt+1) (used+all) (by omega) h2;exact⟨a,b',by simp only[az];omega⟩
theorem DkOk.open{D:DS}(h:DkOk D):DkOk (bI D).D∧0≤(bI D).used∧(bI D).used≤2048∧(bI D).recs.length≤2049:=by
 obtain⟨a,b,c⟩:=wH h.inn h.ok iH 0 0 (by omega) (by omega);rw[qm]at c;have w:=h.wrote (Wrote.wipes (2048- (fW D.read iH 0 0).2).toNat _ D h.ok h.inn a (by omega)) (by omega);unfold bI;simp only;split
 · rename_i q;exact⟨w.1 q,by show(0:Int)≤0;omega,by show(0:Int)≤2048;omega,aP _⟩
 · split
   · exact⟨w.2,by show(0:Int)≤0;omega,by show(0:Int)≤2048;omega,aP _⟩
   · exact⟨w.2,a,b,by rw[←qm]at c;exact c⟩
theorem DkOk.arm{D:DS}(h:DkOk D)(n:Int)(hn:n≤9223372036854775807):DkOk (D.arm n):=⟨⟨h.ok.s,h.ok.ws,by show 0≤max n 0∧max n 0≤9223372036854775807;omega⟩,h.inn,h.ws,h.up⟩
theorem DkOk.crash{D:DS}(h:DkOk D)(mask torn cut:Int):DkOk (D.crash mask torn cut):=by
 have c:=OF h.ok h.inn mask torn cut;exact⟨c.ok,c.inn,aP _,λ_=>rfl⟩
theorem DkOk.new:DkOk .new:=⟨⟨mR,mR,by simp[DS.new],by simp[DS.new]⟩,⟨QA,QA⟩,aP _,λ_=>rfl⟩
structure LD.Ok(e:LD):Prop where
 dk:DkOk e.D
 used:0≤e.used∧e.used≤2048
 cnt:(e.cnt:Int)≤4100+e.used
def LD.put(e:LD)(bs:List UInt8):LD×Int:=(⟨(ln e.D e.cnt e.used bs).cnt,(ln e.D e.cnt e.used bs).used,(ln e.D e.cnt e.used bs).D⟩,(ln e.D e.cnt e.used bs).err)
theorem LD.put_ok(e:LD)(bs:List UInt8)(h:e.Ok)(hb:bs.length≤3000):(e.put bs).1.Ok:=by
 obtain⟨⟨ho,hi,hw,hu⟩,h1,h2⟩:=h;unfold LD.put ln;rw[if_neg (by omega)]
 by_cases hf:(bc bs.length:Int)>2048-e.used
 · rw[if_pos hf];exact⟨⟨ho,hi,hw,hu⟩,h1,h2⟩
 rw[if_neg hf];have hp:0<bc bs.length:=lU _;have hl:(bk ((e.cnt+1:Nat):Int) bs).length=bc bs.length:=cy _ _;have w:=DkOk.wrote ⟨ho,hi,hw,hu⟩ (Qn (bk ((e.cnt+1:Nat):Int) bs) e.used e.D ho hi h1.1 (by omega) (mD _ _)) (by omega);simp only;split
 · rename_i q;exact⟨w.1 q,h1,h2⟩
 · split
   · exact⟨w.2,h1,h2⟩
   · exact⟨w.2,(by show 0≤e.used+(bc bs.length:Int)∧e.used+(bc bs.length:Int)≤2048;omega),by show((e.cnt+1:Nat):Int)≤4100+(e.used+bc bs.length);omega⟩
def KD:Dk LD:=⟨LD.put,λe=>e.D.dn,LD.Ok,LD.put_ok⟩
structure Slot where
 run:Option (MS LD)
 D:DS
 past:List ReplyT
structure CL where
 ms:List Slot
 W:List (List MsgT)
def Slot.nil:Slot:=⟨none, .new,[]⟩
def CL.at'(a:CL)(i:Nat):Slot:=a.ms.getD i .nil
def Slot.dk(x:Slot):DS:=match x.run with
 |some s=>s.e.D
 |none=>x.D
def Slot.reps(x:Slot):List ReplyT:=x.past++(match x.run with
 |some s=>s.replies
 |none=>[])
def Slot.up(x:Slot):Bool:=match x.run with
 |some s=> !s.e.D.dn
 |none=>false
def CL.set(a:CL)(i:Nat)(x:Slot):CL:= {a with ms:=a.ms.set i x}
def qg(W:List (List MsgT))(f:Nat)(s:SaidT):List (List MsgT):=if dm ((f:Nat):Int) s.to' then W.set (bw ((f:Nat):Int) s.to') (if(W.getD (bw ((f:Nat):Int) s.to') []).length<8 then W.getD (bw ((f:Nat):Int) s.to') []++[s.msg]else W.getD (bw ((f:Nat):Int) s.to') [])else W
def iu(W:List (List MsgT))(f:Nat)(l:List SaidT):List (List MsgT):=l.foldl (λW s=>qg W f s) W
def MS.hush{δ:Type}(s:MS δ):MS δ:= {s with o:=[]}
def CL.did(a:CL)(i:Nat)(s:MS LD):CL:=⟨a.ms.set i {a.at' i with run:=some s.hush},iu a.W i s.o⟩
def MS.dsk(s:MS LD)(D:DS):MS LD:= {s with e:= {s.e with D:=D}}
def tB(x:Slot)(n:Int):Slot:=match x.run with
 |some s=> {x with run:=some (s.dsk (s.e.D.arm n))}
 |none=> {x with D:=x.D.arm n}
def n7(x:Slot)(mask torn cut:Int):Slot:=⟨none,x.dk.crash mask torn cut,x.reps⟩
def dB(i:Nat)(D:DS):Option (MS LD)×Int:=
 if(bI D).err≠0 then(none,(bI D).err)
 else match gS (bI D).recs (w6 ((i:Nat):Int) (⟨(bI D).recs.length,(bI D).used,(bI D).D⟩:LD))with
  |none=>(none,1)
  |some s=>(some s,0)
def il(i:Nat)(x:Slot):Slot×Int:=match x.run with
 |some _=>(x,5)
 |none=>({x with run:=(dB i x.D).1,D:=(bI x.D).D},(dB i x.D).2)
def tl(a:CL)(f t:Nat)(m:MsgT):CL×Int:=match(a.at' t).run with
 |none=>(a,0)
 |some s=>if s.e.D.dn then(a,0)else if(eB (bS m)).2=0 then(a.did t (gI KD s ((f:Nat):Int) (eB (bS m)).1),0)else(a,(eB (bS m)).2)
def CL.way(a:CL)(k:Nat)(l:List MsgT):CL:= {a with W:=a.W.set k l}
def oO(a:CL)(o:OpT):CL×Int:=
 if dm o.at' o.to'=false then(a,5)
 else match a.W.getD (bw o.at' o.to') []with
  | []=>(a,10)
  |m::l=>
   if o.kind=7 then(if Ih (m::l)then(a.way (bw o.at' o.to') (DR (m::l)),0)else(a,3))
   else match lA (max o.n 0% ((m::l).length:Int)).toNat (m::l)with
    | []=>(a,0)
    |m::l=>if o.kind=6 then(a.way (bw o.at' o.to') l,0)else tl (a.way (bw o.at' o.to') l) o.at'.toNat o.to'.toNat m
def Fl(a:CL)(i:Nat)(o:OpT):CL×Int:=match(a.at' i).run with
 |none=>(a,4)
 |some s=>if s.e.D.dn then(a,4)else(a.did i (cb KD s o).1,(cb KD s o).2)
def Ea(a:CL)(i:Nat):CL×Int:=match(a.at' i).run with
 |none=>(a,4)
 |some s=>if s.e.D.dn then(a,4)else(a.did i (iL KD s),0)
def vn(a:CL)(o:OpT):CL×Int:=
 if iX o.at'=false then(a,5)
 else if 0≤o.kind∧o.kind≤4 then Fl a o.at'.toNat o
 else if o.kind=5∨o.kind=6∨o.kind=7 then oO a o
 else if o.kind=8 then Ea a o.at'.toNat
 else if o.kind=9 then(a.set o.at'.toNat (tB (a.at' o.at'.toNat) o.n),0)
 else if o.kind=10 then(a.set o.at'.toNat (n7 (a.at' o.at'.toNat) o.mask o.torn o.cut),0)
 else if o.kind=11 then(a.set o.at'.toNat (il o.at'.toNat (a.at' o.at'.toNat)).1,(il o.at'.toNat (a.at' o.at'.toNat)).2)
 else(a,5)
def oX(a:CL)(l:List OpT):CL:=l.foldl (λa o=>(vn a o).1) a
def o9(i:Nat):Slot:=(il i .nil).1
def CL.new:CL:=⟨(List.range 5).map o9,List.replicate 25 []⟩
structure Fresh{δ:Type}(i:Int)(e:δ)(s:MS δ):Prop where
 id:s.id=i
 vote:s.vote=none
 replies:s.replies=[]
 e:s.e=e
 o:s.o=[]
 waits:s.waits=0
 ops:s.ops=0
theorem Fresh.rest{δ:Type}{i:Int}{e:δ}{s:MS δ}(h:Fresh i e s)(m:RecT):Fresh i e (ig s m):=by
 obtain⟨h1,h2,h3,h4,h5,h6,h7⟩:=h;unfold ig
 repeat' split
 all_goals exact⟨h1,by first|exact h2|rfl,h3,h4,h5,h6,h7⟩
theorem Fresh.new{δ:Type}(i:Int)(e:δ):Fresh i e (w6 i e):=⟨rfl,rfl,rfl,rfl,rfl,rfl,rfl⟩
abbrev Qi:= @Fresh.new
theorem Fresh.read{δ:Type}{i:Int}{e:δ}: ∀(l:List (List UInt8)) {s s':MS δ},Fresh i e s→gS l s=some s'→Fresh i e s'
 | [],s,s',h,q=>by
  obtain rfl:=aR q;exact h
 |b::l,s,s',h,q=>by
  rw[gS]at q;split at q
  · cases q
  · exact Fresh.read l (h.rest _) q
abbrev HZ:= @Fresh.read
theorem nK{i:Nat}{D:DS}{s:MS LD}(h:(dB i D).1=some s):(bI D).err=0∧gS (bI D).recs (w6 ((i:Nat):Int) (⟨(bI D).recs.length,(bI D).used,(bI D).D⟩:LD))=some s:=by
 unfold dB at h;split at h
 · cases h
 · rename_i h0
   refine⟨Decidable.not_not.1 h0,?_⟩;split at h
   · cases h
   · rename_i h2;rw[h2];exact h
theorem Ac{v:ViewT}{bs r:List UInt8}(h:m4 bs=some (v,r)):OkVw v:=by
 obtain⟨⟨h1,h2,_⟩,_⟩:=oi h;have hr:=sB h;exact⟨hr,D6 ⟨by omega,by omega⟩ ⟨by omega,by omega⟩ hr⟩
theorem qR{b:BallotT}{bs r:List UInt8}(h:kA bs=some (b,r)):WF b.flat:=by
 obtain⟨⟨h1,h2⟩,_⟩:=jH h;exact OkB.wf ⟨h1,h2⟩
theorem Fq{c:ChangeT}{bs r:List UInt8}(h:lL bs=some (c,r)):WF c.flat:=by
 obtain⟨⟨h1,h2,h3⟩,_⟩:=nT h;exact OkC.wf ⟨h1,h2,h3⟩
theorem En{x:RowT}{bs r:List UInt8}(h:vj bs=some (x,r)):OkRow x:=OkRow.of (As h)
theorem Mw{m:MsgT}{g:Bool}{bs r:List UInt8}(h:cH bs=some ((m,g),r)):OkMg m:=by
 obtain⟨k,r1,_,h⟩:=ba h
 have fin: ∀{m':MsgT} {g':Bool} {b r:List UInt8},pr (m',g') b=some ((m,g),r)→OkMg m'→OkMg m:=λh q=>by
  obtain⟨e,_⟩:=fO h;injection e with e1 e2
  exact e1▸q
 split at h
 · obtain⟨_,_,_,h⟩:=ba h;obtain⟨x,_,hx,h⟩:=ba h;exact fin h ⟨En hx, .zero,iv,iv,pG⟩
 split at h
 · obtain⟨_,_,_,h⟩:=ba h;exact fin h ⟨.zero, .zero,iv,iv,pG⟩
 split at h
 · obtain⟨_,_,_,h⟩:=ba h;obtain⟨b,_,hb,h⟩:=ba h;exact fin h ⟨.zero, .zero,qR hb,iv,pG⟩
 split at h
 · obtain⟨_,_,_,h⟩:=ba h;obtain⟨b,_,hb,h⟩:=ba h;obtain⟨d,_,hd,h⟩:=ba h;obtain⟨c,_,hc,h⟩:=ba h;exact fin h ⟨.zero, .zero,qR hb,qR hd,Fq hc⟩
 split at h
 · obtain⟨_,_,_,h⟩:=ba h;obtain⟨b,_,hb,h⟩:=ba h;obtain⟨c,_,hc,h⟩:=ba h;exact fin h ⟨.zero, .zero,qR hb,iv,Fq hc⟩
 split at h
 · obtain⟨v,_,hv,h⟩:=ba h;exact fin h ⟨.zero,Ac hv,iv,iv,pG⟩
 split at h
 · obtain⟨_,_,_,h⟩:=ba h;obtain⟨v,_,hv,h⟩:=ba h;exact fin h ⟨.zero,Ac hv,iv,iv,pG⟩
 · exact fin h ⟨.zero, .zero,iv,iv,pG⟩
class OkRd(m:RecT):Prop where
 row:OkRow m.row
 view:OkVw m.view
 ballot:WF m.ballot.flat
 change:WF m.change.flat
theorem Mg{m:RecT}{g:Bool}{bs r:List UInt8}(h:dz bs=some ((m,g),r)):OkRd m:=by
 obtain⟨k,r1,_,h⟩:=ba h
 have fin: ∀{m':RecT} {g':Bool} {b r:List UInt8},pr (m',g') b=some ((m,g),r)→OkRd m'→OkRd m:=λh q=>by
  obtain⟨e,_⟩:=fO h;injection e with e1 e2
  exact e1▸q
 split at h
 · obtain⟨x,_,hx,h⟩:=ba h;exact fin h ⟨En hx, .zero,iv,pG⟩
 split at h
 · obtain⟨_,_,_,h⟩:=ba h;obtain⟨x,_,hx,h⟩:=ba h;exact fin h ⟨En hx, .zero,iv,pG⟩
 split at h
 · obtain⟨_,_,_,h⟩:=ba h;exact fin h ⟨.zero, .zero,iv,pG⟩
 split at h
 · obtain⟨_,_,_,h⟩:=ba h;obtain⟨b,_,hb,h⟩:=ba h;exact fin h ⟨.zero, .zero,qR hb,pG⟩
 split at h
 · obtain⟨_,_,_,h⟩:=ba h;obtain⟨b,_,hb,h⟩:=ba h;obtain⟨c,_,hc,h⟩:=ba h;exact fin h ⟨.zero, .zero,qR hb,Fq hc⟩
 split at h
 · obtain⟨v,_,hv,h⟩:=ba h;exact fin h ⟨.zero,Ac hv,iv,pG⟩
 · exact fin h ⟨.zero, .zero,iv,pG⟩
theorem nS(bs:List UInt8):OkMg (eB bs).1:=by
 unfold eB;split
 · rename_i m h;exact Mw h
 · exact⟨.zero, .zero,iv,iv,pG⟩
theorem tj(bs:List UInt8):OkRd (dC bs).1:=by
 unfold dC;split
 · rename_i m h;exact Mg h
 · exact⟨.zero, .zero,iv,pG⟩
section
variable {δ:Type} {K:Dk δ} {s:MS δ}
theorem Kr(h:OkR K s)(m:RecT)(hm:OkRd m):OkR K (ig s m):=by
 have ha:OkAc s.acc:=⟨h.acc⟩;unfold ig;split
 · exact⟨h.e,h.id,h.view,hm.row,h.mir,h.book,h.last,h.acc,h.vote⟩
 split
 · have:=hm.row;exact inferInstance
 split
 · exact inferInstance
 split
 · exact⟨h.e,h.id,h.view,h.own,h.mir,h.book,h.last,mf (mf (mf ha.epoch hm.ballot) ha.had) ha.change,h.vote⟩
 split
 · exact⟨h.e,h.id,h.view,h.own,h.mir,h.book,h.last,mf (mf (mf ha.epoch hm.ballot) hm.ballot) hm.change,h.vote⟩
 split
 · have:=hm.view;exact inferInstance
 · exact h
theorem Ad{v:Vector RowT 5}(h:v= #v[.zero, .zero, .zero, .zero, .zero])(i:Nat)(hi:i<5):OkRow v[i]:=by
 subst h
 match i,hi with
 |0,_|1,_|2,_|3,_|4,_=>exact OkRow.zero
theorem KE{i:Int}{e:δ}(he:K.ok e)(hi:cw i=true):OkR K (w6 i e):=
 ⟨he,hi, .first, .zero,Ad rfl,Ad rfl,Ad rfl,Ol _ (by decide),λ_ q=>nomatch q⟩
theorem Cl: ∀(l:List (List UInt8)) {s s':MS δ},OkR K s→gS l s=some s'→OkR K s'
 | [],s,s',h,q=>by
  obtain rfl:=aR q;exact h
 |b::l,s,s',h,q=>by
  rw[gS]at q;split at q
  · cases q
  · exact Cl l (Kr h _ (tj b)) q
theorem yT{i:Nat}(hi:i<5){D:DS}(hD:DkOk D){s:MS LD}(h:(dB i D).1=some s):OkR KD s∧Fresh ((i:Nat):Int) (⟨(bI D).recs.length,(bI D).used,(bI D).D⟩:LD) s:=by
 obtain⟨_,h2⟩:=nK h;obtain⟨o1,o2,o3,o4⟩:=hD.open;exact⟨Cl _ (KE (K:=KD) ⟨o1,⟨o2,o3⟩,by show(((bI D).recs.length:Nat):Int)≤4100+(bI D).used;omega⟩ (decide_eq_true ⟨by omega,by omega⟩)) h2,HZ _ (Qi _ _) h2⟩
end
end Api
end

section
namespace Go.Proofs.YtmcjhkbcmmddgaaGreat
open Go Leg Codec Api Dsk Wal
theorem Bd(b c s r:Nat)(us:List Value)(x:Value)(bs:List UInt8)(hb:bs.length≤1000000)(hroom:us.length<8):
 DT 93 #[(.pointer (some ⟨b,0,none⟩)),x] (IsW x bs) [an b [(.chan (some c))] 160,ey c 8 (us) (s) (r)] (dL (λv H=>v= .bool true∧∃u,H=[an b [(.chan (some c))] 160,ey c 8 (us++[u]) (s+1) r,dV u bs 5])):=by
 refine Leg.Does.body (vs:=[(.pointer (some ⟨b,0,none⟩)),x]) (n:=15) Tryz.func93 rfl rfl rfl (λw0 F hF=>?_);refine sr λ_ J1=>?_
 refine pN ?_;refine nx J1 ?_;refine aa λ_ J2=>?_
 refine sr λ_ J3=>?_
 refine mv ?_;refine tp (gJ rfl rfl) ?_;refine tp (bl (r:=0) rfl DG rfl uD rfl rfl) ?_;refine tp (fY (v:=(.chan (some c))) rfl vp rfl rfl (fu 0 rfl rfl) rfl) ?_;refine nx J3 ?_;refine ag ?_;refine DJ (ab rfl) rfl rfl rfl ia lO (λv9=>?_);change TL _ _ _ _ _ _ _ _ _ [dV v9 ([]) 5,an b [(.chan (some c))] 160,ey c 8 (us) (s) (r)];refine mv ?_;refine cM (k:=0) (news:=eS (bs)) (nn':=(bs:List UInt8).length) (xs':=eS (bs)) (ab rfl) rfl rfl rfl ia zv rfl rfl rfl rfl rfl rfl (λ_ _=>hF.src (λ_ h=>fC h)) (fy _) (by simp only[maxLen,aB];omega) (by simp only[aB];omega) (by simp) (bu _) (λv11 ov11=>?_);change TL _ _ _ _ _ _ _ _ _ [dV v11 (bs) 5,an b [(.chan (some c))] 160,ey c 8 (us) (s) (r)];refine nx J2 ?_;refine aa λ_ J4=>?_
 refine yv ?_;change TX _ _ _ _ _ _ [0,1,2] _ _ _;refine TX.sendRoom 2 rfl (ab rfl) rfl rfl rfl MU rfl rfl rfl rfl hroom ?_;change TX _ _ _ _ _ _ _ _ _ [dV v11 (bs) 5,an b [(.chan (some c))] 160,ey c 8 (us++[v11]) (s+1) (r)];refine tD rfl (ab rfl) rfl rfl (c9 (vs:=[(.int .i64 0),(.bool false)]) rfl rfl rfl) ?_;refine tD rfl (ab rfl) rfl rfl (Ot rfl rfl rfl) ?_;refine Lg ?_;refine af J4 ?_;refine av ?_;refine nE rfl ?_;refine sr λ_ J5=>?_
 refine pN ?_;refine nx J5 ?_;refine ak ?_;refine aI ?_;refine aG (dP _) (λ_ s=>ao [1,1,0] rfl s) ?_;refine aw rfl rfl ?_;exact⟨rfl,_,rfl⟩
theorem xD(b c s r:Nat)(us:List Value)(ls:List (List UInt8))(h8:ls.length≤8)(hb: ∀x∈ls,x.length≤1000000):
    DT 58 #[(.pointer (some ⟨b,0,none⟩))] T0 [an b [(.chan (some c))] 160,ey c 8 (us) (s) (r),eR (us) (ls) 5] (dL (λv H=>((ls.length=0∨ls.length=8)∧v= .bool false∧H=[an b [(.chan (some c))] 160,ey c 8 us s r,eR us ls 5])∨(ls.length≠0∧ls.length≠8∧v= .bool true∧∃un,H=[an b [(.chan (some c))] 160,ey c 8 (us++[un]) (s+us.length+1) (r+us.length),eR us ls 5,dV un (ls.getD 0 []) 5]))):=by
 refine BD 41 Tryz.func58 rfl rfl rfl λw0 F hF=>sr λ_ J1=>PS ?_
 refine nx J1 (sr λ_ J2=>PS ?_);refine CE Cw (tu b c s r us ls) ID ?_;change TL _ _ _ _ _ _ _ _ _ [an b [(.chan (some c))] 160,ey c 8 (us) (s) (r),eR (us) (ls) 5];refine yu (p:=us.length=ls.length) (λw m=>(qP 2 rfl rfl m).1) (λhul=>PS ?_);refine nx J2 (aa λ_ J3=>sr λ_ J4=>P2 ?_);refine aq ?_ ?_<;>intro h10;refine PS ?_
 iterate 7 refine UT ?_
 refine PS ?_;refine nx J4 (CY (sr λ_ J5=>PS ?_));refine nx J5 (ak (ae (WK [0,0,0] (aw rfl rfl ?_))));exact .inl ⟨by omega,rfl,rfl⟩;refine P4 ?_;refine FA 0 DG uD ?_;refine LA 0 vp ?_;refine tq (PV.capChan 1 rfl vp rfl rfl rfl) ?_;refine PS ?_;refine aq ?_ ?_<;>intro h18;refine PS ?_;refine nx J4 (CY (sr λ_ J6=>PS ?_));refine nx J6 (ak (ae (WK [0,0,0] (aw rfl rfl ?_))));exact .inl ⟨by omega,rfl,rfl⟩;refine PS ?_;refine nx J4 (CN (qx J3 (sr λ_ J7=>PS ?_)));refine nx J7 (aa λ_ J8=>sr λ_ J9=>P2 ?_);refine nx J9 (av ?_)
 refine bG (α:=(Nat)) (λk=>k≤us.length) (λk=>[(0,(.pointer (some ⟨b,0,none⟩))),(2,(.bool false)),(4,(CV k (us.getD 0 undef))),(20,(.int .i64 (((ls.length:Nat):Int)))),(21,(.int .i64 (((k:Nat):Int))))]) (λk=>[an b [(.chan (some c))] 160,ey c 8 (us.drop k++us.take k) (s+k) (r+k),eR (us) (ls) 5]) (λk=>us.length-k) 0
     (aP _) SB
     (λ_ q=>by simpa using q) (λk hinv=>?_)
 obtain hk:=hinv;refine sr λ_ J10=>PS ?_
 refine aq ?_ ?_<;>intro h22;have hku:k<us.length:=by omega
 refine nx J10 (aa λ_ J11=>CY (qx J11 (aa λ_ J12=>av (sr λ_ J13=>P2 ?_))));refine nx J13 (aa λ_ J14=>yv (tD rfl (ab rfl) rfl rfl (j8 rfl rfl) (tD rfl (ab rfl) rfl rfl (gJ rfl rfl) (tD rfl (ab rfl) rfl rfl (bl (r:=0) rfl DG rfl uD rfl rfl) (tD rfl (ab rfl) rfl rfl (fY (v:=(.chan (some c))) rfl vp rfl rfl (RO 0) rfl) (TX.recv1 1 rfl (ab rfl) rfl rfl rfl vp MU rfl rfl rfl (Iz hku) (tD rfl (ab rfl) rfl rfl (Qh rfl rfl) (Lg (af J14 (aa λ_ J15=>?_))))))))));refine sr λ_ J16=>P2 ?_
 refine aq ?_ ?_<;>intro h30;refine nx J16 (CY (ag (P2 ?_)));refine nx J15 (yv (tD rfl (ab rfl) rfl rfl (j8 rfl rfl) (tD rfl (ab rfl) rfl rfl (gJ rfl rfl) (tD rfl (ab rfl) rfl rfl (bl (r:=0) rfl DG rfl uD rfl rfl) (tD rfl (ab rfl) rfl rfl (fY (v:=(.chan (some c))) rfl vp rfl rfl (RO 0) rfl) (tD rfl (ab rfl) rfl rfl (j8 rfl rfl) (TX.send1 1 rfl (ab rfl) rfl rfl rfl rfl rfl rfl (by simp only[aj,ef,bp];omega) (Lg (ah (af J12 (ag ?_)))))))))));refine AD ?_;refine PS ?_;refine ax ?_
 exact aN ((k+1):(Nat)) (by omega) (by show us.length- (k+1)<us.length-k;omega)
   (aW (aW (bJ rfl (by first|exact Ji (by omega) hku|exact Jg (by omega)) SB)))
   (λ_ q=>by
      rw[Cg hku]at q
      exact q)
 refine nx J16 (CN (qx J15 (yv (tD rfl (ab rfl) rfl rfl (j8 rfl rfl) (tD rfl (ab rfl) rfl rfl (gJ rfl rfl) (tD rfl (ab rfl) rfl rfl (bl (r:=0) rfl DG rfl uD rfl rfl) (tD rfl (ab rfl) rfl rfl (fY (v:=(.chan (some c))) rfl vp rfl rfl (RO 0) rfl) (tD rfl (ab rfl) rfl rfl (j8 rfl rfl) (TX.send1 1 rfl (ab rfl) rfl rfl rfl rfl rfl rfl (by simp only[aj,ef,bp];omega) (Lg (ah ?_)))))))))));refine af J12 (ag (AD ?_));refine PS ?_;refine ax ?_
 exact aN ((k+1):(Nat)) (by omega) (by show us.length- (k+1)<us.length-k;omega)
   (aW (aW (bJ rfl (by first|exact Ji (by omega) hku|exact Jg (by omega)) SB)))
   (λ_ q=>by
      rw[Cg hku]at q
      exact q)
 obtain rfl:k=us.length:=by omega
 have hpos:0<ls.length:=by omega
 have hg:ls.getD 0 []=ls[0]:=by simp[List.getD_eq_getElem?_getD,hpos]
 refine cB (H':=[an b [(.chan (some c))] 160,ey c 8 us (s+us.length) (r+us.length),eR us ls 5]) (λ_ q=>by simpa using q) (nx J10 (aa λ_ J17=>CN (bg (aC (aC (bD (af J8 (sr λ_ J18=>P2 ?_))))))))
 refine li (ab rfl) rfl rfl rfl Mk rfl (Bd b c (s+us.length) (r+us.length) us (CV us.length (us.getD 0 undef)) (ls.getD 0 []) (hb _ (hg▸eg hpos)) (by omega)) (λ_ s=>s) (λg d s=>by
          rw[Jh (by omega),hg]
          exact L6 (um 0 hpos rfl rfl g d s)) (λvR HR hR=>?_)
 obtain⟨rfl,un,rfl⟩:=hR;refine PS ?_;refine nx J18 (ak (WK [0,0,1,0] (aw rfl rfl ?_)));exact .inr ⟨by omega,by omega,rfl,un,rfl⟩
theorem yr(b:Nat)(ls:List (List UInt8))(h8:ls.length≤8)(hb: ∀x∈ls,x.length≤1000000):DT 58 #[.pointer (some ⟨b,0,none⟩)] T0 [iq 160 5 b ls] (RI (.bool (Ih ls)) [iq 160 5 b (DR ls)]):=
 Leg.Does.pack (B:=[]) λq=>Leg.Does.fold (xD b q.1 q.2.2.1 q.2.2.2 q.2.1 ls h8 hb) λe H hp=>by
  cases e with
  |returned v=>
   unfold Ih DR;rcases hp with⟨h,rfl,rfl⟩| ⟨h1,h2,rfl,un,rfl⟩
   · exact⟨[iq 160 5 b ls],λ_ s=>br (p:=λq:Nat×List Value×Nat×Nat=>[an b [.chan (some q.1)] 160,ey q.1 8 q.2.1 q.2.2.1 q.2.2.2,eR q.2.1 ls 5]) (H:=[]) q s,by rw[decide_eq_false (by omega)],by rw[if_neg (by omega)]⟩
   · refine⟨[iq 160 5 b (ls++[ls.getD 0 []])],λ_ s=>?_,by rw[decide_eq_true (by omega)],by rw[if_pos (by omega)];rfl⟩
     have s1:=An 3 rfl rfl s;have s2:=aE [2,2] rfl s1;have s3:=uz s2;exact br (p:=λq:Nat×List Value×Nat×Nat=>[an b [.chan (some q.1)] 160,ey q.1 8 q.2.1 q.2.2.1 q.2.2.2,eR q.2.1 (ls++[ls.getD 0 []]) 5]) (H:=[]) (q.1,q.2.1++[un],q.2.2.1+q.2.1.length+1,q.2.2.2+q.2.1.length) (aE [1,1,0] rfl s3)
  |panicked c=>exact hp.elim
  |outgrown=>exact hp.elim
theorem tr(b:Nat)(ls:List (List UInt8))(h8:ls.length≤8)(hb: ∀x∈ls,x.length≤1000000):
 DT 59 #[(.pointer (some ⟨b,0,none⟩))] T0 [iq 160 5 b (ls)] (dL (λv H=>H=[iq 160 5 b (sF ls)])):=by
 refine BD 16 Tryz.func59 rfl rfl rfl λw0 F hF=>sr λ_ J1=>PS ?_
 refine nx J1 (sr λ_ J2=>PS ?_);refine CR Nk (tt b ls) ID λvR HR hR=>?_
 rcases hR with⟨rfl,rfl,rfl⟩| ⟨u,f,lt,rfl,rfl,rfl⟩
 refine P4 ?_;refine PS ?_;refine nx J2 (sr λ_ J3=>P2 ?_)
 iterate 3 refine UF ?_
 refine P2 ?_;exact nx J3 (ak (WK [0] (aw rfl rfl rfl)));refine P4 ?_;refine PS ?_;refine nx J2 (sr λ_ J4=>P4 ?_);refine CF Mk (vc b lt u f (hb f (cY ..))) ID (λg d s=>L6 (AU 0 rfl rfl g d s)) ?_;refine P2 ?_;refine nx J4 (ak (WK [0] (aw rfl rfl ?_)));exact congrArg (λq=>[iq 160 5 b q]) (if_pos (show lt.length<8 by have:=h8;rw[az]at this;omega))
end Go.Proofs.YtmcjhkbcmmddgaaGreat
end

section
namespace Leg
open Go
def RdG(S:World→Prop)(b:Nat){α:Type}(c:α→List Value)(T:TypeId):Prop:=∀w,S w→∃a,w.heap[b]?=some (.cells (c a).toArray T (0,0))
abbrev hid{α:Type}(b:Nat)(c:α→List Value)(T:TypeId)(R:α→List HP):HP:=pack (λa=>an b (c a) T::R a)
section
variable {P:Program} {w0:World} {F:Hl} {n:Nat} {ops:Array Oper} {Q:QQ} {D:List Deferred} {L:List (Nat×Value)} {H:List HP} {o:Oper} {l:List Oper} {d:Nat} {S:World→Prop} {α:Type} {b j:Nat} {c c':α→List Value} {T:TypeId} {R R':α→List HP}
theorem Sat.packOpen{p:α→List HP}{w:World}(i:Nat)(s:Sat H F w)(hi:i<H.length)(hH:H.getD i (λ_=>True)=pack p): ∃a,Sat (p a++H.eraseIdx i) F w:=by
 obtain⟨h,d,e,x⟩:=s;have y:=e6 i hi x;rw[hH]at y;obtain⟨a,z⟩:=fL (p:=p) (H:=H.eraseIdx i) (h:=h) y;exact⟨a,h,d,e,z⟩
theorem Sat.packShut{p:α→List HP}{w:World}(i:Nat)(hi:i<H.length)(a:α)(s:Sat (p a++H.eraseIdx i) F w):Sat (H.set i (pack p)) F w:=by
 obtain⟨h,d,e,x⟩:=s;exact⟨h,d,e,ku i hi (br a x)⟩
theorem RdG.own(i:Nat)(hi:Nat.blt i H.length=true)(hH:H.getD i (λ_=>True)=hid b c T R):RdG (Sat H F) b c T:=λw s=>by
 obtain⟨a,t⟩:=s.packOpen i (lb hi) hH;exact⟨a,t.block 0 (by simp) rfl⟩
abbrev cV:= @RdG.own
theorem PV.load1G{t:TypeId}{x:Operand}{dt:TypeDesc}{v:Value}(ho:o.op= .load t x)(ht:P.underlying t=some dt)(hp:eG dt=true)(hx:cI L x=some (.pointer (some ⟨b,j,none⟩)))(hR:RdG S b c T)(hc: ∀a,(c a)[j]?=some v):PV P n D L S o v:=
 λa w f m=>by
  obtain⟨y,hy⟩:=hR w m;exact fY (S:=λw'=>w'=w) ho ht hp hx (λ_ e=>e▸hy) (hc y) a w f rfl
abbrev df:= @PV.load1G
theorem PV.loadNG{t:TypeId}{x:Operand}{dt:TypeDesc}{m:Nat}{vs:List Value}(ho:o.op= .load t x)(ht:P.underlying t=some dt)(hp:eG dt=false)(hm:(P.info? t).map (·.size)=some m)(hx:cI L x=some (.pointer (some ⟨b,j,none⟩)))(hR:RdG S b c T)(hl:vs.length=m)(hc: ∀a,((c a).drop j).take m=vs):PV P n D L S o (.agg vs.toArray):=
 λa w f s=>by
  obtain⟨y,hy⟩:=hR w s;exact aL (S:=λw'=>w'=w) ho ht hp hm hx (λ_ e=>e▸hy) hl (hc y) a w f rfl
abbrev gD:= @PV.loadNG
theorem TL.storeG{i:Nat}{t:TypeId}{x y:Operand}{v:Value}{vs:List Value}(hw:Want n D ops o L)(ho:o.op= .store t x y)(hd:o.dst=none)
 (hx:cI L x=some (.pointer (some ⟨b,j,none⟩))) (hy:cI L y=some v) (hv:v.cells=vs.toArray) (hs:(P.info? t).map (·.size)=some vs.length) (h1: ∀u∈vs,u.oneCell'=true)
 (hi:Nat.blt i H.length=true) (hH:H.getD i (λ_=>True)=hid b c T R) (hl: ∀a,j+vs.length≤(c a).length) (hcs: ∀a,wr (c a) j vs=c' a)
 (h:TL P w0 F n ops Q l D L (H.set i (hid b c' T R))):TL P w0 F n ops Q (o::l) D L H:=
 TL.eff hw hd (λa w f _ m=>by
  obtain⟨q,m1⟩:=m.packOpen i (lb hi) hH;have hb:=m1.block 0 (by simp) rfl;refine⟨w.setRow b (wr (c q) j vs).toArray,by simp[execOp,ho,f.eval hx,f.eval hy,wJ hv hs h1 hb (hl q)],⟨rfl,rfl,rfl,by simp⟩,?_⟩;rw[hcs q]
  exact Sat.packShut (p:=λa=>an b (c' a) T::R a) i (lb hi) q (m1.write 0 (by simp) rfl (setRow_heap w b (c q).toArray _ T _ hb) (λk hk=>setRow_other w b k _ hk))) h
abbrev iw:= @TL.storeG
theorem TL.store1G{i:Nat}{t:TypeId}{x y:Operand}{v:Value}(hw:Want n D ops o L)(ho:o.op= .store t x y)(hd:o.dst=none)
 (hx:cI L x=some (.pointer (some ⟨b,j,none⟩))) (hy:cI L y=some v) (h1:v.oneCell'=true) (hs:(P.info? t).map (·.size)=some 1)
 (hi:Nat.blt i H.length=true) (hH:H.getD i (λ_=>True)=hid b c T R) (hl: ∀a,j< (c a).length) (hcs: ∀a,(c a).set j v=c' a)
 (h:TL P w0 F n ops Q l D L (H.set i (hid b c' T R))):TL P w0 F n ops Q (o::l) D L H:=
 iw (vs:=[v]) hw ho hd hx hy (by cases v<;>simp[Value.cells,Value.oneCell']at h1 ⊢) hs (by simpa using h1) hi hH (λa=>by have:=hl a;simp;omega)
  (λa=>by rw[←hcs a,wr,n9,if_pos (hl a)];simp) h
theorem GD{p p' a b c d:HP}{h:Hl}(e: ∀h,p h→p' h)(s:bN (a::b::c::d::p::H) h):bN (a::b::c::d::p'::H) h:=
 cE s (λ_ x=>x) λ_ s=>cE s (λ_ x=>x) λ_ s=>cE s (λ_ x=>x) λ_ s=>cE s (λ_ x=>x) λ_ s=>cE s e λ_ x=>x
theorem Does.hid{f:FuncId}{args:Array Value}{A:List HP}{q:Value→Prop}(h: ∀a,Does P f args (λ_=>True) (an b (c a) T::A) (dL λv H=>q v∧H=an b (c' a) T::A)):Does P f args (λ_=>True) (Leg.hid b c T R::A) (dL λv H=>q v∧H=Leg.hid b c' T R::A):=
 Does.pack λa=>Does.withinR (B:=R a) (h a) (λ_ _ _ _=>trivial) (λ_ s=>eF (List.Perm.cons (an b (c a) T) (List.perm_append_comm (l₁:=R a) (l₂:=A))) s) λv H hp=>by
  obtain⟨h1,rfl⟩:=hp;exact⟨_,λ_ s=>br (p:=λa=>an b (c' a) T::R a) a (eF (List.Perm.cons (an b (c' a) T) (List.perm_append_comm (l₁:=A) (l₂:=R a))) s),h1,rfl⟩
end
open Api
variable {P:Program} {w0:World} {F:Hl} {n:Nat} {ops:Array Oper} {Q:QQ} {D:List Deferred} {L:List (Nat×Value)} {H:List HP} {d:Nat} {o:Oper} {l:List Oper}
section
variable {A:Type} {b:Nat} {c:A→List Value} {T:TypeId} {R:A→List HP}
theorem LG{t:TypeId}{x:Operand}{dt:TypeDesc}{j:Nat}(k:Nat)(ht:P.underlying t=some dt)(v:Value)(h:TL P w0 F n ops Q l D ((d,v)::L) H)(hw:Want n D ops o L:=by first|exact ab rfl|exact co rfl rfl rfl)(hd:o.dst=some d:=by exact rfl)(hn:Nat.blt d n=true:=by exact rfl)(ho:o.op= .load t x:=by exact rfl)(hp:eG dt=true:=by exact rfl)(hx:cI L x=some (.pointer (some ⟨b,j,none⟩)):=by exact rfl)(hk:Nat.blt k H.length=true:=by exact rfl)(hH:H.getD k (λ_=>True)=hid b c T R:=by exact rfl)(hc: ∀a,(c a)[j]?=some v):TL P w0 F n ops Q (o::l) D L H:=lp hw hd hn (df ho ht hp hx (cV k hk hH) hc) h
theorem LZ{α:Type}{f:α→List Int}{t:TypeId}{x:Operand}{dt:TypeDesc}{j m:Nat}(k:Nat)(ht:P.underlying t=some dt)(hs:(P.info? t).map (·.size)=some m)(hf: ∀x,(ints (f x)).length=m)(y:α)(h:TL P w0 F n ops Q l D ((d, .agg (ints (f y)).toArray)::L) H)(hw:Want n D ops o L:=by first|exact ab rfl|exact co rfl rfl rfl)(hd:o.dst=some d:=by exact rfl)(hn:Nat.blt d n=true:=by exact rfl)(ho:o.op= .load t x:=by exact rfl)(hp:eG dt=false:=by exact rfl)(hx:cI L x=some (.pointer (some ⟨b,j,none⟩)):=by exact rfl)(hk:Nat.blt k H.length=true:=by exact rfl)(hH:H.getD k (λ_=>True)=hid b c T R:=by exact rfl)(hc: ∀a,((c a).drop j).take m=ints (f y)):TL P w0 F n ops Q (o::l) D L H:=lp hw hd hn (gD ho ht hp hs hx (cV k hk hH) (hf y) hc) h
theorem SK{o:Oper}{l:List Oper}{t:TypeId}{x y:Operand}{j m:Nat}{v:Value}{c':A→List Value}(k:Nat)(hs:(P.info? t).map (·.size)=some 1)(hl: ∀a,(c a).length=m)(h:TL P w0 F n ops Q l D L (H.set k (hid b c' T R)))(hw:Want n D ops o L:=by first|exact ab rfl|exact co rfl rfl rfl)(hd:o.dst=none:=by exact rfl)(ho:o.op= .store t x y:=by exact rfl)(hx:cI L x=some (.pointer (some ⟨b,j,none⟩)):=by exact rfl)(hy:cI L y=some v:=by exact rfl)(h1:v.oneCell'=true:=by exact rfl)(hk:Nat.blt k H.length=true:=by exact rfl)(hH:H.getD k (λ_=>True)=hid b c T R:=by exact rfl)(hj:Nat.blt j m=true:=by first|exact rfl|exact Nat.ble_eq_true_of_le (by omega))(hc: ∀a,(c a).set j v=c' a):TL P w0 F n ops Q (o::l) D L H:=TL.store1G hw ho hd hx hy h1 hs hk hH (λa=>(hl a)▸lb hj) hc h
end
end Leg
end

section
namespace Go.Proofs.YtmcjhkbcmmddgaaGreat
open Go Leg Codec Api Dsk Wal
structure Env(δ:Type) extends Dk δ where
 T:Nat
 ov:Value
 sf:Nat
 E:δ→List SaidT→HP
 lg:Nat→δ→HP
 me : xQ Tryz.prog T ov "Send" sf
 nm:Named Tryz.prog sf
 say: ∀(e:δ) (l:List SaidT) (to':Int) (m:MsgT),ok e→Leg.Does Tryz.prog sf #[ov, .int .i64 to', .agg (ints m.flat).toArray] (λ_=>True) [E e l] (dL (λ_ H=>H=[E e (if dn e then l else l++[SaidT.mk to' m])]))
 put: ∀(g:Nat) (x:Value) (bs:List UInt8) (e:δ) (l:List SaidT),ok e→bs.length≤3000→Leg.Does Tryz.prog 131 #[.pointer (some ⟨g,0,none⟩),x] (IsW x bs) [lg g e,E e l] (dL (λv H=>v= .int .i64 (pt e bs).2∧H=[lg g (pt e bs).1,E (pt e bs).1 l]))
def FG(vo:Value):Option VoteT→HP
 |none=>λ_=>vo= .pointer none
 |some vt=>λh=>∃b,vo= .pointer (some ⟨b,0,none⟩)∧an b (VoteT.cells vt) 187 h
abbrev cK{δ:Type}(V:Env δ)(r:Nat)(s:MS δ):HP:=hid r (λa:Adr=>RepT.cells (s.rep a)) 94 (λa=>[V.lg a.lg s.e,own a.rs s.replies.length (ints (s.replies.flatMap ReplyT.flat)) 175 3,FG a.vo s.vote,V.E s.e s.o])
abbrev vO{δ:Type}(V:Env δ)(r:Nat)(s:MS δ)(vo:Value):HP:=hid r (λa:Nat×Value=>RepT.cells (s.rep ⟨a.1,vo,a.2⟩)) 94 (λa=>[V.lg a.1 s.e,own a.2 s.replies.length (ints (s.replies.flatMap ReplyT.flat)) 175 3,V.E s.e s.o])
theorem jX{δ:Type}{V:Env δ}{r:Nat}{f:MS δ×Int}{X:MS δ}{y:Int}(e:f=(X,y)):Value.int .i64 y= .int .i64 f.2∧[cK V r X]=[cK V r f.1]:=by
 subst e;exact⟨rfl,rfl⟩
theorem GL{δ:Type}(V:Env δ)(r:Nat)(s:MS δ)(to':Int)(m:MsgT)[hs:OkR V.toDk s]:DT V.sf #[V.ov, .int .i64 to', .agg (ints m.flat).toArray] T0 [cK V r s] (dL (λ_ H=>H=[cK V r (x8 V.toDk s to' m)])):=
 Leg.Does.pack λa=>Leg.Does.withinR (V.say s.e s.o to' m hs.e) (λ_ _ _ _=>trivial) (λ_ q=>aE [4] rfl q) λv H hp=>by
  subst hp;refine⟨_,λ_ q=>?_,rfl⟩;have q2:=aE [1,1,1,1,0] rfl q;exact br (p:=λa:Adr=>[an r (RepT.cells (s.rep a)) 94,V.lg a.lg s.e,own a.rs s.replies.length (ints (s.replies.flatMap ReplyT.flat)) 175 3,FG a.vo s.vote,V.E s.e (if V.dn s.e then s.o else s.o++[SaidT.mk to' m])]) a q2
theorem gQ{δ:Type}(V:Env δ)(r:Nat)(s:MS δ)(to':Int)(m:MsgT)(f:MS δ→MS δ)(hT:to'=s.id→DT 62 #[.pointer (some ⟨r,0,none⟩), .iface V.T V.ov, .int .i64 s.id, .agg (ints m.flat).toArray] T0 [cK V r s] (dL (λ_ H=>H=[cK V r (f s)])))[OkR V.toDk s]:
 DT 105 #[(.pointer (some ⟨r,0,none⟩)),(.iface V.T V.ov),(.int .i64 (to')),(.agg (ints m.flat).toArray)] T0 [cK V r s] (dL (λ_ H=>H=[cK V r (lw V.toDk f s to' m)])):=by
 refine Leg.Does.body (vs:=[(.pointer (some ⟨r,0,none⟩)),(.iface V.T V.ov),(.int .i64 (to')),(.agg (ints m.flat).toArray)]) (n:=28) Tryz.func105 rfl rfl rfl (λw0 F hF=>?_);refine sr λ_ J1=>?_
 refine TL.box (ab rfl) rfl rfl rfl rfl (λb7=>?_);change TL _ _ _ _ _ _ _ _ _ [an b7 (ints m.flat) 136,cK V r s];refine nx J1 ?_;refine aa λ_ J2=>?_
 refine sr λ_ J3=>?_
 refine mv ?_;refine mv ?_;refine tp (gJ rfl rfl) ?_;refine tp (bl (r:=0) rfl db rfl aQ rfl rfl) ?_;refine tp (df (v:=(.int .i64 (s.id))) rfl Y3 rfl rfl (cV 1 rfl rfl) (λa_=>(cF (s.rep a_) rfl))) ?_;refine tp (Ot rfl rfl rfl) ?_;refine aq (λh13=>?_) (λh13=>?_);refine nx J3 ?_;refine nE rfl ?_;refine aa λ_ J4=>?_
 refine r9 (λw=>Frm F w∧w.heap[b7]?=some (.cells (ints m.flat).toArray 136 (0,0))∧True) bo rfl (λ_ s=>⟨fC s,s.block 0 (lb rfl) rfl,trivial⟩) ?_;refine ta 0 rfl (j8 rfl rfl) ?_;refine ta 1 rfl (j8 rfl rfl) ?_;refine ta 2 rfl (j8 rfl rfl) ?_;refine ta 3 rfl (gJ rfl rfl) ?_;refine ta 4 rfl (bl (r:=0) rfl db rfl aQ rfl rfl) ?_;refine ta 6 rfl (aL (vs:=ints m.flat) rfl bi rfl ci rfl (λ_ h=>h.2.1) (aJ m) (bn (aJ m))) ?_;refine cQ [5] (by kernel_rfl) rfl ?_;refine aH rfl ?_ ?_;refine tp (df (v:=(.int .i64 (s.id))) rfl Y3 rfl rfl (cV 1 rfl rfl) (λa_=>(cF (s.rep a_) rfl))) ?_;refine ax ?_;refine vh (λ_ s=>⟨fC s,s.block 0 (lb rfl) rfl,trivial⟩) ?_;refine cQ [7] (by kernel_rfl) rfl ?_;refine aH rfl ?_ ?_;refine li (ab rfl) rfl rfl rfl Nt rfl ((by have h:=hT h13;exact h)) (λ_ s=>aE [1] rfl s) (λ_ _ _=>trivial) (λvR HR hR=>?_);obtain rfl:=hR;refine ax ?_;refine vh (λ_ s=>⟨fC s,s.block 1 (lb rfl) rfl,trivial⟩) ?_;refine TD.done (by kernel_rfl) ?_;refine af J4 ?_;refine ak ?_;refine ae ?_;refine aG (dP _) (λ_ s=>ao [0] rfl s) ?_;refine dM rfl ?_;exact(congrArg (λq=>[cK V r q]) (if_pos h13)).symm;exact bL;exact bL;refine nx J3 ?_;refine Gk rfl ?_;refine aT ?_;refine af J2 ?_;refine sr λ_ J5=>?_
 refine mv ?_;refine tp (PV.ifaceNotNil rfl Tryz.underlying126 rfl) ?_;refine nx J5 ?_;refine nE rfl ?_;refine ag ?_;refine mv ?_;refine mv ?_;refine tp (aL (vs:=ints m.flat) rfl bi rfl ci rfl (fu 0 rfl rfl) (aJ m) (bn (aJ m))) ?_;refine TL.callI (ab rfl) rfl rfl rfl rfl V.me V.nm rfl (GL V r s to' m) (λ_ s=>aE [1] rfl s) (λ_ _ _=>trivial) (λvR HR hR=>?_);obtain rfl:=hR;refine ax ?_;refine aG (dP _) (λ_ s=>ao [0] rfl s) ?_;refine bE rfl ?_;exact(congrArg (λq=>[cK V r q]) (if_neg h13)).symm
theorem jN{δ:Type}(V:Env δ)(r:Nat)(s:MS δ)(to':Int)(m:MsgT)(hto:to'≠s.id)[OkR V.toDk s]:DT 105 #[.pointer (some ⟨r,0,none⟩), .iface V.T V.ov, .int .i64 to', .agg (ints m.flat).toArray] T0 [cK V r s] (dL (λ_ H=>H=[cK V r (iN V.toDk s [⟨to',m⟩])])):=by
 have h:=gQ V r s to' m id (λe=>absurd e hto)
 rwa [show lw V.toDk id s to' m=iN V.toDk s [⟨to',m⟩]from if_neg hto]at h
theorem oq{δ:Type}(V:Env δ)(r:Nat)(s:MS δ)(l:List SaidT)(to':Int)(m:MsgT)(hto:to'≠s.id)[OkR V.toDk s]:DT 105 #[.pointer (some ⟨r,0,none⟩), .iface V.T V.ov, .int .i64 to', .agg (ints m.flat).toArray] T0 [cK V r (iN V.toDk s l)] (dL (λ_ H=>H=[cK V r (iN V.toDk s (l++[⟨to',m⟩]))])):=by
 have h:=jN V r (iN V.toDk s l) to' m hto
 rwa [It]at h
theorem MQ{δ:Type}{V:Env δ}{r:Nat}{a b:MS δ}(h:a=b):[cK V r a]=[cK V r b]:=by rw[h]
theorem nZ{δ:Type}(V:Env δ)(r:Nat)(s:MS δ)[OkR V.toDk s]:
 DT 63 #[(.pointer (some ⟨r,0,none⟩)),(.iface V.T V.ov)] T0 [cK V r s] (dL (λ_ H=>H=[cK V r (fz V.toDk s)])):=by
 refine BD 40 Tryz.func63 rfl rfl rfl λw0 F hF=>?_
 have hid:cw s.id=true:=OkR.id;have hid2:0≤s.id∧s.id<5:=of_decide_eq_true hid;refine aa λ_ J1=>DB bo (cV 0 rfl rfl) ?_
 refine PD 0 ?_;refine PD 1 ?_;refine FD 2 0 db aQ ?_;refine ta 3 rfl (df (v:=(.int .i64 (s.id))) rfl Y3 rfl rfl (λ_ h=>h.2.1) (λa_=>(cF _ rfl))) ?_;refine PD 4 ?_;refine PD 5 ?_;refine FD 6 9 db bj ?_;refine ta 7 rfl (gD (vs:=ints s.own.flat) rfl ez rfl bj rfl (λ_ h=>h.2.1) (am s.own) (λa_=>(yw (s.rep a_) 0 rfl (by decide) (bn (am ((s.rep a_).own)))))) ?_;refine ta 8 rfl (lu MsgT.zero (MsgT.mk 0 s.id s.own 0 0 BallotT.zero BallotT.zero ChangeT.zero ViewT.zero) [(0,[Value.int .i64 0]),(1,[Value.int .i64 s.id]),(2,ints s.own.flat)] bi bv (g:=MsgT.sg)) ?_;refine AL 9 ?_;refine XZ mB (ints MsgT.zero.flat) λb4=>?_
 refine EN (AL 10 ?_);refine SW 0 ci aJ ?_;refine EN (DN (af J1 (sr λ_ J2=>P2 ?_)));refine FA 0 db aQ ?_;refine LG 1 Y3 (.int .i64 (s.id)) ?_ (hc:=by exact λa_=>(cF _ rfl));refine CR IS (qI s.id hid) ID λvR HR hR=>?_
 obtain⟨_,rfl,rfl⟩:=hR;revert vR;intro uw;refine kj 0 rfl rfl (λhluw _=>kl 0 rfl rfl (by omega) (λgw capw hvw hcapw=>tp (dW rfl kE rfl hluw) ?_));refine PS ?_;refine nx J2 (av (sh 2 (sr λ_ J3=>PS ?_)));refine nx J3 (aa λ_ J4=>CY (qx J4 (aa λ_ J5=>av (sr λ_ J6=>tp (ca (r:=0) hvw rfl kE aQ rfl rfl (by omega) (by omega) rfl) ?_))));refine tp (de (v:=(.int .i64 (((s.id+1)%5)))) rfl Y3 rfl rfl (gO 0 rfl hvw rfl) rfl) ?_;refine PS ?_;refine nx J6 (sr λ_ J7=>P2 ?_);refine FA 1939 db aQ ?_;refine LG 2 Y3 (.int .i64 (s.kept)) ?_ (hc:=by exact λa_=>(sd _ rfl));refine PS ?_;refine tp (l7 (r:=(s.kept.fdiv (2^min (((s.id+1)%5)).toNat IntKind.i64.bits))) rfl rfl rfl (by omega) rfl) ?_;refine tp (vA (r:=((s.kept.fdiv (2^min (((s.id+1)%5)).toNat IntKind.i64.bits))%2)) rfl rfl rfl (mask (k:=1) (by decide) _)) ?_;refine PS ?_;refine aq ?_ ?_<;>intro h33;refine nx J7 (CY (ag (P3 ?_)));refine LW 1 bi ci aJ ?_;refine CZ jA (jN V r s ((s.id+1)%5) (MsgT.mk 0 s.id s.own 0 0 BallotT.zero BallotT.zero ChangeT.zero ViewT.zero) (by omega)) (SM [2]) λvR=>?_
 refine ax (ah (af J5 (ag (tp (cG (r:=1) rfl rfl rfl (by decide)) ?_))));refine PS ?_;refine ax (eM (sr λ_ J8=>PS ?_));refine nx J8 (aa λ_ J9=>CY (qx J9 (aa λ_ J10=>av (sr λ_ J11=>tp (ca (r:=1) hvw rfl kE aQ rfl rfl (by omega) (by omega) rfl) ?_))));refine tp (de (v:=(.int .i64 (((s.id+2)%5)))) rfl Y3 rfl rfl (gO 1 rfl hvw rfl) rfl) ?_;refine PS ?_;refine nx J11 (sr λ_ J12=>P2 ?_);refine FA 1939 db aQ ?_;refine LG 0 Y3 (.int .i64 (s.kept)) ?_ (hc:=by exact λa_=>(sd _ rfl));refine PS ?_;refine tp (l7 (r:=(s.kept.fdiv (2^min (((s.id+2)%5)).toNat IntKind.i64.bits))) rfl rfl rfl (by omega) rfl) ?_;refine tp (vA (r:=((s.kept.fdiv (2^min (((s.id+2)%5)).toNat IntKind.i64.bits))%2)) rfl rfl rfl (mask (k:=1) (by decide) _)) ?_;refine PS ?_;refine aq ?_ ?_<;>intro h33;refine nx J12 (CY (ag (P3 ?_)));refine LW 2 bi ci aJ ?_;refine CZ jA (oq V r s ([SaidT.mk ((s.id+1)%5) (MsgT.mk 0 s.id s.own 0 0 BallotT.zero BallotT.zero ChangeT.zero ViewT.zero)]) ((s.id+2)%5) (MsgT.mk 0 s.id s.own 0 0 BallotT.zero BallotT.zero ChangeT.zero ViewT.zero) (by omega)) ID λvR=>?_
 refine ax (ah (af J10 (ag (tp (cG (r:=2) rfl rfl rfl (by decide)) ?_))));refine PS ?_;refine ax (eM (sr λ_ J13=>PS ?_));refine nx J13 (aa λ_ J14=>CN (bg (aC (aC (bD (WK [0] (bE rfl ?_)))))));exact MQ (by rw[fz,show pu (s.rep .nil)=[SaidT.mk ((s.id+1)%5) (MsgT.mk 0 s.id s.own 0 0 BallotT.zero BallotT.zero ChangeT.zero ViewT.zero)]++[SaidT.mk ((s.id+2)%5) (MsgT.mk 0 s.id s.own 0 0 BallotT.zero BallotT.zero ChangeT.zero ViewT.zero)]by rw[pu,iy,if_pos hid];simp[Bh,ua,MsgT.zero,Adr.nil, *]]);refine nx J12 (CN (aT (ah (af J10 (ag (tp (cG (r:=2) rfl rfl rfl (by decide)) ?_))))));refine PS ?_;refine ax (eM (sr λ_ J15=>PS ?_));refine nx J15 (aa λ_ J16=>CN (bg (aC (aC (bD (WK [0] (bE rfl ?_)))))));exact MQ (by rw[fz,show pu (s.rep .nil)=[SaidT.mk ((s.id+1)%5) (MsgT.mk 0 s.id s.own 0 0 BallotT.zero BallotT.zero ChangeT.zero ViewT.zero)]by rw[pu,iy,if_pos hid];simp[Bh,ua,MsgT.zero,Adr.nil, *]]);refine nx J7 (CN (aT (ah (af J5 (ag (tp (cG (r:=1) rfl rfl rfl (by decide)) ?_))))));refine PS ?_;refine ax (eM (sr λ_ J17=>PS ?_));refine nx J17 (aa λ_ J18=>CY (qx J18 (aa λ_ J19=>av (sr λ_ J20=>tp (ca (r:=1) hvw rfl kE aQ rfl rfl (by omega) (by omega) rfl) ?_))));refine tp (de (v:=(.int .i64 (((s.id+2)%5)))) rfl Y3 rfl rfl (gO 0 rfl hvw rfl) rfl) ?_;refine PS ?_;refine nx J20 (sr λ_ J21=>P2 ?_);refine FA 1939 db aQ ?_;refine LG 2 Y3 (.int .i64 (s.kept)) ?_ (hc:=by exact λa_=>(sd _ rfl))
 refine PS ?_;refine tp (l7 (r:=(s.kept.fdiv (2^min (((s.id+2)%5)).toNat IntKind.i64.bits))) rfl rfl rfl (by omega) rfl) ?_;refine tp (vA (r:=((s.kept.fdiv (2^min (((s.id+2)%5)).toNat IntKind.i64.bits))%2)) rfl rfl rfl (mask (k:=1) (by decide) _)) ?_;refine PS ?_;refine aq ?_ ?_<;>intro h33;refine nx J21 (CY (ag (P3 ?_)));refine LW 1 bi ci aJ ?_;refine CZ jA (jN V r s ((s.id+2)%5) (MsgT.mk 0 s.id s.own 0 0 BallotT.zero BallotT.zero ChangeT.zero ViewT.zero) (by omega)) (SM [2]) λvR=>?_
 refine ax (ah (af J19 (ag (tp (cG (r:=2) rfl rfl rfl (by decide)) ?_))));refine PS ?_;refine ax (eM (sr λ_ J22=>PS ?_));refine nx J22 (aa λ_ J23=>CN (bg (aC (aC (bD (WK [0] (bE rfl ?_)))))));exact MQ (by rw[fz,show pu (s.rep .nil)=[SaidT.mk ((s.id+2)%5) (MsgT.mk 0 s.id s.own 0 0 BallotT.zero BallotT.zero ChangeT.zero ViewT.zero)]by rw[pu,iy,if_pos hid];simp[Bh,ua,MsgT.zero,Adr.nil, *]]);refine nx J21 (CN (aT (ah (af J19 (ag (tp (cG (r:=2) rfl rfl rfl (by decide)) ?_))))));refine PS ?_;refine ax (eM (sr λ_ J24=>PS ?_));refine nx J24 (aa λ_ J25=>CN (bg (aC (aC (bD (WK [2] (bE rfl ?_)))))));exact MQ (by rw[fz,show pu (s.rep .nil)=[]by rw[pu,iy,if_pos hid];simp[Bh,ua,MsgT.zero,Adr.nil, *]];exact(qb _ _).symm)
theorem m7{δ:Type}(V:Env δ)(r:Nat)(s:MS δ)(y:RowT)[OkR V.toDk s]:
 DT 68 #[(.pointer (some ⟨r,0,none⟩)),(.iface V.T V.ov),(.agg (ints y.flat).toArray)] T0 [cK V r s] (dL (λ_ H=>H=[cK V r (lC V.toDk s y)])):=by
 refine BD 27 Tryz.func68 rfl rfl rfl λw0 F hF=>sr λ_ J1=>XY (ints y.flat) λb5=>?_
 refine nx J1 (sr λ_ J2=>PS ?_);refine nx J2 (av ?_)
 refine bG (α:=(Nat)) (λk=>k≤5) (λk=>[(0,(.pointer (some ⟨r,0,none⟩))),(1,(.iface V.T V.ov)),(5,(.pointer (some ⟨b5,0,none⟩))),(7,(.int .i64 (((k:Nat):Int))))]) (λk=>[an b5 (ints y.flat) 51,cK V r (iN V.toDk s (nf s.id (qM s.id y) (λ_=>true) k))]) (λk=>5-k) 0
  (aP _) SB
  (λ_ q=>by
  rw[show nf s.id (qM s.id y) (λ_=>true) 0=[]from rfl,qb]
  exact q) (λk hinv=>?_)
 obtain hk:=hinv;refine sr λ_ J3=>PS ?_
 refine aq ?_ ?_<;>intro h8;refine nx J3 (aa λ_ J4=>CY (qx J4 (aa λ_ J5=>av (sr λ_ J6=>P2 ?_))));refine nx J6 (sr λ_ J7=>P3 ?_);refine FA 0 db aQ ?_;refine LG 1 Y3 (.int .i64 (s.id)) ?_ (hc:=by exact λa_=>(cF _ rfl));refine PS ?_;refine aq ?_ ?_<;>intro h15;refine nx J7 (CY (DC bo (cV 1 rfl rfl) (BL 0) ?_));refine PD 0 ?_;refine PD 1 ?_;refine PD 2 ?_;refine PD 3 ?_;refine PD 4 ?_;refine FD 5 0 db aQ ?_;refine ta 6 rfl (df (v:=(.int .i64 (s.id))) rfl Y3 rfl rfl (λ_ h=>h.2.1) (λa_=>(cF _ rfl))) ?_;refine LY 7 ez bj am ?_;refine ta 8 rfl (lu MsgT.zero (MsgT.mk 2 s.id y 0 0 BallotT.zero BallotT.zero ChangeT.zero ViewT.zero) [(0,[Value.int .i64 2]),(1,[Value.int .i64 s.id]),(2,ints y.flat)] bi bv (g:=MsgT.sg)) ?_;refine AL 9 ?_;refine CZ jA (oq V r s (nf s.id (qM s.id y) (λ_=>true) k) ((k:Nat):Int) (MsgT.mk 2 s.id y 0 0 BallotT.zero BallotT.zero ChangeT.zero ViewT.zero) h15) (SM [1]) λvR=>?_
 refine EN (DN (ah (af J5 (ag (AD ?_)))));refine PS ?_;refine ax ?_
 exact aN ((k+1):(Nat)) (by omega) (by show 5- (k+1)<5-k;omega)
  SB
  (λ_ q=>by
   rw[je,if_pos ⟨h15,rfl⟩]
   exact ao [1,0] rfl q)
 refine nx J7 (CN (aT (ah (af J5 (ag (AD ?_))))));refine PS ?_;refine ax ?_
 exact aN ((k+1):(Nat)) (by omega) (by show 5- (k+1)<5-k;omega)
  SB
  (λ_ q=>by
   rw[je,if_neg (by omega)];rw[aU]
   exact ao [0,0] rfl q)
 refine nx J3 (aa λ_ J8=>CN (bg (aC (aC (bD (WK [1] (bE rfl ?_)))))));obtain rfl:k=5:=by omega
 exact rfl
theorem m6{δ:Type}(V:Env δ)(r:Nat)(s:MS δ)(v:ViewT)[OkR V.toDk s]:
 DT 66 #[(.pointer (some ⟨r,0,none⟩)),(.iface V.T V.ov),(.agg (ints v.flat).toArray)] T0 [cK V r s] (dL (λ_ H=>H=[cK V r (lB V.toDk s v)])):=by
 refine BD 23 Tryz.func66 rfl rfl rfl λw0 F hF=>sr λ_ J1=>XY (ints v.flat) λb5=>?_
 refine nx J1 (sr λ_ J2=>PS ?_);refine nx J2 (av ?_)
 refine bG (α:=(Nat)) (λk=>k≤5) (λk=>[(0,(.pointer (some ⟨r,0,none⟩))),(1,(.iface V.T V.ov)),(5,(.pointer (some ⟨b5,0,none⟩))),(7,(.int .i64 (((k:Nat):Int))))]) (λk=>[an b5 (ints v.flat) 29,cK V r (iN V.toDk s (nf s.id (fI v) (λ_=>true) k))]) (λk=>5-k) 0
  (aP _) SB
  (λ_ q=>by
  rw[show nf s.id (fI v) (λ_=>true) 0=[]from rfl,qb]
  exact q) (λk hinv=>?_)
 obtain hk:=hinv;refine sr λ_ J3=>PS ?_
 refine aq ?_ ?_<;>intro h8;refine nx J3 (aa λ_ J4=>CY (qx J4 (aa λ_ J5=>av (sr λ_ J6=>P2 ?_))));refine nx J6 (sr λ_ J7=>P3 ?_);refine FA 0 db aQ ?_;refine LG 1 Y3 (.int .i64 (s.id)) ?_ (hc:=by exact λa_=>(cF _ rfl));refine PS ?_;refine aq ?_ ?_<;>intro h15;refine nx J7 (CY (ag (P3 ?_)));refine LW 0 eL be ai ?_;refine tp (lu MsgT.zero (MsgT.mk 7 0 RowT.zero 0 0 BallotT.zero BallotT.zero ChangeT.zero v) [(0,[Value.int .i64 7]),(8,ints v.flat)] bi bv (g:=MsgT.sg)) ?_;refine CZ jA (oq V r s (nf s.id (fI v) (λ_=>true) k) ((k:Nat):Int) (MsgT.mk 7 0 RowT.zero 0 0 BallotT.zero BallotT.zero ChangeT.zero v) h15) (SM [1]) λvR=>?_
 refine ax (ah (af J5 (ag (AD ?_))));refine PS ?_;refine ax ?_
 exact aN ((k+1):(Nat)) (by omega) (by show 5- (k+1)<5-k;omega)
  SB
  (λ_ q=>by
   rw[je,if_pos ⟨h15,rfl⟩]
   exact ao [1,0] rfl q)
 refine nx J7 (CN (aT (ah (af J5 (ag (AD ?_))))));refine PS ?_;refine ax ?_
 exact aN ((k+1):(Nat)) (by omega) (by show 5- (k+1)<5-k;omega)
  SB
  (λ_ q=>by
   rw[je,if_neg (by omega)];rw[aU]
   exact ao [0,0] rfl q)
 refine nx J3 (aa λ_ J8=>CN (bg (aC (aC (bD (WK [1] (bE rfl ?_)))))));obtain rfl:k=5:=by omega
 exact rfl
end Go.Proofs.YtmcjhkbcmmddgaaGreat
end
