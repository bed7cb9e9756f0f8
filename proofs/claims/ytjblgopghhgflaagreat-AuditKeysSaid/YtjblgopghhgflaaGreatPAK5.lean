/-
  Joined texts:what a statement's proof reaches.
-/
import Derived.Conc.LoneCalls
import Derived.Conc.LoneSelectN
import Derived.Test.YtjblgopghhgflaaGreatPAK4
set_option maxHeartbeats 8000000
set_option maxRecDepth 100000
set_option linter.unusedSimpArgs false
set_option linter.unusedVariables false
section
namespace Go.Proofs.YtjblgopghhgflaaGreat
open Go Leg Codec Api
theorem Ax(rb:Nat)(v:Value)(bs:List UInt8):
 DT 142 #[(.pointer (some ⟨rb,0,none⟩))] (IsB v bs) [ak rb [v] 197] (nX 197 ix (λmb:MsgT×Bool=> .tuple #[.agg (ints mb.1.flat).toArray, .bool mb.2]) cM v bs rb):=by
 refine BD 85 Tryz.func142 rfl rfl rfl λw0 F hF=>sr λ_ J1=>XZ mB (ints MsgT.zero.flat) λb2=>?_
 refine PS ?_;refine nx J1 (sr λ_ J2=>PS ?_);refine CP jr (cV rb v bs (10)) (SM [1]) (λ_ d _=>(hF).more d) (λcP HP hP=>?_) (λvR HR hR=>?_);obtain⟨vP,rfl,rfl,hpP⟩:=hP;refine ax (WK [0] (aS ?_));exact⟨_,rfl,rfl,by simp[cM,bR hpP, *]⟩;obtain⟨a1,r1,v1,rfl,rfl,hp1,ht1⟩:=hR;have hf1:=ht1 _ hF;refine tp (lm MsgT.zero (MsgT.mk a1 0 RowT.zero 0 0 BallotT.zero BallotT.zero ChangeT.zero ViewT.zero) [(0,[Value.int .i64 a1])] bf bv (g:=MsgT.sg)) ?_;refine XZ mB (ints MsgT.zero.flat) λb4=>?_
 refine SW 0 cb aI ?_;refine nx J2 (aa λ_ J3=>sr λ_ J4=>FA 0 bf aQ ?_);refine LT 0 Y3 (.int .i64 (a1)) ?_ (hc:=by exact eX _ rfl);refine nx J4 (aq (aa λ_ J5=>fg (α:=Unit) (λ_u=>True) (λ_u=>[(0,(.pointer (some ⟨rb,0,none⟩))),(2,(.pointer (some ⟨b2,0,none⟩))),(3,(.bool false)),(4,(.pointer (some ⟨b4,0,none⟩))),(9,(.int .i64 (a1))),(10,(.bool ((ek a1))))]) (λ_u=>[ak b4 (ints (MsgT.mk a1 0 RowT.zero 0 0 BallotT.zero BallotT.zero ChangeT.zero ViewT.zero).flat) 178,ak rb [v1] 197,ak b2 (ints MsgT.zero.flat) 178]) (λ_u hinv=>?_) (λtl5=>?_)));have _:=hinv;refine ac J5 (TC.cond rfl (λh10=>?_) (λh10=>?_));refine sr λ_ J6=>PS ?_
 refine CP jr (cV rb v1 r1 (5)) (SM [1]) (λ_ d _=>(hf1).more d) (λcP HP hP=>?_) (λvR HR hR=>?_);obtain⟨vP,rfl,rfl,hpP⟩:=hP;refine ax (aO (ax (WK [0] (aS ?_))));exact⟨_,rfl,rfl,by simp[cM,aE hp1,bR hpP,h10, *]⟩;obtain⟨a2,r2,v2,rfl,rfl,hp2,ht2⟩:=hR;have hf2:=ht2 _ hf1;refine FA 1 bf aQ ?_;refine SS 1 aQ (aI _) (MsgT.set_whose _ rfl _) ?_;refine nx J6 (sr λ_ J7=>PS ?_);refine CP Iz (tP rb v2 r2) ID (λ_ d _=>(hf2).more d) (λcP HP hP=>?_) (λvR HR hR=>?_);obtain⟨vP,rfl,rfl,hpP⟩:=hP;refine ax (aO (ax (WK [0] (aS ?_))));exact⟨_,rfl,rfl,by simp[cM,aE hp1,aE hp2,bR hpP,h10, *]⟩;obtain⟨a3,r3,v3,rfl,rfl,hp3,ht3⟩:=hR;have hf3:=ht3 _ hf2;refine FA 2 bf be ?_;refine SP 1 be aj aI MsgT.wp_row ?_;refine nx J7 (aa λ_ J8=>D1 1 bm ?_);refine LY 0 bf cb aI ?_;refine FD 1 2 bf be ?_;refine ta 2 rfl (aM (vs:=ints a3.flat) rfl ee rfl be rfl (λ_ h=>h.2.1) (aj a3) (mq (MsgT.mk a1 a2 a3 0 0 BallotT.zero BallotT.zero ChangeT.zero ViewT.zero) 0 rfl (by decide) (whole (aj a3)))) ?_;refine AL 3 ?_;refine CE GY (iL a3 (Ar hp3)) ID ?_;refine EN (AL 4 ?_);refine SW 2 cb aI ?_;refine EN (PD 5 ?_);refine DN (ac J8 (ai (aJ (af (RT 2 [0] bf cb (aI _) ?_)))));exact⟨((MsgT.mk a1 a2 a3 0 0 BallotT.zero BallotT.zero ChangeT.zero ViewT.zero),(gD a3)),_,_,rfl,rfl,by simp[cM,pr,aE hp1,aE hp2,aE hp3,h10,MsgT.zero,RecT.zero, *],(ht1.trans (ht2.trans ht3))⟩;refine sr λ_ J9=>PS ?_
 refine ao ?_ ?_<;>intro h25;refine PS ?_;refine nx J9 (CY (ae (PS ?_)));refine CP p5 (jp rb v1 r1) (SM [1]) (λ_ d _=>(hf1).more d) (λcP HP hP=>?_) (λvR HR hR=>?_);obtain⟨vP,rfl,rfl,hpP⟩:=hP;refine aO (ax (WK [0] (aS ?_)));exact⟨_,rfl,rfl,by simp[cM,ek,e5,aE hp1,bR hpP,h10,h25, *]⟩;obtain⟨a2,r2,v2,rfl,rfl,hp2,ht2⟩:=hR;have hf2:=ht2 _ hf1;refine FA 176 bf aQ ?_;refine SS 1 aQ (aI _) (MsgT.set_version _ rfl _) ?_;refine au (ag (ac J3 (sr λ_ J10=>LW 1 bf cb aI ?_)));refine SW 2 cb aI ?_;refine PS ?_;refine nx J10 (ai (RT 2 [0] bf cb (aI _) ?_));exact⟨((MsgT.mk a1 0 RowT.zero a2 0 BallotT.zero BallotT.zero ChangeT.zero ViewT.zero),true),_,_,rfl,rfl,by simp[cM,ek,e5,pr,aE hp1,aE hp2,h10,h25,MsgT.zero,RecT.zero, *],(ht1.trans ht2)⟩;refine PS ?_;refine nx J9 (CN (aa λ_ J11=>fg (α:=Unit) (λ_u=>True) (λ_u=>[(0,(.pointer (some ⟨rb,0,none⟩))),(2,(.pointer (some ⟨b2,0,none⟩))),(3,(.bool false)),(4,(.pointer (some ⟨b4,0,none⟩))),(9,(.int .i64 (a1))),(29,(.bool ((e5 a1))))]) (λ_u=>[ak b4 (ints (MsgT.mk a1 0 RowT.zero 0 0 BallotT.zero BallotT.zero ChangeT.zero ViewT.zero).flat) 178,ak rb [v1] 197,ak b2 (ints MsgT.zero.flat) 178]) (λ_u hinv=>?_) (λtl11=>?_)));have _:=hinv;refine ac J11 (TC.cond rfl (λh29=>?_) (λh29=>?_));refine sr λ_ J12=>PS ?_
 refine CP p5 (jp rb v1 r1) (SM [1]) (λ_ d _=>(hf1).more d) (λcP HP hP=>?_) (λvR HR hR=>?_);obtain⟨vP,rfl,rfl,hpP⟩:=hP;refine ax (aO (ax (WK [0] (aS ?_))));exact⟨_,rfl,rfl,by simp[cM,aE hp1,bR hpP,h10,h25,h29, *]⟩;obtain⟨a2,r2,v2,rfl,rfl,hp2,ht2⟩:=hR;have hf2:=ht2 _ hf1;refine FA 177 bf aQ ?_;refine SS 1 aQ (aI _) (Oh _ rfl _) ?_;refine nx J12 (ae (PS ?_));refine CP zi (jF rb v2 r2) ID (λ_ d _=>(hf2).more d) (λcP HP hP=>?_) (λvR HR hR=>?_);obtain⟨vP,rfl,rfl,hpP⟩:=hP;refine aO (ax (WK [0] (aS ?_)));exact⟨_,rfl,rfl,by simp[cM,aE hp1,aE hp2,bR hpP,h10,h25,h29, *]⟩;obtain⟨a3,r3,v3,rfl,rfl,hp3,ht3⟩:=hR;have hf3:=ht3 _ hf2;refine FA 178 bf cz ?_;refine SP 1 cz ap aI Og ?_;refine au (ag (ac J3 (sr λ_ J13=>LW 1 bf cb aI ?_)));refine SW 2 cb aI ?_;refine PS ?_;refine nx J13 (ai (RT 2 [0] bf cb (aI _) ?_));exact⟨((MsgT.mk a1 0 RowT.zero 0 a2 a3 BallotT.zero ChangeT.zero ViewT.zero),true),_,_,rfl,rfl,by simp[cM,pr,aE hp1,aE hp2,aE hp3,h10,h25,h29,MsgT.zero,RecT.zero, *],(ht1.trans (ht2.trans ht3))⟩;refine sr λ_ J14=>PS ?_
 refine ao ?_ ?_<;>intro h39;refine PS ?_;refine nx J14 (CY (sr λ_ J15=>PS ?_));refine CP p5 (jp rb v1 r1) (SM [1]) (λ_ d _=>(hf1).more d) (λcP HP hP=>?_) (λvR HR hR=>?_);obtain⟨vP,rfl,rfl,hpP⟩:=hP;refine ax (aO (ax (WK [0] (aS ?_))));exact⟨_,rfl,rfl,by simp[cM,ek,e5,aE hp1,bR hpP,h10,h25,h29,h39, *]⟩;obtain⟨a2,r2,v2,rfl,rfl,hp2,ht2⟩:=hR;have hf2:=ht2 _ hf1;refine FA 177 bf aQ ?_;refine SS 1 aQ (aI _) (Oh _ rfl _) ?_;refine nx J15 (sr λ_ J16=>PS ?_);refine CP zi (jF rb v2 r2) ID (λ_ d _=>(hf2).more d) (λcP HP hP=>?_) (λvR HR hR=>?_);obtain⟨vP,rfl,rfl,hpP⟩:=hP;refine ax (aO (ax (WK [0] (aS ?_))));exact⟨_,rfl,rfl,by simp[cM,ek,e5,aE hp1,aE hp2,bR hpP,h10,h25,h29,h39, *]⟩;obtain⟨a3,r3,v3,rfl,rfl,hp3,ht3⟩:=hR;have hf3:=ht3 _ hf2;refine FA 178 bf cz ?_;refine SP 1 cz ap aI Og ?_;refine nx J16 (sr λ_ J17=>PS ?_);refine CP zi (jF rb v3 r3) ID (λ_ d _=>(hf3).more d) (λcP HP hP=>?_) (λvR HR hR=>?_);obtain⟨vP,rfl,rfl,hpP⟩:=hP;refine ax (aO (ax (WK [0] (aS ?_))));exact⟨_,rfl,rfl,by simp[cM,ek,e5,aE hp1,aE hp2,aE hp3,bR hpP,h10,h25,h29,h39, *]⟩;obtain⟨a4,r4,v4,rfl,rfl,hp4,ht4⟩:=hR;have hf4:=ht4 _ hf3;refine FA 180 bf cz ?_;refine SP 1 cz ap aI MsgT.wp_had ?_;refine nx J17 (ae (PS ?_));refine CP Iy (oQ rb v4 r4) ID (λ_ d _=>(hf4).more d) (λcP HP hP=>?_) (λvR HR hR=>?_);obtain⟨vP,rfl,rfl,hpP⟩:=hP
 refine aO (ax (WK [0] (aS ?_)));exact⟨_,rfl,rfl,by simp[cM,ek,e5,aE hp1,aE hp2,aE hp3,aE hp4,bR hpP,h10,h25,h29,h39, *]⟩;obtain⟨a5,r5,v5,rfl,rfl,hp5,ht5⟩:=hR;have hf5:=ht5 _ hf4;refine FA 182 bf fI ?_;refine SP 1 fI aL aI Of ?_;refine au (ag (ac J3 (sr λ_ J18=>LW 1 bf cb aI ?_)));refine SW 2 cb aI ?_;refine PS ?_;refine nx J18 (ai (RT 2 [0] bf cb (aI _) ?_));exact⟨((MsgT.mk a1 0 RowT.zero 0 a2 a3 a4 a5 ViewT.zero),true),_,_,rfl,rfl,by simp[cM,ek,e5,pr,aE hp1,aE hp2,aE hp3,aE hp4,aE hp5,h10,h25,h29,h39,MsgT.zero,RecT.zero, *],(ht1.trans (ht2.trans (ht3.trans (ht4.trans ht5))))⟩;refine PS ?_;refine nx J14 (CN (sr λ_ J19=>PS ?_));refine ao ?_ ?_<;>intro h53;refine PS ?_;refine nx J19 (CY (sr λ_ J20=>PS ?_));refine CP p5 (jp rb v1 r1) (SM [1]) (λ_ d _=>(hf1).more d) (λcP HP hP=>?_) (λvR HR hR=>?_);obtain⟨vP,rfl,rfl,hpP⟩:=hP;refine ax (aO (ax (WK [0] (aS ?_))));exact⟨_,rfl,rfl,by simp[cM,ek,e5,aE hp1,bR hpP,h10,h25,h29,h39,h53, *]⟩;obtain⟨a2,r2,v2,rfl,rfl,hp2,ht2⟩:=hR;have hf2:=ht2 _ hf1;refine FA 177 bf aQ ?_;refine SS 1 aQ (aI _) (Oh _ rfl _) ?_;refine nx J20 (sr λ_ J21=>PS ?_);refine CP zi (jF rb v2 r2) ID (λ_ d _=>(hf2).more d) (λcP HP hP=>?_) (λvR HR hR=>?_);obtain⟨vP,rfl,rfl,hpP⟩:=hP;refine ax (aO (ax (WK [0] (aS ?_))));exact⟨_,rfl,rfl,by simp[cM,ek,e5,aE hp1,aE hp2,bR hpP,h10,h25,h29,h39,h53, *]⟩
 obtain⟨a3,r3,v3,rfl,rfl,hp3,ht3⟩:=hR;have hf3:=ht3 _ hf2;refine FA 178 bf cz ?_;refine SP 1 cz ap aI Og ?_;refine nx J21 (ae (PS ?_));refine CP Iy (oQ rb v3 r3) ID (λ_ d _=>(hf3).more d) (λcP HP hP=>?_) (λvR HR hR=>?_);obtain⟨vP,rfl,rfl,hpP⟩:=hP;refine aO (ax (WK [0] (aS ?_)));exact⟨_,rfl,rfl,by simp[cM,ek,e5,aE hp1,aE hp2,aE hp3,bR hpP,h10,h25,h29,h39,h53, *]⟩;obtain⟨a4,r4,v4,rfl,rfl,hp4,ht4⟩:=hR;have hf4:=ht4 _ hf3;refine FA 182 bf fI ?_;refine SP 1 fI aL aI Of ?_;refine au (ag (ac J3 (sr λ_ J22=>LW 1 bf cb aI ?_)));refine SW 2 cb aI ?_;refine PS ?_;refine nx J22 (ai (RT 2 [0] bf cb (aI _) ?_));exact⟨((MsgT.mk a1 0 RowT.zero 0 a2 a3 BallotT.zero a4 ViewT.zero),true),_,_,rfl,rfl,by simp[cM,ek,e5,pr,aE hp1,aE hp2,aE hp3,aE hp4,h10,h25,h29,h39,h53,MsgT.zero,RecT.zero, *],(ht1.trans (ht2.trans (ht3.trans ht4)))⟩;refine PS ?_;refine nx J19 (CN (sr λ_ J23=>PS ?_));refine ao ?_ ?_<;>intro h64;refine PS ?_;refine nx J23 (CY (sr λ_ J24=>PS ?_));refine CP Ix (rm rb v1 r1) (SM [1]) (λ_ d _=>(hf1).more d) (λcP HP hP=>?_) (λvR HR hR=>?_);obtain⟨vP,rfl,rfl,hpP⟩:=hP;refine ax (aO (ax (WK [0] (aS ?_))));exact⟨_,rfl,rfl,by simp[cM,ek,e5,aE hp1,bR hpP,h10,h25,h29,h39,h53,h64, *]⟩;obtain⟨a2,r2,v2,rfl,rfl,hp2,ht2⟩:=hR;have hf2:=ht2 _ hf1;refine FA 185 bf bk ?_;refine SP 1 bk an aI MsgT.wp_view ?_;refine nx J24 (aa λ_ J25=>D1 1 bm ?_)
 refine LY 0 bf cb aI ?_;refine FD 1 185 bf bk ?_;refine ta 2 rfl (aM (vs:=ints a2.flat) rfl eS rfl bk rfl (λ_ h=>h.2.1) (an a2) (vz (MsgT.mk a1 0 RowT.zero 0 0 BallotT.zero BallotT.zero ChangeT.zero a2) 0 rfl (by decide) (whole (an a2)))) ?_;refine AL 3 ?_;refine CE Mj (mX a2 (sv hp2)) ID ?_;refine EN (AL 4 ?_);refine SW 2 cb aI ?_;refine EN (PD 5 ?_);refine DN (ac J25 (ai (aJ (af (RT 2 [0] bf cb (aI _) ?_)))));exact⟨((MsgT.mk a1 0 RowT.zero 0 0 BallotT.zero BallotT.zero ChangeT.zero a2),(ki a2)),_,_,rfl,rfl,by simp[cM,ek,e5,pr,aE hp1,aE hp2,h10,h25,h29,h39,h53,h64,MsgT.zero,RecT.zero, *],(ht1.trans ht2)⟩;refine PS ?_;refine nx J23 (CN (sr λ_ J26=>PS ?_));refine ao ?_ ?_<;>intro h73;refine PS ?_;refine nx J26 (CY (sr λ_ J27=>PS ?_));refine CP jr (cV rb v1 r1 (5)) (SM [1]) (λ_ d _=>(hf1).more d) (λcP HP hP=>?_) (λvR HR hR=>?_);obtain⟨vP,rfl,rfl,hpP⟩:=hP;refine ax (aO (ax (WK [0] (aS ?_))));exact⟨_,rfl,rfl,by simp[cM,ek,e5,aE hp1,bR hpP,h10,h25,h29,h39,h53,h64,h73, *]⟩;obtain⟨a2,r2,v2,rfl,rfl,hp2,ht2⟩:=hR;have hf2:=ht2 _ hf1;refine FA 1 bf aQ ?_;refine SS 1 aQ (aI _) (MsgT.set_whose _ rfl _) ?_;refine nx J27 (sr λ_ J28=>PS ?_);refine CP Ix (rm rb v2 r2) ID (λ_ d _=>(hf2).more d) (λcP HP hP=>?_) (λvR HR hR=>?_);obtain⟨vP,rfl,rfl,hpP⟩:=hP;refine ax (aO (ax (WK [0] (aS ?_))))
 exact⟨_,rfl,rfl,by simp[cM,ek,e5,aE hp1,aE hp2,bR hpP,h10,h25,h29,h39,h53,h64,h73, *]⟩;obtain⟨a3,r3,v3,rfl,rfl,hp3,ht3⟩:=hR;have hf3:=ht3 _ hf2;refine FA 185 bf bk ?_;refine SP 1 bk an aI MsgT.wp_view ?_;refine nx J28 (aa λ_ J29=>D1 1 bm ?_);refine LY 0 bf cb aI ?_;refine FD 1 185 bf bk ?_;refine ta 2 rfl (aM (vs:=ints a3.flat) rfl eS rfl bk rfl (λ_ h=>h.2.1) (an a3) (vz (MsgT.mk a1 a2 RowT.zero 0 0 BallotT.zero BallotT.zero ChangeT.zero a3) 0 rfl (by decide) (whole (an a3)))) ?_;refine AL 3 ?_;refine CE Mj (mX a3 (sv hp3)) ID ?_;refine EN (AL 4 ?_);refine SW 2 cb aI ?_;refine EN (PD 5 ?_);refine DN (ac J29 (ai (aJ (af (RT 2 [0] bf cb (aI _) ?_)))));exact⟨((MsgT.mk a1 a2 RowT.zero 0 0 BallotT.zero BallotT.zero ChangeT.zero a3),(ki a3)),_,_,rfl,rfl,by simp[cM,ek,e5,pr,aE hp1,aE hp2,aE hp3,h10,h25,h29,h39,h53,h64,h73,MsgT.zero,RecT.zero, *],(ht1.trans (ht2.trans ht3))⟩;refine PS ?_;refine nx J26 (CN (aU (ag (ac J3 (sr λ_ J30=>LW 0 bf cb aI ?_)))));refine SW 2 cb aI ?_;refine PS ?_;refine nx J30 (ai (RT 2 [1] bf cb (aI _) ?_));exact⟨((MsgT.mk a1 0 RowT.zero 0 0 BallotT.zero BallotT.zero ChangeT.zero ViewT.zero),true),_,_,rfl,rfl,by simp[cM,pr,aE hp1,h10,h25,h29,h39,h53,h64,h73,MsgT.zero,RecT.zero, *],ht1⟩;refine sr λ_ J31=>P2 ?_
 refine ao ?_ ?_<;>intro h29;refine nx J31 (CY (aU ?_))
 exact aF
  (aT (aT (aT (aT (aT (bz rfl (by simp[e5, *]) SB))))))
  (λ_ s=>s)
  (tl11 (():Unit) trivial)
 refine nx J31 (CN (ae (PS ?_)));refine ao ?_ ?_<;>intro h31;refine PS ?_;refine au ?_
 exact aF
  (aT (aT (aT (aT (aT (bz rfl (by simp[e5, *]) SB))))))
  (λ_ s=>s)
  (tl11 (():Unit) trivial)
 refine PS ?_;refine au ?_
 exact aF
  (aT (aT (aT (aT (aT (bz rfl (by simp[e5, *]) SB))))))
  (λ_ s=>s)
  (tl11 (():Unit) trivial)
 refine sr λ_ J32=>P2 ?_
 refine ao ?_ ?_<;>intro h10;refine nx J32 (CY (aU ?_))
 exact aF
  (aT (aT (aT (aT (aT (bz rfl (by simp[ek, *]) SB))))))
  (λ_ s=>s)
  (tl5 (():Unit) trivial)
 refine nx J32 (CN (sr λ_ J33=>P2 ?_));refine ao ?_ ?_<;>intro h10;refine nx J33 (CY (aU ?_))
 exact aF
  (aT (aT (aT (aT (aT (bz rfl (by simp[ek, *]) SB))))))
  (λ_ s=>s)
  (tl5 (():Unit) trivial)
 refine nx J33 (CN (ae (PS ?_)));refine ao ?_ ?_<;>intro h13;refine PS ?_;refine au ?_
 exact aF
  (aT (aT (aT (aT (aT (bz rfl (by simp[ek, *]) SB))))))
  (λ_ s=>s)
  (tl5 (():Unit) trivial)
 refine PS ?_;refine au ?_
 exact aF
  (aT (aT (aT (aT (aT (bz rfl (by simp[ek, *]) SB))))))
  (λ_ s=>s)
  (tl5 (():Unit) trivial)
theorem Aw(rb:Nat)(v:Value)(bs:List UInt8):
 DT 83 #[(.pointer (some ⟨rb,0,none⟩))] (IsB v bs) [ak rb [v] 197] (nX 197 ix (λmb:RecT×Bool=> .tuple #[.agg (ints mb.1.flat).toArray, .bool mb.2]) dx v bs rb):=by
 refine BD 65 Tryz.func83 rfl rfl rfl λw0 F hF=>sr λ_ J1=>XZ ML (ints RecT.zero.flat) λb2=>?_
 refine PS ?_;refine nx J1 (sr λ_ J2=>PS ?_);refine CP jr (cV rb v bs (6)) (SM [1]) (λ_ d _=>(hF).more d) (λcP HP hP=>?_) (λvR HR hR=>?_);obtain⟨vP,rfl,rfl,hpP⟩:=hP;refine ax (WK [0] (aS ?_));exact⟨_,rfl,rfl,by simp[dx,ek,e5,bR hpP, *]⟩;obtain⟨a1,r1,v1,rfl,rfl,hp1,ht1⟩:=hR;have hf1:=ht1 _ hF;refine tp (lm RecT.zero (RecT.mk a1 0 RowT.zero 0 BallotT.zero ChangeT.zero ViewT.zero) [(0,[Value.int .i64 a1])] je fh (g:=RecT.sg)) ?_;refine XZ ML (ints RecT.zero.flat) λb4=>?_
 refine SW 0 jm bq ?_;refine nx J2 (aa λ_ J3=>sr λ_ J4=>FA 0 je aQ ?_);refine LT 0 Y3 (.int .i64 (a1)) ?_ (hc:=by exact kA _ rfl);refine nx J4 (aq (sr λ_ J5=>PS ?_));refine ao ?_ ?_<;>intro h11;refine PS ?_;refine nx J5 (CY (sr λ_ J6=>PS ?_));refine CP Iz (tP rb v1 r1) (SM [1]) (λ_ d _=>(hf1).more d) (λcP HP hP=>?_) (λvR HR hR=>?_);obtain⟨vP,rfl,rfl,hpP⟩:=hP;refine ax (aO (ax (WK [0] (aS ?_))));exact⟨_,rfl,rfl,by simp[dx,ek,e5,aE hp1,bR hpP,h11, *]⟩;obtain⟨a2,r2,v2,rfl,rfl,hp2,ht2⟩:=hR;have hf2:=ht2 _ hf1;refine FA 2 je be ?_;refine SP 1 be aj bq RecT.wp_row ?_;refine nx J6 (aa λ_ J7=>D1 1 bm ?_);refine LY 0 je jm bq ?_;refine FD 1 2 je be ?_;refine ta 2 rfl (aM (vs:=ints a2.flat) rfl ee rfl be rfl (λ_ h=>h.2.1) (aj a2) (rU (RecT.mk a1 0 a2 0 BallotT.zero ChangeT.zero ViewT.zero) 0 rfl (by decide) (whole (aj a2)))) ?_;refine AL 3 ?_;refine CE GY (iL a2 (Ar hp2)) ID ?_;refine EN (AL 4 ?_);refine SW 2 jm bq ?_;refine EN (PD 5 ?_);refine DN (ac J7 (ai (aJ (af (RT 2 [0] je jm (bq _) ?_)))));exact⟨((RecT.mk a1 0 a2 0 BallotT.zero ChangeT.zero ViewT.zero),(gD a2)),_,_,rfl,rfl,by simp[dx,ek,e5,pr,aE hp1,aE hp2,h11,MsgT.zero,RecT.zero, *],(ht1.trans ht2)⟩;refine PS ?_;refine nx J5 (CN (sr λ_ J8=>PS ?_));refine ao ?_ ?_<;>intro h20;refine PS ?_;refine nx J8 (CY (sr λ_ J9=>PS ?_))
 refine CP jr (cV rb v1 r1 (5)) (SM [1]) (λ_ d _=>(hf1).more d) (λcP HP hP=>?_) (λvR HR hR=>?_);obtain⟨vP,rfl,rfl,hpP⟩:=hP;refine ax (aO (ax (WK [0] (aS ?_))));exact⟨_,rfl,rfl,by simp[dx,ek,e5,aE hp1,bR hpP,h11,h20, *]⟩;obtain⟨a2,r2,v2,rfl,rfl,hp2,ht2⟩:=hR;have hf2:=ht2 _ hf1;refine FA 1 je aQ ?_;refine SS 1 aQ (bq _) (RecT.set_whose _ rfl _) ?_;refine nx J9 (sr λ_ J10=>PS ?_);refine CP Iz (tP rb v2 r2) ID (λ_ d _=>(hf2).more d) (λcP HP hP=>?_) (λvR HR hR=>?_);obtain⟨vP,rfl,rfl,hpP⟩:=hP;refine ax (aO (ax (WK [0] (aS ?_))));exact⟨_,rfl,rfl,by simp[dx,ek,e5,aE hp1,aE hp2,bR hpP,h11,h20, *]⟩;obtain⟨a3,r3,v3,rfl,rfl,hp3,ht3⟩:=hR;have hf3:=ht3 _ hf2;refine FA 2 je be ?_;refine SP 1 be aj bq RecT.wp_row ?_;refine nx J10 (aa λ_ J11=>D1 1 bm ?_);refine LY 0 je jm bq ?_;refine FD 1 2 je be ?_;refine ta 2 rfl (aM (vs:=ints a3.flat) rfl ee rfl be rfl (λ_ h=>h.2.1) (aj a3) (rU (RecT.mk a1 a2 a3 0 BallotT.zero ChangeT.zero ViewT.zero) 0 rfl (by decide) (whole (aj a3)))) ?_;refine AL 3 ?_;refine CE GY (iL a3 (Ar hp3)) ID ?_;refine EN (AL 4 ?_);refine SW 2 jm bq ?_;refine EN (PD 5 ?_);refine DN (ac J11 (ai (aJ (af (RT 2 [0] je jm (bq _) ?_)))));exact⟨((RecT.mk a1 a2 a3 0 BallotT.zero ChangeT.zero ViewT.zero),(gD a3)),_,_,rfl,rfl,by simp[dx,ek,e5,pr,aE hp1,aE hp2,aE hp3,h11,h20,MsgT.zero,RecT.zero, *],(ht1.trans (ht2.trans ht3))⟩;refine PS ?_
 refine nx J8 (CN (sr λ_ J12=>PS ?_));refine ao ?_ ?_<;>intro h32;refine PS ?_;refine nx J12 (CY (ae (PS ?_)));refine CP jr (cV rb v1 r1 (5)) (SM [1]) (λ_ d _=>(hf1).more d) (λcP HP hP=>?_) (λvR HR hR=>?_);obtain⟨vP,rfl,rfl,hpP⟩:=hP;refine aO (ax (WK [0] (aS ?_)));exact⟨_,rfl,rfl,by simp[dx,ek,e5,aE hp1,bR hpP,h11,h20,h32, *]⟩;obtain⟨a2,r2,v2,rfl,rfl,hp2,ht2⟩:=hR;have hf2:=ht2 _ hf1;refine FA 1 je aQ ?_;refine SS 1 aQ (bq _) (RecT.set_whose _ rfl _) ?_;refine au (ag (ac J3 (sr λ_ J13=>LW 1 je jm bq ?_)));refine SW 2 jm bq ?_;refine PS ?_;refine nx J13 (ai (RT 2 [0] je jm (bq _) ?_));exact⟨((RecT.mk a1 a2 RowT.zero 0 BallotT.zero ChangeT.zero ViewT.zero),true),_,_,rfl,rfl,by simp[dx,ek,e5,pr,aE hp1,aE hp2,h11,h20,h32,MsgT.zero,RecT.zero, *],(ht1.trans ht2)⟩;refine PS ?_;refine nx J12 (CN (sr λ_ J14=>PS ?_));refine ao ?_ ?_<;>intro h37;refine PS ?_;refine nx J14 (CY (sr λ_ J15=>PS ?_));refine CP p5 (jp rb v1 r1) (SM [1]) (λ_ d _=>(hf1).more d) (λcP HP hP=>?_) (λvR HR hR=>?_);obtain⟨vP,rfl,rfl,hpP⟩:=hP;refine ax (aO (ax (WK [0] (aS ?_))));exact⟨_,rfl,rfl,by simp[dx,ek,e5,aE hp1,bR hpP,h11,h20,h32,h37, *]⟩;obtain⟨a2,r2,v2,rfl,rfl,hp2,ht2⟩:=hR;have hf2:=ht2 _ hf1;refine FA 176 je aQ ?_;refine SS 1 aQ (bq _) (RecT.set_epoch _ rfl _) ?_;refine nx J15 (ae (PS ?_))
 refine CP zi (jF rb v2 r2) ID (λ_ d _=>(hf2).more d) (λcP HP hP=>?_) (λvR HR hR=>?_);obtain⟨vP,rfl,rfl,hpP⟩:=hP;refine aO (ax (WK [0] (aS ?_)));exact⟨_,rfl,rfl,by simp[dx,ek,e5,aE hp1,aE hp2,bR hpP,h11,h20,h32,h37, *]⟩;obtain⟨a3,r3,v3,rfl,rfl,hp3,ht3⟩:=hR;have hf3:=ht3 _ hf2;refine FA 177 je cz ?_;refine SP 1 cz ap bq RecT.wp_ballot ?_;refine au (ag (ac J3 (sr λ_ J16=>LW 1 je jm bq ?_)));refine SW 2 jm bq ?_;refine PS ?_;refine nx J16 (ai (RT 2 [0] je jm (bq _) ?_));exact⟨((RecT.mk a1 0 RowT.zero a2 a3 ChangeT.zero ViewT.zero),true),_,_,rfl,rfl,by simp[dx,ek,e5,pr,aE hp1,aE hp2,aE hp3,h11,h20,h32,h37,MsgT.zero,RecT.zero, *],(ht1.trans (ht2.trans ht3))⟩;refine PS ?_;refine nx J14 (CN (sr λ_ J17=>PS ?_));refine ao ?_ ?_<;>intro h45;refine PS ?_;refine nx J17 (CY (sr λ_ J18=>PS ?_));refine CP p5 (jp rb v1 r1) (SM [1]) (λ_ d _=>(hf1).more d) (λcP HP hP=>?_) (λvR HR hR=>?_);obtain⟨vP,rfl,rfl,hpP⟩:=hP;refine ax (aO (ax (WK [0] (aS ?_))));exact⟨_,rfl,rfl,by simp[dx,ek,e5,aE hp1,bR hpP,h11,h20,h32,h37,h45, *]⟩;obtain⟨a2,r2,v2,rfl,rfl,hp2,ht2⟩:=hR;have hf2:=ht2 _ hf1;refine FA 176 je aQ ?_;refine SS 1 aQ (bq _) (RecT.set_epoch _ rfl _) ?_;refine nx J18 (sr λ_ J19=>PS ?_);refine CP zi (jF rb v2 r2) ID (λ_ d _=>(hf2).more d) (λcP HP hP=>?_) (λvR HR hR=>?_);obtain⟨vP,rfl,rfl,hpP⟩:=hP;refine ax (aO (ax (WK [0] (aS ?_))))
 exact⟨_,rfl,rfl,by simp[dx,ek,e5,aE hp1,aE hp2,bR hpP,h11,h20,h32,h37,h45, *]⟩;obtain⟨a3,r3,v3,rfl,rfl,hp3,ht3⟩:=hR;have hf3:=ht3 _ hf2;refine FA 177 je cz ?_;refine SP 1 cz ap bq RecT.wp_ballot ?_;refine nx J19 (ae (PS ?_));refine CP Iy (oQ rb v3 r3) ID (λ_ d _=>(hf3).more d) (λcP HP hP=>?_) (λvR HR hR=>?_);obtain⟨vP,rfl,rfl,hpP⟩:=hP;refine aO (ax (WK [0] (aS ?_)));exact⟨_,rfl,rfl,by simp[dx,ek,e5,aE hp1,aE hp2,aE hp3,bR hpP,h11,h20,h32,h37,h45, *]⟩;obtain⟨a4,r4,v4,rfl,rfl,hp4,ht4⟩:=hR;have hf4:=ht4 _ hf3;refine FA 179 je fI ?_;refine SP 1 fI aL bq RecT.wp_change ?_;refine au (ag (ac J3 (sr λ_ J20=>LW 1 je jm bq ?_)));refine SW 2 jm bq ?_;refine PS ?_;refine nx J20 (ai (RT 2 [0] je jm (bq _) ?_));exact⟨((RecT.mk a1 0 RowT.zero a2 a3 a4 ViewT.zero),true),_,_,rfl,rfl,by simp[dx,ek,e5,pr,aE hp1,aE hp2,aE hp3,aE hp4,h11,h20,h32,h37,h45,MsgT.zero,RecT.zero, *],(ht1.trans (ht2.trans (ht3.trans ht4)))⟩;refine PS ?_;refine nx J17 (CN (sr λ_ J21=>PS ?_));refine ao ?_ ?_<;>intro h56;refine PS ?_;refine nx J21 (CY (sr λ_ J22=>PS ?_));refine CP Ix (rm rb v1 r1) (SM [1]) (λ_ d _=>(hf1).more d) (λcP HP hP=>?_) (λvR HR hR=>?_);obtain⟨vP,rfl,rfl,hpP⟩:=hP;refine ax (aO (ax (WK [0] (aS ?_))));exact⟨_,rfl,rfl,by simp[dx,ek,e5,aE hp1,bR hpP,h11,h20,h32,h37,h45,h56, *]⟩;obtain⟨a2,r2,v2,rfl,rfl,hp2,ht2⟩:=hR;have hf2:=ht2 _ hf1
 refine FA 182 je bk ?_;refine SP 1 bk an bq RecT.wp_view ?_;refine nx J22 (aa λ_ J23=>D1 1 bm ?_);refine LY 0 je jm bq ?_;refine FD 1 182 je bk ?_;refine ta 2 rfl (aM (vs:=ints a2.flat) rfl eS rfl bk rfl (λ_ h=>h.2.1) (an a2) (Py (RecT.mk a1 0 RowT.zero 0 BallotT.zero ChangeT.zero a2) 0 rfl (by decide) (whole (an a2)))) ?_;refine AL 3 ?_;refine CE Mj (mX a2 (sv hp2)) ID ?_;refine EN (AL 4 ?_);refine SW 2 jm bq ?_;refine EN (PD 5 ?_);refine DN (ac J23 (ai (aJ (af (RT 2 [0] je jm (bq _) ?_)))));exact⟨((RecT.mk a1 0 RowT.zero 0 BallotT.zero ChangeT.zero a2),(ki a2)),_,_,rfl,rfl,by simp[dx,ek,e5,pr,aE hp1,aE hp2,h11,h20,h32,h37,h45,h56,MsgT.zero,RecT.zero, *],(ht1.trans ht2)⟩;refine PS ?_;refine nx J21 (CN (aU (ag (ac J3 (sr λ_ J24=>LW 0 je jm bq ?_)))));refine SW 2 jm bq ?_;refine PS ?_;refine nx J24 (ai (RT 2 [1] je jm (bq _) ?_));exact⟨((RecT.mk a1 0 RowT.zero 0 BallotT.zero ChangeT.zero ViewT.zero),true),_,_,rfl,rfl,by simp[dx,ek,e5,pr,aE hp1,h11,h20,h32,h37,h45,h56,MsgT.zero,RecT.zero, *],ht1⟩
theorem Es(rb mb gb:Nat)(v:Value)(bs:List UInt8)(m0:MsgT)(g0:Bool):
 DT 141 #[(.pointer (some ⟨rb,0,none⟩)),(.pointer (some ⟨mb,0,none⟩)),(.pointer (some ⟨gb,0,none⟩))] (IsB v bs) [ak rb [v] 197,ak mb (ints m0.flat) 178,ak gb [(.bool (g0))] 4] (vv (λ_ H=>∃x' r a,H=ak rb [x'] 197::[ak mb (ints a.1.flat) 178,ak gb [.bool a.2] 4]∧Tail v bs x' r∧cM bs=some (a,r)) (λc H=>c=ix∧∃(x':Value) (_:Unit),H=ak rb [x'] 197::[ak mb (ints m0.flat) 178,ak gb [.bool g0] 4]∧cM bs=none)):=by
 refine BD 9 Tryz.func141 rfl rfl rfl λw0 F hF=>ae (PS ?_)
 refine CP NG (Ax rb v bs) ID (λ_ d _=>(hF).more d) (λcP HP hP=>?_) (λvR HR hR=>?_);obtain⟨vP,rfl,rfl,hpP⟩:=hP;exact WK [0,0,0] (aS ⟨rfl,_,(),rfl,hpP⟩);obtain⟨a1,r1,v1,rfl,rfl,hp1,ht1⟩:=hR;refine P3 ?_;refine SW 1 cb aI ?_;refine S0 2 k9 ?_;exact au (WK [0,0,0] (bD rfl ⟨_,_,_,rfl,ht1,hp1⟩))
theorem C6(x:Value)(bs:List UInt8):
 DT 104 #[x] (IsB x bs) [] (RI (.tuple #[.agg (ints (gE bs).1.flat).toArray, .int .i64 (gE bs).2]) []):=by
 refine Leg.Does.body (vs:=[x]) (n:=18) Tryz.func104 rfl rfl rfl (λw0 F hF=>?_);refine sr λ_ J1=>?_
 refine qn (ab rfl) rfl rfl rfl mB (λb2=>?_);change TL _ _ _ _ _ _ _ _ _ [ak b2 (ints MsgT.zero.flat) 178];refine pC ?_;refine nx J1 ?_;clear J1;refine sr λ_ J2=>?_
 refine qn (ab rfl) rfl rfl rfl mB (λb4=>?_);change TL _ _ _ _ _ _ _ _ _ [ak b4 (ints MsgT.zero.flat) 178,ak b2 (ints MsgT.zero.flat) 178];refine nx J2 ?_;clear J2;refine sr λ_ J3=>?_
 refine qn (ab rfl) rfl rfl rfl z4 (λb5=>?_);refine bF (i:=0) (ab rfl) rfl rfl rfl rfl rfl k9 rfl rfl (lb rfl) rfl rfl ?_;refine nx J3 ?_;clear J3;refine sr λ_ J4=>?_
 refine mv ?_;refine tp (PH rfl rfl) ?_;refine kX (ab rfl) rfl rfl rfl M6 rfl (za (bs:=bs) (C:=[ak b4 (ints MsgT.zero.flat) 178,ak b5 [(.bool false)] 4]) (caps:=[(.pointer (some ⟨b4,0,none⟩)),(.pointer (some ⟨b5,0,none⟩))]) (A:=λa:MsgT×Bool=>[ak b4 (ints a.1.flat) 178,ak b5 [.bool a.2] 4]) (G:=λ_:Unit=>[ak b4 (ints MsgT.zero.flat) 178,ak b5 [(.bool false)] 4]) (φ:=λa r=>cM bs=some (a,r)) (ψ:=λ_=>cM bs=none) (λ_ h=>h) (λ_ _ h d=>h.more d) NH (λrb=>Es rb b4 b5 x bs MsgT.zero false)) (λ_ s=>aC [1,0] rfl s) (λ_ d _=>(hF).more d) (λvR HR hR=>?_);rcases hR with⟨r,⟨m,g⟩,rfl,rfl,hs⟩| ⟨_,rfl,rfl,hs⟩
 refine ao (λh9=>?_) (λh9=>?_);refine pC ?_;refine nx J4 ?_;clear J4;refine aa λ_ J5=>?_
 refine sr λ_ J6=>?_
 refine mv ?_;refine tp (oB (r:=false) rfl rfl rfl) ?_;refine mv ?_;refine tq (ii (v:=(.bool (g))) rfl Y4 rfl rfl (fi 1 rfl rfl) rfl) ?_;refine bc (λh13=>?_) (λh13=>?_);refine tq (oB (r:=false) rfl rfl rfl) ?_;refine tp (yJ rfl rfl rfl) ?_;refine nx J6 ?_;clear J6;refine F2 rfl ?_;refine aU ?_;refine ac J5 ?_;clear J5;refine sr λ_ J7=>?_
 refine tp (aM (vs:=ints m.flat) rfl bf rfl cb rfl (fi 0 rfl rfl) (aI m) (whole (aI m))) ?_;refine bN (vs:=ints m.flat) (i:=2) (ab rfl) rfl rfl rfl rfl rfl (by rw[(aI m)];exact cb) (bC _) rfl rfl (by have h0:=(aI MsgT.zero);have h1:=(aI m);omega) (ct ((aI MsgT.zero).trans (aI m).symm)) rfl ?_;refine pC ?_;refine nx J7 ?_;clear J7;refine ai ?_;refine l6 (H':=[]) rfl rfl rfl bf rfl cb (fi 2 rfl rfl) (aI m) (λ_ s=>am [] rfl s) ?_;exact⟨by simp[gE, *],rfl⟩;refine tq (oB (r:=true) rfl rfl rfl) ?_;refine tp (yJ rfl rfl rfl) ?_;refine nx J6 ?_;clear J6;refine ny rfl ?_;refine sr λ_ J8=>?_
 refine tp (j8 (cells:=(ints MsgT.zero.flat).toArray) rfl rfl (by as_aux_lemma=>kernel_rfl)) ?_;refine bN (vs:=ints MsgT.zero.flat) (i:=2) (ab rfl) rfl rfl rfl rfl rfl (by rw[(aI MsgT.zero)];exact cb) (bC _) rfl rfl (by have h0:=(aI MsgT.zero);have h1:=(aI MsgT.zero);omega) (ct ((aI MsgT.zero).trans (aI MsgT.zero).symm)) rfl ?_;refine pC ?_;refine nx J8 ?_;clear J8;refine ai ?_;refine af ?_;clear J5;refine l6 (H':=[]) rfl rfl rfl bf rfl cb (fi 2 rfl rfl) (aI MsgT.zero) (λ_ s=>am [] rfl s) ?_;exact⟨by simp[gE, *],rfl⟩;refine pC ?_;refine nx J4 ?_;clear J4;refine aa λ_ J9=>?_
 refine sr λ_ J10=>?_
 refine mv ?_;refine tp (oB (r:=true) rfl rfl rfl) ?_;refine mv ?_;refine qm (b:=true) rfl rfl rfl rfl (lb rfl) ?_;refine qm (b:=true) rfl rfl rfl rfl (lb rfl) ?_;refine tp (yJ rfl rfl rfl) ?_;refine nx J10 ?_;clear J10;refine ny rfl ?_;refine sr λ_ J11=>?_
 refine tp (j8 (cells:=(ints MsgT.zero.flat).toArray) rfl rfl (by as_aux_lemma=>kernel_rfl)) ?_;refine bN (vs:=ints MsgT.zero.flat) (i:=2) (ab rfl) rfl rfl rfl rfl rfl (by rw[(aI MsgT.zero)];exact cb) (bC _) rfl rfl (by have h0:=(aI MsgT.zero);have h1:=(aI MsgT.zero);omega) (ct ((aI MsgT.zero).trans (aI MsgT.zero).symm)) rfl ?_;refine pC ?_;refine nx J11 ?_;clear J11;refine ai ?_;refine af ?_;clear J9;refine l6 (H':=[]) rfl rfl rfl bf rfl cb (fi 2 rfl rfl) (aI MsgT.zero) (λ_ s=>am [] rfl s) ?_;exact⟨by simp[gE, *],rfl⟩;refine pC ?_;refine nx J4 ?_;clear J4;refine aa λ_ J12=>?_
 refine sr λ_ J13=>?_
 refine mv ?_;refine tp (oB (r:=true) rfl rfl rfl) ?_;refine mv ?_;refine qm (b:=true) rfl rfl rfl rfl (lb rfl) ?_;refine qm (b:=true) rfl rfl rfl rfl (lb rfl) ?_;refine tp (yJ rfl rfl rfl) ?_;refine nx J13 ?_;clear J13;refine ny rfl ?_;refine sr λ_ J14=>?_
 refine tp (j8 (cells:=(ints MsgT.zero.flat).toArray) rfl rfl (by as_aux_lemma=>kernel_rfl)) ?_;refine bN (vs:=ints MsgT.zero.flat) (i:=2) (ab rfl) rfl rfl rfl rfl rfl (by rw[(aI MsgT.zero)];exact cb) (bC _) rfl rfl (by have h0:=(aI MsgT.zero);have h1:=(aI MsgT.zero);omega) (ct ((aI MsgT.zero).trans (aI MsgT.zero).symm)) rfl ?_;refine pC ?_;refine nx J14 ?_;clear J14;refine ai ?_;refine af ?_;clear J12;refine l6 (H':=[]) rfl rfl rfl bf rfl cb (fi 2 rfl rfl) (aI MsgT.zero) (λ_ s=>am [] rfl s) ?_;exact⟨by simp[gE, *],rfl⟩
theorem Gz(rb mb gb:Nat)(v:Value)(bs:List UInt8)(m0:RecT)(g0:Bool):
 DT 82 #[(.pointer (some ⟨rb,0,none⟩)),(.pointer (some ⟨mb,0,none⟩)),(.pointer (some ⟨gb,0,none⟩))] (IsB v bs) [ak rb [v] 197,ak mb (ints m0.flat) 90,ak gb [(.bool (g0))] 4] (vv (λ_ H=>∃x' r a,H=ak rb [x'] 197::[ak mb (ints a.1.flat) 90,ak gb [.bool a.2] 4]∧Tail v bs x' r∧dx bs=some (a,r)) (λc H=>c=ix∧∃(x':Value) (_:Unit),H=ak rb [x'] 197::[ak mb (ints m0.flat) 90,ak gb [.bool g0] 4]∧dx bs=none)):=by
 refine BD 9 Tryz.func82 rfl rfl rfl λw0 F hF=>ae (PS ?_)
 refine CP O0 (Aw rb v bs) ID (λ_ d _=>(hF).more d) (λcP HP hP=>?_) (λvR HR hR=>?_);obtain⟨vP,rfl,rfl,hpP⟩:=hP;exact WK [0,0,0] (aS ⟨rfl,_,(),rfl,hpP⟩);obtain⟨a1,r1,v1,rfl,rfl,hp1,ht1⟩:=hR;refine P3 ?_;refine SW 1 jm bq ?_;refine S0 2 k9 ?_;exact au (WK [0,0,0] (bD rfl ⟨_,_,_,rfl,ht1,hp1⟩))
theorem vh(x:Value)(bs:List UInt8):
 DT 49 #[x] (IsB x bs) [] (RI (.tuple #[.agg (ints (jH bs).1.flat).toArray, .int .i64 (jH bs).2]) []):=by
 refine Leg.Does.body (vs:=[x]) (n:=18) Tryz.func49 rfl rfl rfl (λw0 F hF=>?_);refine sr λ_ J1=>?_
 refine qn (ab rfl) rfl rfl rfl ML (λb2=>?_);change TL _ _ _ _ _ _ _ _ _ [ak b2 (ints RecT.zero.flat) 90];refine pC ?_;refine nx J1 ?_;clear J1;refine sr λ_ J2=>?_
 refine qn (ab rfl) rfl rfl rfl ML (λb4=>?_);change TL _ _ _ _ _ _ _ _ _ [ak b4 (ints RecT.zero.flat) 90,ak b2 (ints RecT.zero.flat) 90];refine nx J2 ?_;clear J2;refine sr λ_ J3=>?_
 refine qn (ab rfl) rfl rfl rfl z4 (λb5=>?_);refine bF (i:=0) (ab rfl) rfl rfl rfl rfl rfl k9 rfl rfl (lb rfl) rfl rfl ?_;refine nx J3 ?_;clear J3;refine sr λ_ J4=>?_
 refine mv ?_;refine tp (PH rfl rfl) ?_;refine kX (ab rfl) rfl rfl rfl M6 rfl (za (bs:=bs) (C:=[ak b4 (ints RecT.zero.flat) 90,ak b5 [(.bool false)] 4]) (caps:=[(.pointer (some ⟨b4,0,none⟩)),(.pointer (some ⟨b5,0,none⟩))]) (A:=λa:RecT×Bool=>[ak b4 (ints a.1.flat) 90,ak b5 [.bool a.2] 4]) (G:=λ_:Unit=>[ak b4 (ints RecT.zero.flat) 90,ak b5 [(.bool false)] 4]) (φ:=λa r=>dx bs=some (a,r)) (ψ:=λ_=>dx bs=none) (λ_ h=>h) (λ_ _ h d=>h.more d) O1 (λrb=>Gz rb b4 b5 x bs RecT.zero false)) (λ_ s=>aC [1,0] rfl s) (λ_ d _=>(hF).more d) (λvR HR hR=>?_);rcases hR with⟨r,⟨m,g⟩,rfl,rfl,hs⟩| ⟨_,rfl,rfl,hs⟩
 refine ao (λh9=>?_) (λh9=>?_);refine pC ?_;refine nx J4 ?_;clear J4;refine aa λ_ J5=>?_
 refine sr λ_ J6=>?_
 refine mv ?_;refine tp (oB (r:=false) rfl rfl rfl) ?_;refine mv ?_;refine tq (ii (v:=(.bool (g))) rfl Y4 rfl rfl (fi 1 rfl rfl) rfl) ?_;refine bc (λh13=>?_) (λh13=>?_);refine tq (oB (r:=false) rfl rfl rfl) ?_;refine tp (yJ rfl rfl rfl) ?_;refine nx J6 ?_;clear J6;refine F2 rfl ?_;refine aU ?_;refine ac J5 ?_;clear J5;refine sr λ_ J7=>?_
 refine tp (aM (vs:=ints m.flat) rfl je rfl jm rfl (fi 0 rfl rfl) (bq m) (whole (bq m))) ?_;refine bN (vs:=ints m.flat) (i:=2) (ab rfl) rfl rfl rfl rfl rfl (by rw[(bq m)];exact jm) (bC _) rfl rfl (by have h0:=(bq RecT.zero);have h1:=(bq m);omega) (ct ((bq RecT.zero).trans (bq m).symm)) rfl ?_;refine pC ?_;refine nx J7 ?_;clear J7;refine ai ?_;refine l6 (H':=[]) rfl rfl rfl je rfl jm (fi 2 rfl rfl) (bq m) (λ_ s=>am [] rfl s) ?_;exact⟨by simp[jH, *],rfl⟩;refine tq (oB (r:=true) rfl rfl rfl) ?_;refine tp (yJ rfl rfl rfl) ?_;refine nx J6 ?_;clear J6;refine ny rfl ?_;refine sr λ_ J8=>?_
 refine tp (j8 (cells:=(ints RecT.zero.flat).toArray) rfl rfl (by as_aux_lemma=>kernel_rfl)) ?_;refine bN (vs:=ints RecT.zero.flat) (i:=2) (ab rfl) rfl rfl rfl rfl rfl (by rw[(bq RecT.zero)];exact jm) (bC _) rfl rfl (by have h0:=(bq RecT.zero);have h1:=(bq RecT.zero);omega) (ct ((bq RecT.zero).trans (bq RecT.zero).symm)) rfl ?_;refine pC ?_;refine nx J8 ?_;clear J8;refine ai ?_;refine af ?_;clear J5;refine l6 (H':=[]) rfl rfl rfl je rfl jm (fi 2 rfl rfl) (bq RecT.zero) (λ_ s=>am [] rfl s) ?_;exact⟨by simp[jH, *],rfl⟩;refine pC ?_;refine nx J4 ?_;clear J4;refine aa λ_ J9=>?_
 refine sr λ_ J10=>?_
 refine mv ?_;refine tp (oB (r:=true) rfl rfl rfl) ?_;refine mv ?_;refine qm (b:=true) rfl rfl rfl rfl (lb rfl) ?_;refine qm (b:=true) rfl rfl rfl rfl (lb rfl) ?_;refine tp (yJ rfl rfl rfl) ?_;refine nx J10 ?_;clear J10;refine ny rfl ?_;refine sr λ_ J11=>?_
 refine tp (j8 (cells:=(ints RecT.zero.flat).toArray) rfl rfl (by as_aux_lemma=>kernel_rfl)) ?_;refine bN (vs:=ints RecT.zero.flat) (i:=2) (ab rfl) rfl rfl rfl rfl rfl (by rw[(bq RecT.zero)];exact jm) (bC _) rfl rfl (by have h0:=(bq RecT.zero);have h1:=(bq RecT.zero);omega) (ct ((bq RecT.zero).trans (bq RecT.zero).symm)) rfl ?_;refine pC ?_;refine nx J11 ?_;clear J11;refine ai ?_;refine af ?_;clear J9;refine l6 (H':=[]) rfl rfl rfl je rfl jm (fi 2 rfl rfl) (bq RecT.zero) (λ_ s=>am [] rfl s) ?_;exact⟨by simp[jH, *],rfl⟩;refine pC ?_;refine nx J4 ?_;clear J4;refine aa λ_ J12=>?_
 refine sr λ_ J13=>?_
 refine mv ?_;refine tp (oB (r:=true) rfl rfl rfl) ?_;refine mv ?_;refine qm (b:=true) rfl rfl rfl rfl (lb rfl) ?_;refine qm (b:=true) rfl rfl rfl rfl (lb rfl) ?_;refine tp (yJ rfl rfl rfl) ?_;refine nx J13 ?_;clear J13;refine ny rfl ?_;refine sr λ_ J14=>?_
 refine tp (j8 (cells:=(ints RecT.zero.flat).toArray) rfl rfl (by as_aux_lemma=>kernel_rfl)) ?_;refine bN (vs:=ints RecT.zero.flat) (i:=2) (ab rfl) rfl rfl rfl rfl rfl (by rw[(bq RecT.zero)];exact jm) (bC _) rfl rfl (by have h0:=(bq RecT.zero);have h1:=(bq RecT.zero);omega) (ct ((bq RecT.zero).trans (bq RecT.zero).symm)) rfl ?_;refine pC ?_;refine nx J14 ?_;clear J14;refine ai ?_;refine af ?_;clear J12;refine l6 (H':=[]) rfl rfl rfl je rfl jm (fi 2 rfl rfl) (bq RecT.zero) (λ_ s=>am [] rfl s) ?_;exact⟨by simp[jH, *],rfl⟩
end Go.Proofs.YtjblgopghhgflaaGreat
end

section
namespace Leg
open Go Codec Api
def WX(P:Program)(ops:Array Oper)(Q:QQ)(is:List Nat)(a:Act)(w:World):Prop:=
 ∀(b:Frame) (k:List Item) (cs:List Frame),∃e a' w',Q e a' w'∧Arrives P (lone (b.at a (.inRegion ops is::k)) cs w) b k cs e a' w'
theorem WX.nil{P:Program}{ops:Array Oper}{Q:QQ}{a:Act}{w:World}(h:Q .normal a w):WX P ops Q [] a w:=
 λ_ _ _=>⟨.normal,a,w,h, .one step_region_end⟩
theorem WX.region{P:Program}{id:Nat}{ops:Array Oper}{Q:QQ}{a:Act}{w:World}(h:WX P ops Q (List.range ops.size) a w):(Code.region id ops false).wp P Q a w:=
 λb k cs=>let ⟨e,a',w',q,r⟩:=h b k cs;⟨e,a',w',q, .of_steps (.one step_region) r⟩
section
variable {P:Program} {ops:Array Oper} {Q:QQ} {is:List Nat} {a:Act} {w:World} {i:Nat} {o:Oper}
theorem F1(b:Frame)(k:List Item)(ho:ops[i]?=some o)(a:Act)(v:Value):(b.at a (.inRegion ops (i::is)::k)).finish v=b.at (a.put o.dst v) (.inRegion ops is::k):=by rw[Frame.finish_at,ho];rfl
theorem WX.value{v:Value}{w1:World}(ho:ops[i]?=some o)(hw:Region.wanted o (yielded ops a.tmps)=true)(hr:(execOp a.eval o).run P w= .ok (.value v) w1)(h:WX P ops Q is (a.put o.dst v) w1):WX P ops Q (i::is) a w:=λb k cs=>by
 obtain⟨e,a',w',q,r⟩:=h b k cs;refine⟨e,a',w',q, .of_steps (.one (step_lone_go ?_)) r⟩;rw[stepG_op ho hw,←F1 b k ho];simp[stepG.apply,hr]
theorem WX.comm{v:Value}{w1 w2:World}{cases:Array CommCase}{blocking:Bool}{shape:CommShape}(ho:ops[i]?=some o)(hw:Region.wanted o (yielded ops a.tmps)=true)(hr:(execOp a.eval o).run P w= .ok (.comm cases blocking shape) w1)
 (hs: ∀fr cs es,stepG P true (Conc.G fr cs) w= .comm (Conc.G fr cs) cases blocking shape w1 es→step P (Conc.solo (Conc.G fr cs) w)= .next (Conc.solo (Conc.G (fr.finish v) cs) w2)) (h:WX P ops Q is (a.put o.dst v) w2):WX P ops Q (i::is) a w:=λb k cs=>by
 obtain⟨e,a',w',q,r⟩:=h b k cs;have h1:=stepG_op (P:=P) (b:=b) (k:=k) (cs:=cs) (w:=w) (rest:=is) ho hw
 have h2: ∃es,stepG P true (Conc.G (b.at a (.inRegion ops (i::is)::k)) cs) w= .comm (Conc.G (b.at a (.inRegion ops (i::is)::k)) cs) cases blocking shape w1 es:=by
  unfold Conc.G;rw[h1];simp only[stepG.apply,Sem.runT_eq,hr];exact⟨_,rfl⟩
 obtain⟨es,h2⟩:=h2;have h3:=hs _ _ _ h2;rw[F1 b k ho]at h3;exact⟨e,a',w',q, .of_steps (.one h3) r⟩
abbrev MG:= @WX.comm
end
end Leg
namespace Leg
open Go Codec Api
section
variable (P:Program) (w0:World) (F:Hl) (n:Nat)
def TX(ops:Array Oper)(Q:QQ)(is:List Nat)(D:List Deferred)(L:List (Nat×Value))(H:List HP):Prop:=∀a w,Fr n D L a→Same w0 w→Sat H F w→WX P ops Q is a w
end
section
variable {P:Program} {w0:World} {F:Hl} {n:Nat} {ops:Array Oper} {Q:QQ} {is:List Nat} {D:List Deferred} {L:List (Nat×Value)} {H:List HP} {i d:Nat} {o:Oper}
theorem TC.regionX{id:Nat}{l:List Oper}(h:TX P w0 F n l.toArray Q (List.range l.length) D L H):TC P w0 F n (.region id l.toArray false) Q D L H:=
 λa w f s m=>WX.region (by simpa using h a w f s m)
abbrev yE:= @TC.regionX
theorem TX.nil(h:TE w0 F n Q .normal D L H):TX P w0 F n ops Q [] D L H:=λa w f s m=>WX.nil (h a w f s m)
abbrev KI:= @TX.nil
theorem TX.v{v:Value}(ho:ops[i]?=some o)(hw:Want n D ops o L)(hd:o.dst=some d)(hn:Nat.blt d n=true)(h1:PV P n D L (Sat H F) o v)(h:TX P w0 F n ops Q is D ((d,v)::L) H):TX P w0 F n ops Q (i::is) D L H:=λa w f s m=>by
 refine WX.value ho (hw a f) (h1 a w f m) ?_;rw[hd];exact h _ _ (f.put (lb hn) _) s m
abbrev tn:= @TX.v
end
end Leg
namespace Leg
open Go Codec Api Go.Conc
section
variable {P:Program} {w0:World} {F:Hl} {n:Nat} {ops:Array Oper} {Q:QQ} {is:List Nat} {D:List Deferred} {L:List (Nat×Value)} {H:List HP} {i d:Nat} {o:Oper}
theorem Sat.chan{w:World}{c cap s r:Nat}{vs:List Value}(m:Sat H F w)(k:Nat)(hk:Nat.blt k H.length=true)(e:H.getD k (λ_=>True)=eg c cap vs s r):w.heap[c]?=some (.chan cap vs.toArray false s r false):=by
 obtain⟨h,d,e',x⟩:=m;obtain⟨h1,h2,d',rfl,a,_⟩:=eZ k (lb hk) x;rw[e]at a
 have:hp w c=some (.chan cap vs.toArray false s r false):=by
  rw[e',ju];exact hY (by rw[show h1=sg c _ from a];simp[sg])
 exact this
theorem Sat.setChan{w:World}{c cap s r s' r':Nat}{vs vs':List Value}(m:Sat H F w)(k:Nat)(hk:Nat.blt k H.length=true)(e:H.getD k (λ_=>True)=eg c cap vs s r):Sat (H.set k (eg c cap vs' s' r')) F (w.setChan c cap vs'.toArray false s' r' false):=by
 have hc:=m.chan k hk e
 have hlt:c<w.heap.size:=by
  by_cases q:c<w.heap.size
  · exact q
  · rw[Array.getElem?_eq_none (by omega)]at hc;cases hc
 exact m.write k (lb hk) e (heap_setChan w c cap vs'.toArray false s' r' false hlt) (λj hj=>by simp[World.setChan,Array.getElem?_setIfInBounds,Ne.symm hj])
theorem Same.setChan{w w':World}(s:Same w w')(c cap:Nat)(b:Array Value)(cl:Bool)(x y:Nat)(t:Bool):Same w (w'.setChan c cap b cl x y t):=s.trans ⟨rfl,rfl,rfl,by simp[World.setChan]⟩
theorem sM{x:Operand}{so:Option Operand}{e:TypeId}{z:Value}{blocking:Bool}(ho:o.op= .select #[⟨x,so,e⟩] blocking)(hz:(P.info? e).map (·.zero)=some (some z))(ev:Operand→Value)(w:World):
 (execOp ev o).run P w= .ok (.comm #[{chan:=ev x,send:=so.map ev,zero:=z}] blocking .select) w:=by
 simp[execOp,ho,Sem.run_bind,og hz]
theorem TX.sendRoom{x y:Operand}{e c cap s r:Nat}{z v:Value}{vs:List Value}(k:Nat)(ho:ops[i]?=some o)(hw:Want n D ops o L)(hop:o.op= .select #[⟨x,some y,e⟩] false)(hd:o.dst=some d)(hn:Nat.blt d n=true)(hz:(P.info? e).map (·.zero)=some (some z))
 (hx:cK L x=some (.chan (some c))) (hy:cK L y=some v) (hk:Nat.blt k H.length=true) (hH:H.getD k (λ_=>True)=eg c cap vs s r) (hroom:vs.length<cap)
 (h:TX P w0 F n ops Q is D ((d, .tuple #[.int .i64 0, .bool false])::L) (H.set k (eg c cap (vs++[v]) (s+1) r))):TX P w0 F n ops Q (i::is) D L H:=λa w f sm m=>by
 have hc:=m.chan k hk hH;have hr:=sM (P:=P) hop hz a.eval w;rw[f.eval hx]at hr;simp only[Option.map_some,f.eval hy]at hr;refine MG (v:= .tuple #[.int .i64 0, .bool false]) (w2:=w.setChan c cap (vs++[v]).toArray false (s+1) r false) ho (hw a f) hr (λfr cs es hs=>?_) ?_
 · have:=step_lone_sel_send_room (k:=0) hs rfl (λj c' hj hjc=>by cases j with|zero=>exact absurd rfl hj|succ j=>simp at hjc) hc (by simpa using hroom)
   rw[this];simp[commResult,goInt]
 · rw[hd]
   exact h _ _ (f.put (lb hn) _) (sm.setChan ..) (m.setChan k hk hH)
theorem TX.sendFull{x y:Operand}{e c cap s r:Nat}{z v:Value}{vs:List Value}(k:Nat)(ho:ops[i]?=some o)(hw:Want n D ops o L)(hop:o.op= .select #[⟨x,some y,e⟩] false)(hd:o.dst=some d)(hn:Nat.blt d n=true)(hz:(P.info? e).map (·.zero)=some (some z))
 (hx:cK L x=some (.chan (some c))) (hy:cK L y=some v) (hk:Nat.blt k H.length=true) (hH:H.getD k (λ_=>True)=eg c cap vs s r) (hfull:cap≤vs.length)
 (h:TX P w0 F n ops Q is D ((d, .tuple #[.int .i64 (-1), .bool false])::L) H):TX P w0 F n ops Q (i::is) D L H:=λa w f sm m=>by
 have hc:=m.chan k hk hH;have hr:=sM (P:=P) hop hz a.eval w;rw[f.eval hx]at hr;simp only[Option.map_some,f.eval hy]at hr;refine MG (v:= .tuple #[.int .i64 (-1), .bool false]) (w2:=w) ho (hw a f) hr (λfr cs es hs=>?_) ?_
 · have:=step_lone_sel_default hs (λcc hcc=>by
    obtain rfl:cc=scase c v z:=by simpa [scase]using hcc
    exact noWay_send hc (by simpa using hfull))
   rw[this];simp[commResult,goInt]
 · rw[hd]
   exact h _ _ (f.put (lb hn) _) sm m
theorem TX.recvBuf{x:Operand}{e c cap s r:Nat}{z v:Value}{vs:List Value}(k:Nat)(ho:ops[i]?=some o)(hw:Want n D ops o L)(hop:o.op= .select #[⟨x,none,e⟩] false)(hd:o.dst=some d)(hn:Nat.blt d n=true)(hz:(P.info? e).map (·.zero)=some (some z))
 (hx:cK L x=some (.chan (some c))) (hk:Nat.blt k H.length=true) (hH:H.getD k (λ_=>True)=eg c cap (v::vs) s r)
 (h:TX P w0 F n ops Q is D ((d, .tuple #[.int .i64 0, .bool true,v])::L) (H.set k (eg c cap vs s (r+1)))):TX P w0 F n ops Q (i::is) D L H:=λa w f sm m=>by
 have hc:=m.chan k hk hH;have hr:=sM (P:=P) hop hz a.eval w;rw[f.eval hx]at hr;simp only[Option.map_none]at hr;refine MG (v:= .tuple #[.int .i64 0, .bool true,v]) (w2:=w.setChan c cap vs.toArray false s (r+1) false) ho (hw a f) hr (λfr cs es hs=>?_) ?_
 · have:=step_lone_sel_recv_buf (k:=0) hs rfl (λj c' hj hjc=>by cases j with|zero=>exact absurd rfl hj|succ j=>simp at hjc) hc (by simp)
   rw[this];simp[commResult,goInt]
 · rw[hd]
   exact h _ _ (f.put (lb hn) _) (sm.setChan ..) (m.setChan k hk hH)
theorem TX.recvNone{x:Operand}{e c cap s r:Nat}{z:Value}(k:Nat)(ho:ops[i]?=some o)(hw:Want n D ops o L)(hop:o.op= .select #[⟨x,none,e⟩] false)(hd:o.dst=some d)(hn:Nat.blt d n=true)(hz:(P.info? e).map (·.zero)=some (some z))
 (hx:cK L x=some (.chan (some c))) (hk:Nat.blt k H.length=true) (hH:H.getD k (λ_=>True)=eg c cap [] s r)
 (h:TX P w0 F n ops Q is D ((d, .tuple #[.int .i64 (-1), .bool false,z])::L) H):TX P w0 F n ops Q (i::is) D L H:=λa w f sm m=>by
 have hc:=m.chan k hk hH;have hr:=sM (P:=P) hop hz a.eval w;rw[f.eval hx]at hr;simp only[Option.map_none]at hr;refine MG (v:= .tuple #[.int .i64 (-1), .bool false,z]) (w2:=w) ho (hw a f) hr (λfr cs es hs=>?_) ?_
 · have:=step_lone_sel_default hs (λcc hcc=>by
    obtain rfl:cc=rcase c z:=by simpa [rcase]using hcc
    exact noWay_recv hc)
   rw[this];simp[commResult,goInt]
 · rw[hd]
   exact h _ _ (f.put (lb hn) _) sm m
end
end Leg
namespace Leg
open Go Codec Api Go.Conc
section
variable {P:Program} {w0:World} {F:Hl} {n:Nat} {ops:Array Oper} {Q:QQ} {D:List Deferred} {L:List (Nat×Value)} {H:List HP} {d:Nat} {o:Oper}
theorem PV.lenChan{t e:TypeId}{dir:ChanDir}{x:Operand}{c cap s r:Nat}{vs:List Value}(k:Nat)(ho:o.op= .call {callee:= .builtin .len,args:=#[x],argTypes:=#[t]})(ht:P.underlying t=some (.chan dir e))(hx:cK L x=some (.chan (some c)))
 (hk:Nat.blt k H.length=true) (hH:H.getD k (λ_=>True)=eg c cap vs s r):PV P n D L (Sat H F) o (.int .i64 ((vs.length:Nat):Int)):=λa w f m=>by
 have hl:=Conc.run_len_chan (P:=P) (w:=w) (dir:=dir) (e:=e) t o.type ht (m.chan k hk hH);simp[execOp,ho,resolve,f.eval hx,invoke,builtin,hl,goInt]
theorem PV.capChan{t e:TypeId}{dir:ChanDir}{x:Operand}{c cap s r:Nat}{vs:List Value}(k:Nat)(ho:o.op= .call {callee:= .builtin .cap,args:=#[x],argTypes:=#[t]})(ht:P.underlying t=some (.chan dir e))(hx:cK L x=some (.chan (some c)))
 (hk:Nat.blt k H.length=true) (hH:H.getD k (λ_=>True)=eg c cap vs s r):PV P n D L (Sat H F) o (.int .i64 ((cap:Nat):Int)):=λa w f m=>by
 have hl:=Conc.run_cap_chan (P:=P) (w:=w) (dir:=dir) (e:=e) t o.type ht (m.chan k hk hH);simp[execOp,ho,resolve,f.eval hx,invoke,builtin,hl,goInt]
end
abbrev gY(T U b:Nat)(ls:List (List UInt8)):HP:=pack (λq:Nat×List Value×Nat×Nat=>[ak b [.chan (some q.1)] T,eg q.1 8 q.2.1 q.2.2.1 q.2.2.2,eH q.2.1 ls U])
def qY(T U:Nat)(bs:List Nat)(W:List (List (List UInt8)))(k:Nat):HP:=if k%6=0 then(λ_=>True)else gY T U (bs.getD k 0) (W.getD k [])
def px(T U:Nat)(bs:List Nat)(W:List (List (List UInt8))):List HP:=(List.range 25).map (qY T U bs W)
def eN(T U:Nat)(bs:List Nat)(W:List (List (List UInt8))):HP:=bG (px T U bs W)
def fC(T U:Nat)(bs:List Nat)(W:List (List (List UInt8)))(k:Nat):HP:=bG ((px T U bs W).eraseIdx k)
def dG(bs:List Nat):List Value:=(List.range 25).map λk=>if k%6=0 then .pointer none else .pointer (some ⟨bs.getD k 0,0,none⟩)
theorem Ch(bs:List Nat){k:Nat}(h:k<25):(dG bs)[k]?=some (if k%6=0 then .pointer none else .pointer (some ⟨bs.getD k 0,0,none⟩)):=by unfold dG;simp[h]
theorem ze(bs:List Nat):(dG bs).length=25:=by simp[dG]
abbrev eE(NT T U n:Nat)(W:List (List (List UInt8))):HP:=pack (λbs:List Nat=>[ak n (dG bs) NT,eN T U bs W])
section
variable {T U:Nat} {bs:List Nat} {W:List (List (List UInt8))} {k:Nat} {H:List HP} {h:Hl}
theorem Dh:(px T U bs W).length=25:=by simp[px]
theorem xN(hk:k<25)(s:bG (eN T U bs W::H) h):bG (qY T U bs W k::fC T U bs W k::H) h:=by
 have s1:bG (px T U bs W++H) h:=(cd _ _).2 s;have e:(px T U bs W).getD k (λ_=>True)=qY T U bs W k:=by simp[px,List.getD_eq_getElem?_getD,hk]
 have p:=na (λ_=>True) (px T U bs W) k (by rw[Dh];exact hk);rw[e]at p;have s2:=eu (p.append_right H) s1;exact cG s2 (λ_ a=>a) λ_ b=>(cd _ _).1 b
theorem u0{W':List (List (List UInt8))}(hk:k<25)(hW: ∀j,j≠k→W'.getD j []=W.getD j [])(s:bG (qY T U bs W' k::fC T U bs W k::H) h):bG (eN T U bs W'::H) h:=by
 have e0:(px T U bs W').eraseIdx k=(px T U bs W).eraseIdx k:=by
  refine List.ext_getElem? λj=>?_
  rw[List.getElem?_eraseIdx,List.getElem?_eraseIdx]
  have: ∀i,i≠k→(px T U bs W')[i]?=(px T U bs W)[i]?:=λi hi=>by
   simp only[px,List.getElem?_map];cases q:(List.range 25)[i]?with
   |none=>rfl
   |some m=>
    have hm:m=i:=by
     by_cases hi25:i<25
     · simp[hi25]at q;exact q.symm
     · simp[hi25]at q
    subst hm;simp only[Option.map_some,qY,hW m hi]
  split
  · exact this j (by omega)
  · exact this (j+1) (by omega)
 have e:(px T U bs W').getD k (λ_=>True)=qY T U bs W' k:=by simp[px,List.getD_eq_getElem?_getD,hk]
 have p:=na (λ_=>True) (px T U bs W') k (by rw[Dh];exact hk);rw[e,e0]at p;have s2:bG ((qY T U bs W' k::(px T U bs W).eraseIdx k)++H) h:=cG s (λ_ a=>a) λ_ b=>(cd _ _).2 b
 exact(cd _ _).1 (eu (p.symm.append_right H) s2)
end
def bB(from' to':Int):Nat:=from'.toNat*5+to'.toNat
def iF(w:Int):Bool:=decide (0≤w∧w<5)
theorem JJ{f t:Int}(hf:iF f=true)(ht:iF t=true):bB f t<25:=by
 have h1:0≤f∧f<5:=of_decide_eq_true hf;have h2:0≤t∧t<5:=of_decide_eq_true ht;unfold bB;omega
theorem tF{f t:Int}(hf:iF f=true)(ht:iF t=true):bB f t%6=0↔f=t:=by
 have h1:0≤f∧f<5:=of_decide_eq_true hf;have h2:0≤t∧t<5:=of_decide_eq_true ht;unfold bB;omega
end Leg
end

section
namespace Wal
open Go Leg Codec Api Dsk
end Wal
namespace Leg
open Go Codec Api
end Leg
namespace Leg
open Go Codec Api
theorem qH{us:List Value}{ls:List (List UInt8)}{e:Nat}{H:List HP}{F:Hl}{w:World}(i:Nat)(hi:Nat.blt i H.length=true)(hH:H.getD i (λ_=>True)=eH us ls e)(m:Sat H F w):us.length=ls.length∧∀u∈us,u.oneCell'=true:=by
 obtain⟨h,d,e',x⟩:=m;obtain⟨h1,h2,d',rfl,a,_⟩:=eZ i (lb hi) x;rw[hH]at a;refine⟨a.1,λu hu=>?_⟩;obtain⟨j,hj,rfl⟩:=fq hu;obtain⟨u,e1,k1,k2,dk,rfl,a3⟩:=xM us ls e _ a.1 a.2 j (by rw[←a.1];exact hj);rw[List.getElem?_eq_getElem hj]at e1;injection e1 with e1
 rw[e1];exact(BI a3 (λb o q=>q):IsB u _ k1).one
section
variable {P:Program} {n:Nat} {D:List Deferred} {L:List (Nat×Value)} {S:World→Prop} {o:Oper}
end
end Leg
namespace Wal
open Go Leg Codec Api Dsk
end Wal
namespace Leg
open Go Codec Api
section
variable {P:Program} {n:Nat} {D:List Deferred} {L:List (Nat×Value)} {S:World→Prop} {o:Oper}
end
theorem Hv{us:List Value}{ls:List (List UInt8)}{e:Nat}{u:Value}{l:List UInt8}{H:List HP}{h:Hl}(s:bG (eH (u::us) (l::ls) e::H) h):bG (gL u l e::eH us ls e::H) h:=by
 obtain⟨h1,h2,d,rfl,⟨hl,a⟩,b⟩:=s;obtain⟨g1,g2,d',rfl,a1,a2⟩:=a;exact m6.1 ⟨_,h2,d,rfl,⟨g1,g2,d',rfl,a1,⟨by simpa using hl,a2⟩⟩,b⟩
def Az(ls:List (List UInt8))(bs:List UInt8):List (List UInt8):=if ls.length<8 then ls++[bs]else ls
def dB(f t:Int):Bool:=iF f&&iF t&& !decide (f=t)
def oV(W:List (List (List UInt8)))(f t:Int)(bs:List UInt8):List (List (List UInt8)):=if dB f t then W.set (bB f t) (Az (W.getD (bB f t) []) bs)else W
theorem iB{f t:Int}(h:dB f t=true):bB f t<25∧¬bB f t%6=0:=by
 unfold dB at h;rw[aw,aw]at h;refine⟨JJ h.1.1 h.1.2,λq=>?_⟩;have:=(tF h.1.1 h.1.2).1 q;rw[this]at h;simp at h
theorem qI{T U:Nat}{bs:List Nat}{W:List (List (List UInt8))}{k:Nat}(h: ¬k%6=0):qY T U bs W k=gY T U (bs.getD k 0) (W.getD k []):=by unfold qY;rw[if_neg h]
theorem n4{T U:Nat}{bs:List Nat}{W:List (List (List UInt8))}{f t:Int}(hv:dB f t=true){H:List HP}{h:Hl}(s:bG (eN T U bs W::H) h):bG (gY T U (bs.getD (bB f t) 0) (W.getD (bB f t) [])::fC T U bs W (bB f t)::H) h:=by
 obtain⟨h1,h2⟩:=iB hv;have:=xN h1 s
 rwa [qI h2]at this
theorem tE{T U:Nat}{bs:List Nat}{W:List (List (List UInt8))}{f t:Int}{ls:List (List UInt8)}(hv:dB f t=true)(hW:W.length=25){H:List HP}{h:Hl}(s:bG (gY T U (bs.getD (bB f t) 0) ls::fC T U bs W (bB f t)::H) h):bG (eN T U bs (W.set (bB f t) ls)::H) h:=by
 obtain⟨h1,h2⟩:=iB hv;refine u0 (W:=W) h1 (λj hj=>?_) ?_
 · rw[List.getD_eq_getElem?_getD,List.getD_eq_getElem?_getD,List.getElem?_set_ne (λe=>hj e.symm)]
 · rw[qI h2,show(W.set (bB f t) ls).getD (bB f t) []=ls by rw[List.getD_eq_getElem?_getD,List.getElem?_set_self (by omega)];rfl]
   exact s
end Leg
namespace Leg
open Go Codec Api
def b8(w:Int):UInt8:=Wal.r8 w
theorem vK(w:Int):IntKind.u8.wrap w=(((b8 w).toNat:Nat):Int):=Wal.r8_wrap w
end Leg
end

section
namespace Go.Proofs.YtjblgopghhgflaaGreat
open Go Leg Codec Api Dsk Wal
theorem ti(b c s r:Nat)(us:List Value)(ls:List (List UInt8)):
 DT 100 #[(.pointer (some ⟨b,0,none⟩))] T0 [ak b [(.chan (some c))] 208,eg c 8 (us) (s) (r),eH (us) (ls) 5] (RI (.int .i64 ((ls.length:Nat):Int)) [ak b [(.chan (some c))] 208,eg c 8 (us) (s) (r),eH (us) (ls) 5]):=by
 refine BD 8 Tryz.func100 rfl rfl rfl λw0 F hF=>sr λ_ J1=>PS ?_
 refine nx J1 (sr λ_ J2=>yC (p:=us.length=ls.length) (λw m=>(qH 2 rfl rfl m).1) (λhul=>P2 ?_));refine FA 0 Dp uz ?_;refine LA 0 vp ?_;refine tp (PV.lenChan 1 rfl vp rfl rfl rfl) ?_;refine PS ?_;refine nx J2 (ai (WK [0,0,0] (av rfl rfl ?_)));exact⟨by rw[hul],rfl⟩
theorem jy(b:Nat)(ls:List (List UInt8)):DT 100 #[.pointer (some ⟨b,0,none⟩)] T0 [gY 208 5 b ls] (RI (.int .i64 ((ls.length:Nat):Int)) [gY 208 5 b ls]):=
 Leg.Does.pack (B:=[]) λq=>Leg.Does.fold (ti b q.1 q.2.2.1 q.2.2.2 q.2.1 ls) λe H hp=>by
  cases e with
  |returned v=>
   obtain⟨rfl,rfl⟩:=hp;exact⟨_,λ_ s=>bp (p:=λq:Nat×List Value×Nat×Nat=>[ak b [.chan (some q.1)] 208,eg q.1 8 q.2.1 q.2.2.1 q.2.2.2,eH q.2.1 ls 5]) (H:=[]) q s,rfl,rfl⟩
  |panicked c=>exact hp.elim
  |outgrown=>exact hp.elim
theorem Bf(b c s r:Nat)(us:List Value)(ls:List (List UInt8))(x:Value)(bs:List UInt8)(hb:bs.length≤1000000):
 DT 138 #[(.pointer (some ⟨b,0,none⟩)),x] (IsW x bs) [ak b [(.chan (some c))] 208,eg c 8 (us) (s) (r),eH (us) (ls) 5] (dz (λv H=>(ls.length<8∧v= .bool true∧∃u,H=[ak b [(.chan (some c))] 208,eg c 8 (us++[u]) (s+1) r,eH us ls 5,dW u bs 5])∨(¬ls.length<8∧v= .bool false∧H=[ak b [(.chan (some c))] 208,eg c 8 (us) (s) (r),eH (us) (ls) 5]))):=by
 refine Leg.Does.body (vs:=[(.pointer (some ⟨b,0,none⟩)),x]) (n:=15) Tryz.func138 rfl rfl rfl (λw0 F hF=>?_);refine sr λ_ J1=>?_
 refine pC ?_;refine nx J1 ?_;refine aa λ_ J2=>?_
 refine sr λ_ J3=>?_
 refine yC (p:=us.length=ls.length) (λw m=>(qH 2 rfl rfl m).1) (λhul=>?_);refine mv ?_;refine tp (gk rfl rfl) ?_;refine tp (aY (r:=0) rfl Dp rfl uz rfl rfl) ?_;refine tp (ii (v:=(.chan (some c))) rfl vp rfl rfl (fi 0 rfl rfl) rfl) ?_;refine nx J3 ?_;refine ae ?_;refine Dr (ab rfl) rfl rfl rfl gO lB (λv9=>?_);change TL _ _ _ _ _ _ _ _ _ [dW v9 ([]) 5,ak b [(.chan (some c))] 208,eg c 8 (us) (s) (r),eH (us) (ls) 5];refine mv ?_;refine cL (k:=0) (news:=ej (bs)) (nn':=(bs:List UInt8).length) (xs':=ej (bs)) (ab rfl) rfl rfl rfl gO zv rfl rfl rfl rfl rfl rfl (λ_ _=>hF.src (λ_ h=>fu h)) (eY _) (by simp only[maxLen,aD];omega) (by simp only[aD];omega) (by simp) (bO _) (λv11 ov11=>?_);change TL _ _ _ _ _ _ _ _ _ [dW v11 (bs) 5,ak b [(.chan (some c))] 208,eg c 8 (us) (s) (r),eH (us) (ls) 5];refine nx J2 ?_;refine aa λ_ J4=>?_
 refine yE ?_;change TX _ _ _ _ _ _ [0,1,2] _ _ _
 by_cases hroom:us.length<8
 refine TX.sendRoom 2 rfl (ab rfl) rfl rfl rfl MD rfl rfl rfl rfl hroom ?_;change TX _ _ _ _ _ _ _ _ _ [dW v11 (bs) 5,ak b [(.chan (some c))] 208,eg c 8 (us++[v11]) (s+1) (r),eH (us) (ls) 5];refine tn rfl (ab rfl) rfl rfl (l9 (vs:=[(.int .i64 0),(.bool false)]) rfl rfl rfl) ?_;refine tn rfl (ab rfl) rfl rfl (Oe rfl rfl rfl) ?_;refine KI ?_;refine ac J4 ?_;refine aq ?_;refine ny rfl ?_;refine sr λ_ J5=>?_
 refine pC ?_;refine nx J5 ?_;refine ai ?_;refine aJ ?_;refine aF (dK _) (λ_ s=>am [1,1,1,0] rfl s) ?_;refine av rfl rfl ?_;exact Or.inl ⟨by omega,rfl,_,rfl⟩;refine TX.sendFull 2 rfl (ab rfl) rfl rfl rfl MD rfl rfl rfl rfl (by omega) ?_;refine tn rfl (ab rfl) rfl rfl (l9 (vs:=[(.int .i64 (-1)),(.bool false)]) rfl rfl rfl) ?_;refine tn rfl (ab rfl) rfl rfl (Oe rfl rfl rfl) ?_;refine KI ?_;refine ac J4 ?_;refine aq ?_;refine F2 rfl ?_;refine sr λ_ J6=>?_
 refine pC ?_;refine nx J6 ?_;refine ai ?_;refine aJ ?_;refine aF (dK _) (λ_ s=>am [1,1,1] rfl s) ?_;refine av rfl rfl ?_;exact Or.inr ⟨by omega,rfl,rfl⟩
theorem u7(b:Nat)(ls:List (List UInt8))(x:Value)(bs:List UInt8)(hb:bs.length≤1000000):DT 138 #[.pointer (some ⟨b,0,none⟩),x] (IsW x bs) [gY 208 5 b ls] (RI (.bool (decide (ls.length<8))) [gY 208 5 b (Az ls bs)]):=
 Leg.Does.pack (B:=[]) λq=>Leg.Does.fold (Bf b q.1 q.2.2.1 q.2.2.2 q.2.1 ls x bs hb) λe H hp=>by
  cases e with
  |returned v=>
   unfold Az;rcases hp with⟨h8,rfl,u,rfl⟩| ⟨h8,rfl,rfl⟩
   · refine⟨[gY 208 5 b (ls++[bs])],λ_ s=>?_,by rw[decide_eq_true h8],by rw[if_pos h8]⟩
     have s1:=Am 3 rfl rfl s;have s2:=aC [2,2] rfl s1;have s3:=uq s2;exact bp (p:=λq:Nat×List Value×Nat×Nat=>[ak b [.chan (some q.1)] 208,eg q.1 8 q.2.1 q.2.2.1 q.2.2.2,eH q.2.1 (ls++[bs]) 5]) (H:=[]) (q.1,q.2.1++[u],q.2.2.1+1,q.2.2.2) (aC [1,1,0] rfl s3)
   · exact⟨[gY 208 5 b ls],λ_ s=>bp (p:=λq:Nat×List Value×Nat×Nat=>[ak b [.chan (some q.1)] 208,eg q.1 8 q.2.1 q.2.2.1 q.2.2.2,eH q.2.1 ls 5]) (H:=[]) q s,by rw[decide_eq_false h8],by rw[if_neg h8]⟩
  |panicked c=>exact hp.elim
  |outgrown=>exact hp.elim
theorem yy(b c s r:Nat)(us:List Value)(ls:List (List UInt8)):
 DT 139 #[(.pointer (some ⟨b,0,none⟩))] T0 [ak b [(.chan (some c))] 208,eg c 8 (us) (s) (r),eH (us) (ls) 5] (dz (λv H=>(ls=[]∧v= .tuple #[.slice none 0 0, .bool false]∧H=[ak b [(.chan (some c))] 208,eg c 8 [] s r,eH [] ls 5])∨(∃u us' f ls',ls=f::ls'∧v= .tuple #[u, .bool true]∧H=[ak b [(.chan (some c))] 208,eg c 8 us' s (r+1),eH (u::us') (f::ls') 5]))):=by
 refine BD 14 Tryz.func139 rfl rfl rfl λw0 F hF=>sr λ_ J1=>P2 ?_
 refine nx J1 (sr λ_ J2=>yC (p:=us.length=ls.length) (λw m=>(qH 2 rfl rfl m).1) (λhul=>P2 ?_));refine FA 0 Dp uz ?_;refine LA 0 vp ?_;refine nx J2 (aa λ_ J3=>yE ?_);rcases us with _| ⟨u,us⟩
 refine TX.recvNone 1 rfl (ab rfl) rfl rfl rfl MD rfl rfl rfl (tn rfl (ab rfl) rfl rfl (l9 (vs:=[(.int .i64 (-1)),(.bool false),(.slice none 0 0)]) rfl rfl rfl) (tn rfl (ab rfl) rfl rfl (Oe rfl rfl rfl) (KI (ac J3 (aq (CN (sr λ_ J4=>P2 ?_)))))));exact nx J4 (ai (aJ (WK [0,0,0] (iP rfl rfl rfl (Or.inl ⟨List.eq_nil_of_length_eq_zero hul.symm,rfl,rfl⟩)))));rcases ls with _| ⟨f,ls⟩
 · cases hul
 refine TX.recvBuf 1 rfl (ab rfl) rfl rfl rfl MD rfl rfl rfl (tn rfl (ab rfl) rfl rfl (l9 (vs:=[(.int .i64 0),(.bool true),u]) rfl rfl rfl) (tn rfl (ab rfl) rfl rfl (Oe rfl rfl rfl) (KI (ac J3 (aq (CY (sr λ_ J5=>P2 ?_)))))));refine nx J5 (sr λ_ J6=>P3 ?_);exact nx J6 (ai (aJ (WK [0,0,0] (iP rfl rfl rfl (Or.inr ⟨u,us,f,ls,rfl,rfl,rfl⟩)))))
theorem th(b:Nat)(ls:List (List UInt8)):DT 139 #[.pointer (some ⟨b,0,none⟩)] T0 [gY 208 5 b ls] (dz (λv H=>(ls=[]∧v= .tuple #[.slice none 0 0, .bool false]∧H=[gY 208 5 b []])∨(∃u f ls',ls=f::ls'∧v= .tuple #[u, .bool true]∧H=[gY 208 5 b ls',gL u f 5]))):=
 Leg.Does.pack (B:=[]) λq=>Leg.Does.fold (yy b q.1 q.2.2.1 q.2.2.2 q.2.1 ls) λe H hp=>by
  cases e with
  |returned v=>
   rcases hp with⟨rfl,rfl,rfl⟩| ⟨u,us',f,ls',rfl,rfl,rfl⟩
   · exact⟨[gY 208 5 b []],λ_ s=>bp (p:=λq:Nat×List Value×Nat×Nat=>[ak b [.chan (some q.1)] 208,eg q.1 8 q.2.1 q.2.2.1 q.2.2.2,eH q.2.1 [] 5]) (H:=[]) (q.1,[],q.2.2.1,q.2.2.2) s,Or.inl ⟨rfl,rfl,rfl⟩⟩
   · refine⟨[gY 208 5 b ls',gL u f 5],λ_ s=>?_,Or.inr ⟨u,f,ls',rfl,rfl,rfl⟩⟩
     have s1:=aC [2] rfl s;have s2:=Hv s1;exact bp (p:=λq:Nat×List Value×Nat×Nat=>[ak b [.chan (some q.1)] 208,eg q.1 8 q.2.1 q.2.2.1 q.2.2.2,eH q.2.1 ls' 5]) (H:=[gL u f 5]) (q.1,us',q.2.2.1,q.2.2.2+1) (aC [2,2,1,0] rfl s2)
  |panicked c=>exact hp.elim
  |outgrown=>exact hp.elim
theorem Bg:
 DT 91 #[(.int .i64 8)] T0 [] (dz (λv H=>∃b c,v= .pointer (some ⟨b,0,none⟩)∧H=[ak b [(.chan (some c))] 208,eg c 8 [] 0 0])):=by
 refine BD 9 Tryz.func91 rfl rfl rfl λw0 F hF=>sr λ_ J1=>PS ?_
 refine nx J1 (sr λ_ J2=>PS ?_);refine tp (PG (v':=(.int .i64 8)) (yK rfl rfl rfl) rfl) ?_;refine tp (PG (v':=(.int .i64 8)) (PV.minI rfl rfl rfl) rfl) ?_;refine TL.makeChan (k:=8) (bytes:=24) (ab rfl) rfl rfl rfl vp (by kernel_rfl) rfl (by omega) (by omega) (λc6=>BV #[(.chan (some c6))] ?_);refine XB λb8=>?_
 refine PS ?_;exact nx J2 (ai (WK [0,0] (av rfl rfl ⟨b8,c6,rfl,rfl⟩)))
theorem Dg:DT 91 #[.int .i64 8] T0 [] (dz (λv H=>∃b,v= .pointer (some ⟨b,0,none⟩)∧H=[gY 208 5 b []])):=
 Leg.Does.fold Bg λe H hp=>by
  cases e with
  |returned v=>
   obtain⟨b,c,rfl,rfl⟩:=hp;exact⟨[gY 208 5 b []],λ_ s=>bp (p:=λq:Nat×List Value×Nat×Nat=>[ak b [.chan (some q.1)] 208,eg q.1 8 q.2.1 q.2.2.1 q.2.2.2,eH q.2.1 [] 5]) (H:=[]) (c,[],0,0) (aC [1,1,0] rfl (zO s)),b,rfl,rfl⟩
  |panicked c=>exact hp.elim
  |outgrown=>exact hp.elim
theorem pk(w:Int):
 DT 137 #[(.int .i64 (w))] T0 [] (RI (.bool (iF w)) []):=by
 refine BD 9 Tryz.func137 rfl rfl rfl λw0 F hF=>sr λ_ J1=>PS ?_
 refine nx J1 (sr λ_ J2=>P2 ?_);refine ao ?_ ?_<;>intro h4
 iterate 5 refine PS ?_
 refine nx J2 (ai (WK [] (av rfl rfl ?_)));exact⟨congrArg Value.bool (by unfold iF;simp only[decide_eq_decide];omega),rfl⟩;refine PS ?_;refine UF ?_;refine UF ?_;refine P2 ?_;refine nx J2 (ai (WK [] (av rfl rfl ?_)));exact⟨congrArg Value.bool (by unfold iF;symm;exact decide_eq_false (by omega)),rfl⟩
theorem mW(n:Nat)(bs:List Nat)(from' to':Int):
 DT 99 #[(.pointer (some ⟨n,0,none⟩)),(.int .i64 (from')),(.int .i64 (to'))] T0 [ak n (dG bs) 156] (dz (λv H=>((dB from' to'=true∧v= .pointer (some ⟨(bs.getD (bB from' to') 0),0,none⟩))∨(dB from' to'=false∧v= .pointer none))∧H=[ak n (dG bs) 156])):=by
 refine BD 23 Tryz.func99 rfl rfl rfl λw0 F hF=>sr λ_ J1=>PS ?_
 refine nx J1 (aa λ_ J2=>sr λ_ J3=>PS ?_);refine CE Li (pk from') ID ?_;refine bc ?_ ?_<;>intro h8;have hf:0≤from'∧from'<5:=of_decide_eq_true h8
 refine PS ?_;refine P2 ?_;refine CE Li (pk to') ID ?_;refine bc ?_ ?_<;>intro h12;have ht:0≤to'∧to'<5:=of_decide_eq_true h12;refine PS ?_;refine PS ?_;refine nx J3 (CN (qx J2 (sr λ_ J4=>P4 ?_)));refine FA 0 Tryz.underlying156 Ft ?_;refine IX (((from').toNat)*5) KF BF ?_;refine IX (((from').toNat)*5+(to').toNat) Jk Fu ?_;refine LT 0 xW (if bB from' to'%6=0 then .pointer none else .pointer (some ⟨(bs.getD (bB from' to') 0),0,none⟩)) ?_ (hc:=by exact Ch bs (k:=bB from' to') (by unfold bB;omega));refine PS ?_;refine nx J4 (ai (WK [0] (av rfl rfl ⟨?_,rfl⟩)))
 by_cases hd:from'=to'
 · rw[if_pos ((tF h8 h12).2 hd)]
   exact Or.inr ⟨by unfold dB;rw[decide_eq_true hd];simp,rfl⟩
 · rw[if_neg (λq=>hd ((tF h8 h12).1 q))]
   exact Or.inl ⟨by unfold dB;rw[h8,h12,decide_eq_false hd];rfl,rfl⟩
 refine PS ?_;refine PS ?_;refine nx J3 (CY (sr λ_ J5=>PS ?_));refine nx J5 (ai (af (WK [0] (av rfl rfl ?_))));exact⟨Or.inr ⟨by unfold dB;rw[h12];simp,rfl⟩,rfl⟩;refine PS ?_;refine PS ?_
 iterate 3 refine UT ?_
 refine PS ?_;refine nx J3 (CY (sr λ_ J6=>PS ?_));refine nx J6 (ai (af (WK [0] (av rfl rfl ?_))));exact⟨Or.inr ⟨by unfold dB;rw[h8];simp,rfl⟩,rfl⟩
def sV(W:List (List (List UInt8)))(f t:Int):Bool:=dB f t&&decide ((W.getD (bB f t) []).length<8)
theorem ym(n:Nat)(bs:List Nat)(W:List (List (List UInt8)))(from' to':Int)(x:Value)(by':List UInt8)(hb:by'.length≤1000000)(hW:W.length=25):
 DT 202 #[(.pointer (some ⟨n,0,none⟩)),(.int .i64 (from')),(.int .i64 (to')),x] (IsW x by') [ak n (dG bs) 156,eN 208 5 bs W] (RI (.bool (sV W from' to')) [ak n (dG bs) 156,eN 208 5 bs (oV W from' to' by')]):=by
 refine BD 21 Tryz.func202 rfl rfl rfl λw0 F hF=>sr λ_ J1=>PS ?_
 refine nx J1 (sr λ_ J2=>P3 ?_);refine CR Em (mW n bs from' to') ID λvR HR hR=>?_
 obtain⟨hw,rfl⟩:=hR;rcases hw with⟨hv,rfl⟩| ⟨hv,rfl⟩
 refine PS ?_;refine nx J2 (sr λ_ J3=>PS ?_);refine tp (gg rfl xW rfl rfl) ?_;refine P3 ?_;refine cA (H':=[gY 208 5 (bs.getD (bB from' to') 0) (W.getD (bB from' to') []),fC 208 5 bs W (bB from' to'),ak n (dG bs) 156]) (λ_ s=>n4 hv (aC [1] rfl s)) (CF Iv (u7 (bs.getD (bB from' to') 0) (W.getD (bB from' to') []) x by' hb) ID (λ_ d _=>Oj hF d) ?_);refine P2 ?_;refine nx J3 (ai (aF (H':=[ak n (dG bs) 156,eN 208 5 bs (oV W from' to' by')]) (dK _) (λ_ s=>by unfold oV;rw[if_pos hv];exact aC [1,0] rfl (tE hv hW (aC [0,0,0] rfl s))) (av rfl rfl ?_)));exact⟨by unfold sV;rw[hv];rfl,rfl⟩;refine PS ?_;refine nx J2 (sr λ_ J4=>PS ?_);refine tp (hX rfl xW rfl rfl) ?_;refine PS ?_
 iterate 3 refine UF ?_
 refine P2 ?_;refine nx J4 (ai (WK [0,0] (av rfl rfl ?_)));exact⟨by unfold sV;rw[hv];rfl,by unfold oV;rw[hv];rfl⟩
theorem AM(n:Nat)(W:List (List (List UInt8)))(from' to':Int)(x:Value)(by':List UInt8)(hb:by'.length≤1000000)(hW:W.length=25):DT 202 #[.pointer (some ⟨n,0,none⟩), .int .i64 from', .int .i64 to',x] (IsW x by') [eE 156 208 5 n W] (RI (.bool (sV W from' to')) [eE 156 208 5 n (oV W from' to' by')]):=
 Leg.Does.pack (B:=[]) λbs=>Leg.Does.fold (ym n bs W from' to' x by' hb hW) λe H hp=>by
  cases e with
  |returned v=>
   obtain⟨rfl,rfl⟩:=hp;exact⟨_,λ_ s=>bp (p:=λbs:List Nat=>[ak n (dG bs) 156,eN 208 5 bs (oV W from' to' by')]) (H:=[]) bs s,rfl,rfl⟩
  |panicked c=>exact hp.elim
  |outgrown=>exact hp.elim
def jw(f t:Int)(bs:List UInt8):List UInt8:=pu ([b8 f,b8 t]++bs)
theorem EE(from' to':Int)(x:Value)(by':List UInt8)(hb:by'.length≤100000):
 DT 52 #[(.int .i64 (from')),(.int .i64 (to')),x] (IsW x by') [] (dz (λv H=>∃u,v=u∧H=[dW u (jw from' to' by') 5])):=by
 refine BD 23 Tryz.func52 rfl rfl rfl λw0 F hF=>sr λ_ J1=>PS ?_
 refine nx J1 (sr λ_ J2=>PS ?_);refine tp (eh rfl gO rfl hF.len) ?_;refine AD ?_;refine TL.makeB (0) (2+by'.length) (ab rfl) rfl rfl rfl gO zv rfl rfl rfl (by omega) (by omega) (by omega) (λb11=>cA (H':=[dW (.slice (some ⟨b11,0,none⟩) 0 (2+by'.length)) ([]) 5]) (λ_ s=>Fx 0 rfl rfl (by omega) (by simp only[maxLen];omega) (by simp[ej]) rfl s) (PS ?_));refine nx J2 (sr λ_ J3=>P2 ?_);refine tp (eB (r:=(((b8 from').toNat:Nat):Int)) rfl Y3 Y5 rfl (vK _)) ?_;refine PS ?_;refine tp (eB (r:=(((b8 to').toNat:Nat):Int)) rfl Y3 Y5 rfl (vK _)) ?_;refine aW (cells:=#[(.int .u8 ((((b8 from').toNat:Nat):Int))),(.int .u8 ((((b8 to').toNat:Nat):Int)))]) (ab rfl) rfl rfl rfl gO zv rfl rfl rfl (by as_aux_lemma=>kernel_rfl) (λb17=>cL (k:=1) (news:=ej ([(b8 from'),(b8 to')])) (nn':=([(b8 from'),(b8 to')]:List UInt8).length) (xs':=ej ([(b8 from'),(b8 to')])) (ab rfl) rfl rfl rfl gO zv rfl rfl rfl rfl rfl rfl (λ_ _=>jK rfl (RO 0) rfl) (eY [(b8 from'),(b8 to')]) (by simp only[maxLen,aD,ay];omega) (by simp only[aD,ay];omega) (by simp<;>omega) (bO _) (λv18 ov18=>PS ?_));refine nx J3 (sr λ_ J4=>P2 ?_)
 refine cL (k:=1) (news:=ej (by')) (nn':=([(b8 from'),(b8 to')]++by':List UInt8).length) (xs':=ej ([(b8 from'),(b8 to')]++by')) (ab rfl) rfl rfl rfl gO zv rfl rfl rfl rfl rfl rfl (λ_ _=>hF.src (λ_ h=>fu h)) (eY _) (by simp only[maxLen,ah,ay,aD];omega) (by simp only[ah,ay,aD];omega) (by simp<;>omega) (ji _ _).symm (λv21 ov21=>CQ M5 (uB v21 ([(b8 from'),(b8 to')]++by') (by simp only[ah,ay,aD];omega)) ID (λg d s=>Js (vH 1 rfl rfl g d s)) λvR HR hR=>?_);have hR:=hR;subst hR;refine PS ?_;exact nx J4 (ai (WK [0] (av rfl rfl ⟨_,rfl,rfl⟩)))
theorem rJ(f t:Int)(bs:List UInt8):(jw f t bs).length=bs.length+6:=by
 unfold jw;rw[kO];simp only[ah,ay,aD];omega
theorem yq(n:Nat)(W:List (List (List UInt8)))(from' to':Int)(x:Value)(by':List UInt8)(hb:by'.length≤3000)(hW:W.length=25):
 DT 204 #[(.pointer (some ⟨n,0,none⟩)),(.int .i64 (from')),(.int .i64 (to')),x] (IsW x by') [eE 156 208 5 n (W)] (RI (.bool (sV W from' to')) [eE 156 208 5 n (oV W from' to' (jw from' to' by'))]):=by
 refine BD 24 Tryz.func204 rfl rfl rfl λw0 F hF=>?_
 have hfl:(jw from' to' by').length≤1000000:=by rw[rJ];omega
 refine sr λ_ J1=>PS ?_
 refine nx J1 (aa λ_ J2=>sr λ_ J3=>PS ?_);refine tp (jf rfl Jj rfl rfl) ?_;refine P2 ?_;refine tq (eh rfl gO rfl hF.len) ?_;refine PS ?_;refine ao ?_ ?_<;>intro h14
 · exact absurd h14 (by omega)
 refine PS ?_;refine nx J3 (CN (qx J2 (sr λ_ J4=>?_)))
 iterate 6 refine PS ?_
 refine CQ Pb (EE from' to' x by' (by omega)) ID (λ_ d _=>Oj hF d) λvR HR hR=>?_
 obtain⟨_,rfl,rfl⟩:=hR;revert vR;intro uf;refine CF Nk (AM n W from' to' uf (jw from' to' by') hfl hW) (SM [1]) (λg d s=>Js (vH 0 rfl rfl g d s)) ?_;refine PS ?_;exact nx J4 (ai (WK [0] (av rfl rfl ⟨rfl,rfl⟩)))
theorem yr(from' to':Int)(x:Value)(by':List UInt8)(h0:0<by'.length)(hb:by'.length≤100000):
 DT 140 #[(.int .i64 (from')),(.int .i64 (to')),x] (IsW x (jw from' to' by')) [] (dz (λv H=>∃u,v= .tuple #[u, .bool true]∧H=[gL u by' 5])):=by
 refine BD 40 Tryz.func140 rfl rfl rfl λw0 F hF=>?_
 have hfl:(jw from' to' by').length≤1000000000:=by rw[rJ];omega
 refine sr λ_ J1=>P2 ?_
 refine nx J1 (sr λ_ J2=>PS ?_);refine CQ K8 (yX x (jw from' to' by') hfl) ID (λ_ d _=>Oj hF d) λvR HR hR=>?_
 rcases hR with⟨ht',_,_⟩| ⟨t,u,ht',rfl,rfl⟩
 · exact absurd ht' (by unfold jw;rw[ra];simp)
 obtain rfl:t=([b8 from',b8 to']++by'):=by unfold jw at ht';rw[ra]at ht';exact(cI ht').symm
 refine j7 0 rfl rfl (by simp) (λg cap hv hcap=>?_);have hv2:u= .slice (some ⟨g,0,none⟩) (by'.length+2) cap:=hv;refine P4 ?_;refine PS ?_;refine nx J2 (aa λ_ J3=>sr λ_ J4=>PS ?_);refine PS ?_;refine P2 ?_;refine tq (eh rfl gO rfl (by rw[hv2];exact⟨_,_,rfl⟩)) ?_;refine PS ?_;refine ao ?_ ?_<;>intro h20
 · exact absurd h20 (by omega)
 refine P3 ?_;refine tq (bU (r:=0) hv2 rfl gO lB rfl rfl (by omega) (by omega) rfl) ?_;refine tq (di (v:=(.int .u8 ((((b8 from').toNat:Nat):Int)))) rfl Y5 rfl rfl (gm 0 rfl hv rfl) (q8 (l:=([b8 from',b8 to']++by')) (j:=0) (by simp))) ?_;refine PS ?_;refine tq (eB (r:=(((b8 from').toNat:Nat):Int)) rfl Y3 Y5 rfl (vK _)) ?_;refine PS ?_;refine ao ?_ ?_<;>intro h28
 · exact absurd rfl h28
 refine P3 ?_;refine tq (bU (r:=1) hv2 rfl gO lB rfl rfl (by omega) (by omega) rfl) ?_;refine tq (di (v:=(.int .u8 ((((b8 to').toNat:Nat):Int)))) rfl Y5 rfl rfl (gm 0 rfl hv rfl) (q8 (l:=([b8 from',b8 to']++by')) (j:=1) (by simp))) ?_;refine PS ?_;refine tq (eB (r:=(((b8 to').toNat:Nat):Int)) rfl Y3 Y5 rfl (vK _)) ?_;refine PS ?_;refine ao ?_ ?_<;>intro h36
 · exact absurd rfl h36
 refine PS ?_;refine nx J4 (CN (qx J3 (sr λ_ J5=>PS ?_)));refine tp (PG (PV.sliceL (a:=some ⟨g,0,none⟩) (len:=by'.length+2) (cap:=cap) (lo:=2) rfl gO lB (by rw[←hv2];rfl) rfl rfl (by omega)) (congrArg (λq=>j5 q 2 (by'.length+2)) hv2.symm)) ?_;refine P2 ?_;exact nx J5 (ai (aF (H':=[gL (j5 u 2 (by'.length+2)) by' 5]) (dK _) (λ_ s=>wz 0 rfl rfl hv (by omega) (by simp) (by simp;omega) (by simp) s) (iP rfl rfl rfl ⟨_,rfl,rfl⟩)))
theorem xe(n:Nat)(bs:List Nat)(W:List (List (List UInt8)))(from' to':Int)(by':List UInt8)(ls:List (List UInt8))(hv:dB from' to'=true)(hW:W.length=25)(hk:W.getD (bB from' to') []=jw from' to' by'::ls)(h0:0<by'.length)(hb:by'.length≤100000):
 DT 103 #[(.pointer (some ⟨n,0,none⟩)),(.int .i64 (from')),(.int .i64 (to'))] T0 [ak n (dG bs) 156,eN 208 5 bs (W)] (dz (λv H=>∃u,v= .tuple #[u, .bool true]∧H=[ak n (dG bs) 156,eN 208 5 bs (W.set (bB from' to') ls),gL u by' 5])):=by
 refine BD 32 Tryz.func103 rfl rfl rfl λw0 F hF=>sr λ_ J1=>P2 ?_
 refine nx J1 (aa λ_ J2=>sr λ_ J3=>PS ?_);refine tp (jf rfl Jj rfl rfl) ?_;refine nx J3 (CN (qx J2 (sr λ_ J4=>P3 ?_)));refine CR Em (mW n bs from' to') ID λvR HR hR=>?_
 obtain⟨hw,rfl⟩:=hR;obtain⟨_,rfl⟩:dB from' to'=true∧vR= .pointer (some ⟨(bs.getD (bB from' to') 0),0,none⟩):=hw.resolve_right (λq=>by rw[hv]at q;cases q.1)
 refine PS ?_;refine nx J4 (aa λ_ J5=>sr λ_ J6=>PS ?_);refine tp (jf rfl xW rfl rfl) ?_;refine nx J6 (CN (qx J5 (sr λ_ J7=>PS ?_)));refine cA (H':=[gY 208 5 (bs.getD (bB from' to') 0) (W.getD (bB from' to') []),fC 208 5 bs W (bB from' to'),ak n (dG bs) 156]) (λ_ s=>n4 hv (aC [1] rfl s)) (CR Lh (th (bs.getD (bB from' to') 0) (W.getD (bB from' to') [])) ID λvR HR hR=>?_);rcases hR with⟨he,_,_⟩| ⟨u,f,ls',he,rfl,rfl⟩
 · rw[he]at hk;cases hk
 rw[hk]at he;obtain⟨rfl,rfl⟩:=List.cons.inj he;refine P4 ?_;refine PS ?_;refine nx J7 (aa λ_ J8=>sr λ_ J9=>PS ?_);refine PS ?_;refine nx J9 (CN (qx J8 (sr λ_ J10=>P3 ?_)));refine CQ NI (yr from' to' u by' h0 hb) ID (λg d s=>Js (AU 1 rfl rfl g d s)) λvR HR hR=>?_
 obtain⟨uv,rfl,rfl⟩:=hR;refine P4 ?_;exact nx J10 (ai (aF (H':=[ak n (dG bs) 156,eN 208 5 bs (W.set (bB from' to') ls),gL uv by' 5]) (dK _) (λ_ s=>aC [1,0] rfl (tE hv hW (am [1,2,2,0] rfl s))) (iP rfl rfl rfl ⟨_,rfl,rfl⟩)))
theorem qS(n:Nat)(W:List (List (List UInt8)))(from' to':Int)(by':List UInt8)(ls:List (List UInt8))(hv:dB from' to'=true)(hW:W.length=25)(hk:W.getD (bB from' to') []=jw from' to' by'::ls)(h0:0<by'.length)(hb:by'.length≤100000):DT 103 #[.pointer (some ⟨n,0,none⟩), .int .i64 from', .int .i64 to'] T0 [eE 156 208 5 n W] (dz (λv H=>∃u,v= .tuple #[u, .bool true]∧H=[eE 156 208 5 n (W.set (bB from' to') ls),gL u by' 5])):=
 Leg.Does.pack (B:=[]) λbs=>Leg.Does.fold (xe n bs W from' to' by' ls hv hW hk h0 hb) λe H hp=>by
  cases e with
  |returned v=>
   obtain⟨u,rfl,rfl⟩:=hp;exact⟨[eE 156 208 5 n (W.set (bB from' to') ls),gL u by' 5],λ_ s=>bp (p:=λbs:List Nat=>[ak n (dG bs) 156,eN 208 5 bs (W.set (bB from' to') ls)]) (H:=[gL u by' 5]) bs s,u,rfl,rfl⟩
  |panicked c=>exact hp.elim
  |outgrown=>exact hp.elim
end Go.Proofs.YtjblgopghhgflaaGreat
end

section
namespace Leg
open Go Codec Api
section
variable {P:Program} {n:Nat} {D:List Deferred} {L:List (Nat×Value)} {S:World→Prop} {o:Oper}
theorem PV.ptrNeIf{c:Prop}[Decidable c]{t t':TypeId}{x y:Operand}{a:Addr}(ho:o.op= .binOp .neq t x y t')(ht:P.underlying t=some (.pointer (P.pointee t)))(hx:cK L x=some (if c then .pointer none else .pointer (some a)))(hy:cK L y=some (.pointer none)):PV P n D L S o (.bool (!decide c)):=by
 by_cases h:c
 · rw[if_pos h]at hx;rw[decide_eq_true h];exact hX ho ht hx hy
 · rw[if_neg h]at hx;rw[decide_eq_false h];exact gg ho ht hx hy
end
abbrev Ii(bs:List Nat)(k:Nat):Value:=if k%6=0 then .pointer none else .pointer (some ⟨bs.getD k 0,0,none⟩)
def sP(bs:List Nat)(i:Nat):List Value:=(List.range 5).map λj=>Ii bs (i*5+j)
theorem oh(bs:List Nat)(i:Nat):(sP bs i).length=5:=by simp[sP]
theorem H9(bs:List Nat)(i:Nat): ∀v∈sP bs i,v.oneCell'=true:=by
 intro v hv;simp only[sP,eG]at hv;obtain⟨j,_,rfl⟩:=hv;show(if _ then _ else _:Value).oneCell'=true;split<;>rfl
theorem Fz(bs:List Nat)(i:Nat){j:Nat}(h:j<5):(sP bs i)[j]?=some (Ii bs (i*5+j)):=by simp[sP,h]
theorem Ia(bs:List Nat){i:Nat}(h:i<5):((dG bs).drop (i*5)).take 5=sP bs i:=by
 refine List.ext_getElem? λj=>?_
 by_cases hj:j<5
 · rw[List.getElem?_take_of_lt hj,List.getElem?_drop,Ch bs (by omega),Fz bs i hj]
 · rw[List.getElem?_eq_none (by rw[bo];omega),List.getElem?_eq_none (by rw[oh];omega)]
def lW(W:List (List (List UInt8)))(k:Nat):Nat:=((List.range k).map λq=>if q%6=0 then 0 else(W.getD q []).length).sum
theorem rB(W:List (List (List UInt8)))(k:Nat):lW W (k+1)=lW W k+(if k%6=0 then 0 else(W.getD k []).length):=by simp[lW,c9]
def lN(bs:List Nat):List Value:=(List.range 25).map λq=>if q%6=0∨bs.length≤q then .pointer none else .pointer (some ⟨bs.getD q 0,0,none⟩)
theorem zf(bs:List Nat):(lN bs).length=25:=by simp[lN]
theorem GG{bs:List Nat}{b:Nat}(h:bs.length<25)(hd: ¬bs.length%6=0):(lN bs).set bs.length (.pointer (some ⟨b,0,none⟩))=lN (bs++[b]):=by
 refine List.ext_getElem? λj=>?_
 by_cases hj:j=bs.length
 · subst hj
   rw[List.getElem?_set_self (by rw[zf];exact h)];simp[lN,h,hd,List.getD_eq_getElem?_getD]
 · rw[List.getElem?_set_ne (λe=>hj e.symm)]
   simp only[lN,List.getElem?_map];cases hr:(List.range 25)[j]?with
   |none=>rfl
   |some q=>
    have hq:q=j:=by
     by_cases h25:j<25
     · simp[h25]at hr;exact hr.symm
     · simp[h25]at hr
    subst hq;simp only[Option.map_some,ah,ay,aD];congr 1
    by_cases hlt:q<bs.length
    · simp[show ¬bs.length≤q by omega,show ¬bs.length+1≤q by omega,List.getElem?_append_left hlt]
    · simp[show bs.length≤q by omega,show bs.length+1≤q by omega]
theorem Eg{bs:List Nat}{b:Nat}(hd:bs.length%6=0):lN (bs++[b])=lN bs:=by
 unfold lN;refine dX λq hq=>?_
 rw[ah,gy]
 by_cases hq6:q%6=0
 · simp[hq6]
 · by_cases hlt:q<bs.length
   · simp[hq6,show ¬bs.length≤q by omega,show ¬bs.length+1≤q by omega,List.getElem?_append_left hlt]
   · have: ¬q=bs.length:=λe=>hq6 (by rw[e];exact hd)
     simp[show bs.length≤q by omega,show bs.length+1≤q by omega]
theorem GH{bs:List Nat}(h:bs.length=25):lN bs=dG bs:=by
 unfold lN dG;refine dX λq hq=>?_
 rw[fe]at hq;simp[show ¬bs.length≤q by omega]
def pa(T U:Nat)(bs:List Nat)(q:Nat):HP:=if q%6=0 then(λ_=>True)else gY T U (bs.getD q 0) []
def kj(T U:Nat)(bs:List Nat):HP:=bG ((List.range bs.length).map (pa T U bs))
theorem E8(T U:Nat){H:List HP}{h:Hl}(s:bG H h):bG (kj T U []::H) h:=⟨em,h,Dv h,(qV h).symm,trivial,s⟩
theorem E9(T U:Nat)(bs:List Nat)(b:Nat):(List.range bs.length).map (pa T U (bs++[b]))=(List.range bs.length).map (pa T U bs):=
 dX λq hq=>by
  rw[fe]at hq;unfold pa;rw[show(bs++[b]).getD q 0=bs.getD q 0 by simp[List.getElem?_append_left hq]]
theorem u6(T U:Nat)(bs:List Nat)(b:Nat){H:List HP}{h:Hl}(s:bG (pa T U (bs++[b]) bs.length::kj T U bs::H) h):bG (kj T U (bs++[b])::H) h:=by
 have e:(List.range (bs++[b]).length).map (pa T U (bs++[b]))=(List.range bs.length).map (pa T U bs)++[pa T U (bs++[b]) bs.length]:=by
  rw[ah,gy,c9,da,E9];rfl
 obtain⟨h1,h2,d,rfl,a,b'⟩:=s;have s2:bG ((pa T U (bs++[b]) bs.length::(List.range bs.length).map (pa T U bs))++H) (jn h1 h2):=⟨h1,h2,d,rfl,a,(cd _ _).2 b'⟩;have p:((pa T U (bs++[b]) bs.length::(List.range bs.length).map (pa T U bs))++H).Perm (((List.range bs.length).map (pa T U bs)++[pa T U (bs++[b]) bs.length])++H):=(List.perm_append_comm (l₁:=[pa T U (bs++[b]) bs.length])).append_right H;have s3:=eu p s2;rw[←e]at s3;exact(cd _ _).1 s3
theorem Df(T U:Nat)(bs:List Nat)(hd:bs.length%6=0){H:List HP}{h:Hl}(s:bG (kj T U bs::H) h):bG (kj T U (bs++[0])::H) h:=by
 refine u6 T U bs 0 ⟨em,h,Dv h,(qV h).symm,?_,s⟩;unfold pa;rw[if_pos hd];trivial
theorem Fa{T U:Nat}{bs:List Nat}(h:bs.length=25):kj T U bs=eN T U bs (List.replicate 25 []):=by
 unfold kj eN px;rw[h];refine congrArg bG ?_;refine dX λq hq=>?_
 rw[fe]at hq;unfold pa qY;rw[show(List.replicate 25 ([]:List (List UInt8))).getD q []=[]by rw[List.getD_eq_getElem?_getD,List.getElem?_replicate,if_pos hq];rfl]
theorem Jc{T U:Nat}{bs:List Nat}{W:List (List (List UInt8))}{k:Nat}(h6: ¬k%6=0)(hk:k<25){H:List HP}{h:Hl}(s:bG (eN T U bs W::H) h):bG (gY T U (bs.getD k 0) (W.getD k [])::fC T U bs W k::H) h:=by
 have:=xN hk s
 rwa [qI h6]at this
theorem Jb{T U:Nat}{bs:List Nat}{W:List (List (List UInt8))}{k:Nat}(h6: ¬k%6=0)(hk:k<25){H:List HP}{h:Hl}(s:bG (gY T U (bs.getD k 0) (W.getD k [])::fC T U bs W k::H) h):bG (eN T U bs W::H) h:=by
 refine u0 (W:=W) hk (λ_ _=>rfl) ?_;rw[qI h6];exact s
end Leg
end

section
namespace Go.Proofs.YtjblgopghhgflaaGreat
open Go Leg Codec Api Dsk Wal
theorem AN(n:Nat)(bs:List Nat)(W:List (List (List UInt8)))(hsm: ∀k,k<25→lW W k+(W.getD k []).length≤1000000000):
 DT 66 #[(.pointer (some ⟨n,0,none⟩))] T0 [ak n (dG bs) 156,eN 208 5 bs (W)] (RI (.int .i64 ((lW W 25:Nat):Int)) [ak n (dG bs) 156,eN 208 5 bs W]):=by
 refine BD 28 Tryz.func66 rfl rfl rfl λw0 F hF=>sr λ_ J1=>PS ?_
 refine nx J1 (sr λ_ J2=>PS ?_);refine nx J2 (aa λ_ J3=>sr λ_ J4=>P2 ?_);refine FA 0 Tryz.underlying156 Ft ?_;refine tp (aM (vs:=dG bs) rfl KF rfl Ft rfl (RO 0) (ze bs) (wi (ze bs))) ?_;refine PS ?_;refine nx J4 (aq ?_)
 refine bw (α:=(Nat)) (λi=>i≤5) (λi=>[(2,(.int .i64 0)),(3,(.int .i64 (((lW W (i*5):Nat):Int)))),(11,(.agg (dG bs).toArray)),(12,(.int .i64 (((i:Nat):Int))))]) (λi=>[ak n (dG bs) 156,eN 208 5 bs (W)]) (λi=>5-i) 0
  (aN _) SB
  (λ_ s=>s) (λi hinv=>?_)
 obtain hi:=hinv;refine sr λ_ J5=>PS ?_
 refine ao ?_ ?_<;>intro h13;refine nx J5 (aa λ_ J6=>CY (qx J6 (aa λ_ J7=>aq (sr λ_ J8=>tp (PJ (cs:=dG bs) (vs:=sP bs i) (r:=i*5) rfl KF Jk rfl BF rfl rfl (by omega) (by omega) (by omega) (Ia bs (by omega))) ?_))));refine XA OL λb5=>?_
 refine bN (vs:=sP bs i) (i:=0) (ab rfl) rfl rfl rfl rfl rfl (by rw[oh bs i];exact BF) (H9 bs i) rfl rfl (by rw[oh bs i];exact aH _) (fX (Eq.trans (rfl:_=5) (by rw[oh bs i]:(sP bs i).length=5).symm)) rfl (nx J8 (sr λ_ J9=>tp (aM (vs:=sP bs i) rfl Jk rfl BF rfl (RO 0) (oh bs i) (wi (oh bs i))) ?_));refine PS ?_;refine nx J9 (aq ?_)
 refine bw (α:=(Nat)) (λj=>j≤5) (λj=>[(2,(.int .i64 0)),(3,(.int .i64 (((lW W (i*5+j):Nat):Int)))),(11,(.agg (dG bs).toArray)),(12,(.int .i64 (((i:Nat):Int)))),(15,(.agg (sP bs i).toArray)),(16,(.int .i64 (((j:Nat):Int))))]) (λj=>[ak n (dG bs) 156,eN 208 5 bs (W)]) (λj=>5-j) 0
  (aN _) SB
  (λ_ s=>am [1,1] rfl s) (λj hinv=>?_)
 obtain hj:=hinv;refine sr λ_ J10=>PS ?_
 refine ao ?_ ?_<;>intro h17;refine nx J10 (aa λ_ J11=>CY (qx J11 (aa λ_ J12=>aq (sr λ_ J13=>tp (kZ (cs:=sP bs i) (v:=Ii bs (i*5+j)) (r:=j) rfl Jk xW rfl Fu rfl rfl (by omega) (by omega) (by omega) (Fz bs i (by omega))) ?_))));refine PS ?_;refine nx J13 (sr λ_ J14=>PS ?_);refine tp (PV.ptrNeIf rfl xW rfl rfl) ?_;refine bc ?_ ?_<;>intro h20;have h20: ¬((i*5+j)%6=0):=by simpa using h20
 refine TL.weak (L':=[(2,(.int .i64 0)),(3,(.int .i64 (((lW W (i*5+j):Nat):Int)))),(7,(.pointer (some ⟨(bs.getD (i*5+j) 0),0,none⟩))),(11,(.agg (dG bs).toArray)),(12,(.int .i64 (((i:Nat):Int)))),(15,(.agg (sP bs i).toArray)),(16,(.int .i64 (((j:Nat):Int)))),(17,(.bool true)),(18,(Ii bs (i*5+j))),(19,(Ii bs (i*5+j))),(20,(.bool true))]) (bz rfl rfl (bz rfl rfl (bz rfl (if_neg h20) (bz rfl rfl (bz rfl rfl (bz rfl rfl (bz rfl rfl (bz rfl rfl (bz rfl rfl (bz rfl rfl (bz rfl rfl SB))))))))))) (λ_ s=>s) (cA (H':=[gY 208 5 (bs.getD (i*5+j) 0) (W.getD (i*5+j) []),fC 208 5 bs W (i*5+j),ak n (dG bs) 156]) (λ_ s=>Jc h20 (by omega) (aC [1] rfl s)) (nx J14 (CY (ae (P2 ?_)))));refine CE uP (jy (bs.getD (i*5+j) 0) (W.getD (i*5+j) [])) ID ?_;refine tp (cC (r:=((lW W (i*5+j)+(W.getD (i*5+j) []).length:Nat):Int)) rfl rfl rfl (by rw[←Int.natCast_add];exact bV (by omega) (by have:=hsm (i*5+j) (by omega);omega))) ?_;refine PS ?_;refine au (ag (ac J12 (ae (AD ?_))));refine PS ?_;refine au ?_
 exact aK ((j+1):(Nat)) (by omega) (by show 5- (j+1)<5-j;omega)
  (aT (bz rfl (by rw[show lW W (i*5+(j+1))=lW W (i*5+j)+(W.getD (i*5+j) []).length from by rw[←pE,rB,if_neg h20]]) SB))
  (λ_ s=>aC [1,0] rfl (Jb h20 (by omega) (am [0,0,0] rfl s)))
 refine nx J14 (CN (aU (ag (ac J12 (ae (AD ?_))))));refine PS ?_;refine au ?_
 exact aK ((j+1):(Nat)) (by omega) (by show 5- (j+1)<5-j;omega)
  (aT (bz rfl (by rw[show lW W (i*5+(j+1))=lW W (i*5+j)from by rw[←pE,rB,if_pos (by simpa using h20),Jr]]) SB))
  (λ_ s=>s)
 refine nx J10 (aa λ_ J15=>CN (aX (aA (aA (br (ag (ac J7 (ae (AD ?_)))))))));refine PS ?_;refine au ?_
 exact aK ((i+1):(Nat)) (by omega) (by show 5- (i+1)<5-i;omega)
  (aT (bz rfl (by rw[show(i+1)*5=i*5+j by omega]) SB))
  (λ_ s=>s)
 refine nx J5 (aa λ_ J16=>CN (aX (aA (aA (br (ac J3 (sr λ_ J17=>P2 ?_)))))));refine nx J17 (ai (WK [0,0] (av rfl rfl ?_)));exact⟨by rw[show i*5=25 by omega],rfl⟩
theorem Cp(n:Nat)(W:List (List (List UInt8)))(hsm: ∀k,k<25→lW W k+(W.getD k []).length≤1000000000):DT 66 #[.pointer (some ⟨n,0,none⟩)] T0 [eE 156 208 5 n W] (RI (.int .i64 ((lW W 25:Nat):Int)) [eE 156 208 5 n W]):=
 Leg.Does.pack (B:=[]) λbs=>Leg.Does.fold (AN n bs W hsm) λe H hp=>by
  cases e with
  |returned v=>
   obtain⟨rfl,rfl⟩:=hp;exact⟨[eE 156 208 5 n W],λ_ s=>bp (p:=λbs:List Nat=>[ak n (dG bs) 156,eN 208 5 bs W]) (H:=[]) bs s,rfl,rfl⟩
  |panicked c=>exact hp.elim
  |outgrown=>exact hp.elim
theorem Jd{T U:Nat}{bs:List Nat}{b:Nat}(h: ¬bs.length%6=0):pa T U (bs++[b]) bs.length=gY T U b []:=by
 unfold pa;rw[if_neg h,List.getD_eq_getElem?_getD,List.getElem?_append_right (aH _),yN];rfl
theorem Fb{T U:Nat}{bs:List Nat}{b:Nat}(hl: ¬bs.length%6=0){H:List HP}{h:Hl}(s:bG (gY T U b []::kj T U bs::H) h):bG (kj T U (bs++[b])::H) h:=u6 T U bs b (by rw[Jd hl];exact s)
theorem Co:
 DT 53 #[] T0 [] (dz (λv H=>∃n,v= .pointer (some ⟨n,0,none⟩)∧H=[eE 156 208 5 n (List.replicate 25 [])])):=by
 refine Leg.Does.body (vs:=[]) (n:=26) Tryz.func53 rfl rfl rfl (λw0 F hF=>?_);refine sr λ_ J1=>?_
 refine pC ?_;refine nx J1 ?_;refine sr λ_ J2=>?_
 refine tp (j8 (cells:=#[(.pointer none),(.pointer none),(.pointer none),(.pointer none),(.pointer none),(.pointer none),(.pointer none),(.pointer none),(.pointer none),(.pointer none),(.pointer none),(.pointer none),(.pointer none),(.pointer none),(.pointer none),(.pointer none),(.pointer none),(.pointer none),(.pointer none),(.pointer none),(.pointer none),(.pointer none),(.pointer none),(.pointer none),(.pointer none)]) rfl rfl (by as_aux_lemma=>kernel_rfl)) ?_;refine TL.box (ab rfl) rfl rfl rfl rfl (λb5=>?_);change TL _ _ _ _ _ _ _ _ _ [ak b5 [(.pointer none),(.pointer none),(.pointer none),(.pointer none),(.pointer none),(.pointer none),(.pointer none),(.pointer none),(.pointer none),(.pointer none),(.pointer none),(.pointer none),(.pointer none),(.pointer none),(.pointer none),(.pointer none),(.pointer none),(.pointer none),(.pointer none),(.pointer none),(.pointer none),(.pointer none),(.pointer none),(.pointer none),(.pointer none)] 156];refine pC ?_;refine nx J2 ?_;refine aa λ_ J3=>?_
 refine sr λ_ J4=>?_
 refine mv ?_;refine nx J4 ?_;refine aq ?_
 refine bw (α:=(Nat)×(List Nat)) (λ⟨i,bs⟩=>i≤5∧bs.length=i*5) (λ⟨i,bs⟩=>[(0,(.pointer none)),(1,(.pointer (some ⟨b5,0,none⟩))),(6,(.int .i64 (((i:Nat):Int))))]) (λ⟨i,bs⟩=>[ak b5 (lN (bs)) 156,kj 208 5 (bs)]) (λ⟨i,bs⟩=>5-i) (0,[])
  ⟨aN _,rfl⟩ (aT (aT (bz rfl (by congr 1) (MI _))))
  (λ_ s=>aC [1,0] rfl (E8 208 5 s)) (λ⟨i,bs⟩ hinv=>?_)
 obtain⟨hi,hbs⟩:=hinv;refine sr λ_ J5=>?_
 refine tp (PV.lss rfl rfl rfl) ?_;refine ao (λh7=>?_) (λh7=>?_);refine nx J5 ?_;refine aa λ_ J6=>?_
 refine ny rfl ?_;refine aU ?_;refine ac J6 ?_;refine aa λ_ J7=>?_
 refine aq ?_;refine sr λ_ J8=>?_
 refine mv ?_;refine pC ?_;refine nx J8 ?_;refine sr λ_ J9=>?_
 refine mv ?_;refine nx J9 ?_;refine aq ?_
 refine bw (α:=(Nat)×(List Nat)) (λ⟨j,bs2⟩=>j≤5∧bs2.length=i*5+j) (λ⟨j,bs2⟩=>[(0,(.pointer none)),(1,(.pointer (some ⟨b5,0,none⟩))),(2,(.int .i64 (((i:Nat):Int)))),(6,(.int .i64 (((i:Nat):Int)))),(9,(.int .i64 (((j:Nat):Int))))]) (λ⟨j,bs2⟩=>[ak b5 (lN (bs2)) 156,kj 208 5 (bs2)]) (λ⟨j,bs2⟩=>5-j) (0,bs)
  ⟨aN _,hbs⟩ (aT (aT (aT (aT (bz rfl (by congr 1) (MI _))))))
  (λ_ s=>s) (λ⟨j,bs2⟩ hinv=>?_)
 obtain⟨hj,hbl⟩:=hinv;refine sr λ_ J10=>?_
 refine tp (PV.lss rfl rfl rfl) ?_;refine ao (λh10=>?_) (λh10=>?_);refine nx J10 ?_;refine aa λ_ J11=>?_
 refine ny rfl ?_;refine aU ?_;refine ac J11 ?_;refine aa λ_ J12=>?_
 refine aq ?_;refine sr λ_ J13=>?_
 refine mv ?_;refine pC ?_;refine nx J13 ?_;refine sr λ_ J14=>?_
 refine mv ?_;refine mv ?_;refine tp (PV.neq rfl rfl rfl) ?_;refine ao (λh14=>?_) (λh14=>?_);refine nx J14 ?_;refine ny rfl ?_;refine rR (λw=>Frm F w∧True) dN rfl (λ_ s=>⟨fu s,trivial⟩) ?_;refine ta 0 rfl (jV rfl rfl) ?_;refine ta 1 rfl (jV rfl rfl) ?_;refine ta 2 rfl (jV rfl rfl) ?_;refine ta 4 rfl (gk rfl rfl) ?_;refine ta 5 rfl (aY (r:=0) rfl Tryz.underlying156 rfl Ft rfl rfl) ?_;refine ta 6 rfl (eT (r:=i*5) rfl KF BF rfl rfl (by omega) (by omega) (by omega)) ?_;refine cT [3] (by kernel_rfl) rfl ?_;refine aG rfl ?_ ?_;refine kX (A:=[]) (ab rfl) rfl rfl rfl OY rfl (Dg) (λ_ s=>s) (λ_ _ _=>trivial) (λvR HR hR=>?_);obtain⟨bx,rfl,rfl⟩:=hR;change TL _ _ _ _ _ _ _ _ _ [gY 208 5 bx [],ak b5 (lN (bs2)) 156,kj 208 5 (bs2)];refine au ?_;refine va (λ_ s=>⟨fu s,trivial⟩) ?_;refine ta 7 rfl (eT (r:=i*5+j) rfl Jk Fu rfl rfl (by omega) (by omega) (by omega)) ?_;refine cT [8] (by kernel_rfl) rfl ?_;refine aG rfl ?_ ?_;refine bF (i:=1) (H':=[gY 208 5 bx [],ak b5 (lN (bs2++[bx])) 156,kj 208 5 (bs2)]) (ab rfl) rfl rfl rfl rfl rfl Fu rfl rfl (by rw[zf];omega) (by rw[show i*5+j=bs2.length by omega];exact GG (by omega) (by omega)) rfl ?_;refine au ?_;refine va (λ_ s=>⟨fu s,trivial⟩) ?_;refine TD.done (by kernel_rfl) ?_;refine ag ?_;refine ac J12 ?_;refine ae ?_;refine tp (cC rfl rfl rfl (bV (by omega) (by omega))) ?_;refine mv ?_;refine au ?_
 exact aK ((j+1,bs2++[bx]):(Nat)×(List Nat)) ⟨by omega,by rw[ah,gy];omega⟩ (by show 5- (j+1)<5-j;omega)
  (aT (aT (aT (aT (bz rfl (by simp) (MI _))))))
  (λ_ s=>show bG [ak b5 (lN (bs2++[bx])) 156,kj 208 5 (bs2++[bx])] _ from aC [1,0] rfl (Fb (by omega) (am [0,1,0] rfl s)))
 exact bJ;exact bJ;refine nx J14 ?_;refine F2 rfl ?_;refine aU ?_;refine ag ?_;refine ac J12 ?_;refine ae ?_;refine tp (cC rfl rfl rfl (bV (by omega) (by omega))) ?_;refine mv ?_;refine au ?_
 exact aK ((j+1,bs2++[0]):(Nat)×(List Nat)) ⟨by omega,by rw[ah,gy];omega⟩ (by show 5- (j+1)<5-j;omega)
  (aT (aT (aT (aT (bz rfl (by simp) (MI _))))))
  (λ_ s=>show bG [ak b5 (lN (bs2++[0])) 156,kj 208 5 (bs2++[0])] _ by rw[Eg (by omega)];exact aC [1,0] rfl (Df 208 5 bs2 (by omega) (aC [1,0] rfl s)))
 refine nx J10 ?_;refine aa λ_ J15=>?_
 refine F2 rfl ?_;refine aX ?_;refine aA ?_;refine aA ?_;refine br ?_;refine ag ?_;refine ac J7 ?_;refine ae ?_;refine tp (cC rfl rfl rfl (bV (by omega) (by omega))) ?_;refine mv ?_;refine au ?_
 exact aK ((i+1,bs2):(Nat)×(List Nat)) ⟨by omega,by omega⟩ (by show 5- (i+1)<5-i;omega)
  (aT (aT (bz rfl (by simp) (MI _))))
  (λ_ s=>s)
 refine nx J5 ?_;refine aa λ_ J16=>?_
 refine F2 rfl ?_;refine aX ?_;refine aA ?_;refine aA ?_;refine br ?_;refine ac J3 ?_;refine sr λ_ J17=>?_
 refine mv ?_;refine pC ?_;refine nx J17 ?_;refine ai ?_;refine aF (H':=[eE 156 208 5 b5 (List.replicate 25 [])]) (dK _) (λ_ s=>bp (p:=λbs:List Nat=>[ak b5 (dG bs) 156,eN 208 5 bs (List.replicate 25 [])]) (H:=[]) bs (by rw[←GH (by omega),←Fa (by omega)];exact s)) ?_;refine av rfl rfl ?_;exact⟨b5,rfl,rfl⟩
end Go.Proofs.YtjblgopghhgflaaGreat
end

section
namespace Leg
open Go Codec Api
def eM(n:Nat)(D M P:Nat→Value):List Value:= .pointer (some ⟨n,0,none⟩)::((List.range 5).map D++((List.range 5).map M++(List.range 5).map P))
section
variable (n:Nat) (D M P:Nat→Value) {i:Nat}
theorem rN:(eM n D M P).length=16:=by simp[eM]
theorem A8:(eM n D M P)[0]?=some (.pointer (some ⟨n,0,none⟩)):=rfl
theorem Db(h:i<5):(eM n D M P)[1+i]?=some (D i):=by
 rw[mp,eM,List.getElem?_cons_succ,List.getElem?_append_left (by simpa using h)];simp[h]
theorem xJ(h:i<5):(eM n D M P)[6+i]?=some (M i):=by
 rw[show 6+i=(5+i)+1 by omega,eM,List.getElem?_cons_succ,List.getElem?_append_right (by simp),List.getElem?_append_left (by simp;omega)];simp[h]
theorem N6(h:i<5):(eM n D M P)[11+i]?=some (P i):=by
 rw[show 11+i=(10+i)+1 by omega,eM,List.getElem?_cons_succ,List.getElem?_append_right (by simp;omega),List.getElem?_append_right (by simp;omega)];simp only[bX,oD];rw[show 10+i-5-5=i by omega];simp[h]
end
def k8{α:Type}(f:Nat→α)(i:Nat)(v:α):Nat→α:=λj=>if j=i then v else f j
theorem jh{α:Type}(f:Nat→α)(i:Nat)(v:α):k8 f i v i=v:=if_pos rfl
theorem mZ{α:Type}(f:Nat→α){i j:Nat}(v:α)(h:j≠i):k8 f i v j=f j:=if_neg h
theorem AR{α:Type}(f:Nat→α){i k:Nat}(h:i<k)(v:α):((List.range k).map f).set i v=(List.range k).map (k8 f i v):=by
 refine List.ext_getElem? λj=>?_
 by_cases hj:j=i
 · subst hj
   rw[List.getElem?_set_self (by simpa using h)];simp[h,jh]
 · rw[List.getElem?_set_ne (λe=>hj e.symm)]
   by_cases hk:j<k
   · simp[hk,mZ f v hj]
   · simp[hk]
section
variable (n:Nat) (D M P:Nat→Value) {i:Nat} (v:Value)
theorem Kz(h:i<5):(eM n D M P).set (1+i) v=eM n (k8 D i v) M P:=by
 rw[mp,eM,bP,qp _ _ (by simpa using h),AR D h];rfl
theorem vI(h:i<5):(eM n D M P).set (6+i) v=eM n D (k8 M i v) P:=by
 rw[show 6+i=(5+i)+1 by omega,eM,bP,gx _ _ (by simp),qp _ _ (by simp;omega)];simp only[bX,oD];rw[show 5+i-5=i by omega,AR M h];rfl
theorem F0(h:i<5):(eM n D M P).set (11+i) v=eM n D M (k8 P i v):=by
 rw[show 11+i=(10+i)+1 by omega,eM,bP,gx _ _ (by simp;omega),gx _ _ (by simp;omega)];simp only[bX,oD];rw[show 10+i-5-5=i by omega,AR P h];rfl
end
abbrev M1(c i:Nat):Value:= .agg #[.pointer (some ⟨c,0,none⟩), .int .i64 ((i:Nat):Int)]
end Leg
namespace Go.Proofs.YtjblgopghhgflaaGreat
open Go Leg Codec Api Dsk Wal
section
variable {CT NT BT U c n d i:Nat} {D M P:Nat→Value} {W:List (List (List UInt8))} {recs:List (List UInt8)} {l:List SaidT} {H:List HP} {h:Hl}
end
end Go.Proofs.YtjblgopghhgflaaGreat
end

section
namespace Api
open Go Leg Codec Dsk Wal
structure MS(δ:Type) where
 id:Int
 view:ViewT
 own:RowT
 mirror:MirT
 acc:AccT
 round:Int
 vote:Option VoteT
 book:BookT
 busy:Bool
 kept:Int
 waits:Int
 ops:Int
 replies:List ReplyT
 told:Vector Int 5
 last:Vector RowT 5
 e:δ
 o:List SaidT
structure Adr where
 lg:Nat
 vo:Value
 rs:Value
structure Dk(δ:Type) where
 pt:δ→List UInt8→δ×Int
 dn:δ→Bool
 ok:δ→Prop
 sure: ∀(e:δ) (bs:List UInt8),ok e→bs.length≤3000→ok (pt e bs).1
variable {δ:Type}
abbrev MS.rep(s:MS δ)(a:Adr):RepT:=⟨s.id, .pointer (some ⟨a.lg,0,none⟩),s.view,s.own,s.mirror,s.acc,s.round,a.vo,s.book,s.busy,s.kept,s.waits,s.ops,a.rs,s.told,s.last⟩
def MS.setView(s:MS δ)(v:ViewT):MS δ:= {s with view:=v}
def MS.setOwn(s:MS δ)(v:RowT):MS δ:= {s with own:=v}
def MS.setAcc(s:MS δ)(v:AccT):MS δ:= {s with acc:=v}
def MS.setRound(s:MS δ)(v:Int):MS δ:= {s with round:=v}
def MS.setBusy(s:MS δ)(v:Bool):MS δ:= {s with busy:=v}
def MS.setKept(s:MS δ)(v:Int):MS δ:= {s with kept:=v}
def MS.setWaits(s:MS δ)(v:Int):MS δ:= {s with waits:=v}
def MS.setOps(s:MS δ)(v:Int):MS δ:= {s with ops:=v}
def MS.setTold(s:MS δ)(v:Vector Int 5):MS δ:= {s with told:=v}
def MS.setLast(s:MS δ)(v:Vector RowT 5):MS δ:= {s with last:=v}
def Adr.nil:Adr:=⟨0, .pointer none, .slice none 0 0⟩
def de(w:Int):Int:=IntKind.i64.wrap (1*2^min w.toNat IntKind.i64.bits)
def Cu(a b:BallotT):Bool:=if a.round≠b.round then decide (a.round<b.round)else decide (a.who<b.who)
def zP(a:AccT)(ep:Int)(b:BallotT):Bool:=decide (ep≠a.epoch)||(decide (b.round<1)||Cu b a.vow)
def bS(a:AccT)(ep:Int)(b:BallotT):AccT×Bool:=if zP a ep b then(a,false)else({a with vow:=b},true)
def gH(a:AccT)(ep:Int)(b:BallotT)(c:ChangeT):AccT×Bool:=if zP a ep b then(a,false)else({a with vow:=b,had:=b,change:=c},true)
def li(bits:Int)(k:Nat):List Int:=((List.range k).filter λi:Nat=>Hw bits ((i:Nat):Int)).map λi:Nat=>((i:Nat):Int)
def D4(bits:Int):List Int:=li bits 5
def Lq(part all:Int):Bool:=decide (2* (((D4 (tl .i64 part all)).length:Nat):Int)>(((D4 all).length:Nat):Int))
def gN(v:ViewT)(bits:Int):Bool:=Lq bits v.members
def kd(v:ViewT)(b:BallotT)(c:ChangeT):VoteT:= {VoteT.zero with view:=v,ballot:=b,change:=c}
def nQ(v:VoteT)(who:Int)(b:BallotT):Bool:=decide (b.flat=v.ballot.flat)&&iZ v.view who
def wg(v:VoteT)(who:Int)(had:BallotT)(c:ChangeT):VoteT:=
 if decide (0<had.round)&&Cu v.best had then {v with vowed:=iS .i64 v.vowed (de who),best:=had,change:=c}else {v with vowed:=iS .i64 v.vowed (de who)}
def eW(v:VoteT)(who:Int)(b had:BallotT)(c:ChangeT):VoteT×Bool:=
 if v.putting|| !nQ v who b then(v,false)else({wg v who had c with putting:=gN v.view (iS .i64 v.vowed (de who))},gN v.view (iS .i64 v.vowed (de who)))
def gC(v:VoteT)(who:Int)(b:BallotT):VoteT×Bool:=
 if !v.putting|| !nQ v who b then(v,false)else({v with took:=iS .i64 v.took (de who)},gN v.view (iS .i64 v.took (de who)))
def mD(x:RowT)(who v:Int)(l:Vector CellT 4):RowT:=if h:cN who=true then {x with heir:=x.heir.set who.toNat v (eR h),left:=x.left.set who.toNat l (eR h)}else x
def rC(x:RowT)(who:Int):Vector CellT 4:=if h:cN who=true then x.left[who.toNat]'(eR h)else RowT.zero.cells
def mI(who:Int)(dead:RowT)(x:RowT)(i:Nat):RowT:=if((i:Nat):Int)≠who∧0<fN dead ((i:Nat):Int)∧fN x ((i:Nat):Int)=0 then mD x ((i:Nat):Int) (fN dead ((i:Nat):Int)) (rC dead ((i:Nat):Int))else x
def nI(x:RowT)(who:Int)(dead:RowT)(k:Nat):RowT:=(List.range k).foldl (mI who dead) (mD x who (fY (dead.version+1)) dead.cells)
def dp(x:RowT)(who:Int)(dead:RowT):RowT×Int:=
 if !cN who then(.zero,5)else if 0<fN x who then(.zero,8)else({nI x who dead 5 with version:=fY ((nI x who dead 5).version+1)},0)
def pN(s:MS δ)(who:Int):Int:=if h:cN who=true then s.told[who.toNat]'(eR h)else 0
def kT(s:MS δ)(who:Int):RowT:=if h:cN who=true then s.last[who.toNat]'(eR h)else .zero
def yg{α:Type}(v:Vector α 5)(w:Int)(x:α):Vector α 5:=if h:cN w=true then v.set w.toNat x (eR h)else v
def lX(s:MS δ)(who:Int)(y:RowT):MS δ:= {s with last:=if pN s who=0∨(kT s who).version<y.version then yg s.last who y else s.last}
def sE(s:MS δ)(from' who:Int)(y:RowT):MS δ:= {lX s who y with told:=yg s.told who (iS .i64 (pN s who) (de from'))}
def wh(s:MS δ)(who w:Int):Bool:=decide ((pN s who).fdiv (2^min w.toNat IntKind.i64.bits)%2=1)
def CV(s:MS δ)(i:Nat):Bool:=decide (jQ s.view ((i:Nat):Int)=some s.id)&&decide (fN s.own ((i:Nat):Int)≤0)
def ig(s:MS δ)(k:Nat):List Int:=((List.range k).filter (CV s)).map λi:Nat=>((i:Nat):Int)
def bE(s:MS δ):List Int:=ig s 5
def vC(s:MS δ):Bool:=(bE s).all λi=>(hO i).all λw=>wh s i w
def oZ(s:MS δ)(l:List Int):RowT:=l.foldl (λx i=>if 0<fN x i then x else(dp x i (kT s i)).1) s.own
def jB(v:ViewT):MsgT:= {MsgT.zero with kind:=7,view:=v}
def nE(i:Int)(v:ViewT):MsgT:= {MsgT.zero with kind:=8,whose:=i,view:=v}
def fz(ep:Int)(b:BallotT):MsgT:= {MsgT.zero with kind:=3,epoch:=ep,ballot:=b}
def kc(ep:Int)(b had:BallotT)(c:ChangeT):MsgT:= {MsgT.zero with kind:=4,epoch:=ep,ballot:=b,had:=had,change:=c}
def iR(ep:Int)(b:BallotT)(c:ChangeT):MsgT:= {MsgT.zero with kind:=5,epoch:=ep,ballot:=b,change:=c}
def jl(ep:Int)(b:BallotT):MsgT:= {MsgT.zero with kind:=6,epoch:=ep,ballot:=b}
def gT(ep:Int)(b:BallotT):RecT:= {RecT.zero with kind:=3,epoch:=ep,ballot:=b}
def lA(ep:Int)(b:BallotT)(c:ChangeT):RecT:= {RecT.zero with kind:=4,epoch:=ep,ballot:=b,change:=c}
def du(s:MS δ)(n:Int):MS δ:= {s with round:=n}
def ld(s:MS δ)(v:VoteT):MS δ:= {s with vote:=some v}
def vl(s:MS δ)(a:AccT):MS δ:= {s with acc:=a}
variable (K:Dk δ)
def gW(s:MS δ)(l:List SaidT):MS δ:= {s with o:=if K.dn s.e then s.o else s.o++l}
def B4(s:MS δ)(to':Int)(m:MsgT):MS δ:=gW K s [⟨to',m⟩]
theorem pZ(s:MS δ):gW K s []=s:=by
 unfold gW;rw[aP,ite_self]
theorem H6(s:MS δ)(a b:List SaidT):gW K (gW K s a) b=gW K s (a++b):=by
 unfold gW
 by_cases h:K.dn s.e=true<;>simp[h]
def mw(f:MS δ→MS δ)(s:MS δ)(to':Int)(m:MsgT):MS δ:=if to'=s.id then f s else B4 K s to' m
def dC(s:MS δ)(r:RecT):MS δ:= {s with e:=(K.pt s.e (fO r)).1}
def sS(s:MS δ)(r:RecT):Int:=(K.pt s.e (fO r)).2
def dM(s:MS δ)(op err val:Int):MS δ:= {s with replies:=s.replies++[⟨op,err,val⟩]}
def fl(s:MS δ):MS δ:=gW K s (n9 (s.rep .nil))
def nu(id:Int)(m:MsgT)(p:Nat→Bool)(k:Nat):List SaidT:=((List.range k).filter λi:Nat=> !decide (((i:Nat):Int)=id)&&p i).map λi:Nat=>⟨((i:Nat):Int),m⟩
theorem iM(id:Int)(m:MsgT)(p:Nat→Bool)(k:Nat):nu id m p (k+1)=nu id m p k++(if((k:Nat):Int)≠id∧p k=true then [⟨((k:Nat):Int),m⟩]else []):=by
 unfold nu;rw[c9,List.filter_append,da]
 by_cases h:((k:Nat):Int)=id<;>by_cases h2:p k=true<;>simp[h,h2]
def lq(s:MS δ)(y:RowT):MS δ:=gW K s (nu s.id (qB s.id y) (λ_=>true) 5)
def mT(s:MS δ)(v:ViewT):MS δ:=gW K s (nu s.id (jB v) (λ_=>true) 5)
def s6(s:MS δ)(x:RowT)(op:Int):MS δ:= {s with own:=x,busy:=true,kept:=0,waits:=op}
def e6(s:MS δ)(x:RowT)(op:Int):MS δ×Int:=if sS K s (iQ x)≠0 then(dC K s (iQ x),sS K s (iQ x))else(fl K (s6 (dC K s (iQ x)) x op),0)
def lZ(s:MS δ):MS δ:=if s.busy||decide ((bE s).length=0)then s else if vC s then(e6 K s (oZ s (bE s)) 0).1 else s
def gF(s:MS δ):MS δ:= {s with busy:=false,book:=(fc s.book s.id s.own).1}
def lG(s:MS δ):MS δ:= {s with replies:=if 0<s.waits then s.replies++[⟨s.waits,0,0⟩]else s.replies,waits:=if 0<s.waits then 0 else s.waits}
theorem yS{s:MS δ}(h:0<s.waits):lG s= {dM s s.waits 0 0 with waits:=0}:=by unfold lG;rw[if_pos h,if_pos h];rfl
theorem yT{s:MS δ}(h: ¬0<s.waits):lG s=s:=by unfold lG;rw[if_neg h,if_neg h]
def kV(s:MS δ):MS δ:=lZ K (lq K (lG (gF s)) s.own)
def lx(s:MS δ)(from' ver:Int):Bool:=s.busy&&(decide (ver=s.own.version)&&decide (from'∈hO s.id))
def xr(s:MS δ):Bool:=(hO s.id).all λw=> !Bh s.kept w
def iG(s:MS δ)(from':Int):MS δ:= {s with kept:=iS .i64 s.kept (de from')}
def dw(s:MS δ)(from':Int)(m:MsgT):MS δ:=if lx s from' m.version then(if xr (iG s from')then kV K (iG s from')else iG s from')else s
def Di(s:MS δ)(w:Int)(y:RowT):MS δ:= {s with book:=(fc s.book w y).1}
def iu(s:MS δ)(w:Int)(y:RowT):MS δ:= {s with mirror:=(kR s.mirror w y).1}
def ia(s:MS δ)(from':Int)(m:MsgT):MS δ:=
 if m.whose≠from'∨fp s.mirror m.whose=true then s
 else if lS s.mirror m.whose m.row then(if sS K s (iw m.whose m.row)≠0 then dC K s (iw m.whose m.row)else B4 K (iu (dC K s (iw m.whose m.row)) m.whose m.row) from' (oY (cQ (iu (dC K s (iw m.whose m.row)) m.whose m.row).mirror m.whose).version))
 else B4 K s from' (oY (cQ s.mirror m.whose).version)
def eQ(s:MS δ)(from':Int)(m:MsgT):MS δ:=lZ K (if from'∈hO m.whose then sE s from' m.whose m.row else s)
def jT(s:MS δ)(w:Int):MS δ:= {s with mirror:=lU s.mirror w}
def e9(s:MS δ)(from' w:Int):MS δ:=
 let back:=λs:MS δ=>mw K (λs=>eQ K s s.id (fR w (cQ s.mirror w))) s from' (fR w (cQ s.mirror w))
 if jQ s.view w≠some from' then s
 else if fp s.mirror w then back s
 else if sS K s (gM w)≠0 then dC K s (gM w)else back (jT (dC K s (gM w)) w)
def gG(s:MS δ)(i w:Int):MS δ:=if wh s i w then s else mw K (λs=>e9 K s s.id i) s w (nE i s.view)
def ng(s:MS δ)(i:Int):MS δ:=gG K (gG K s i ((i+1)%5)) i ((i+2)%5)
def fV(l:List Int)(s:MS δ):MS δ:=l.foldl (ng K) s
def qg(s:MS δ):MS δ:=fV K (bE s) s
def mj(s:MS δ)(v:ViewT):MS δ:= {s with view:=v,acc:= {AccT.zero with epoch:=v.epoch},vote:=none,round:=0}
def qF(s:MS δ)(v:ViewT):Bool:=decide (s.view.epoch<v.epoch)&&decide (sS K s (kF v)=0)
def gX(s:MS δ)(v:ViewT):MS δ:=if v.epoch≤s.view.epoch then s else if sS K s (kF v)≠0 then dC K s (kF v)else qg K (mj (dC K s (kF v)) v)
def ko(s:MS δ)(from':Int)(m:MsgT):MS δ:=e9 K (gX K s m.view) from' m.whose
def ke(s:MS δ)(c:ChangeT):MS δ:=if(dY s.view c).2≠0 then s else if qF K s (dY s.view c).1 then mT K (gX K s (dY s.view c).1) (dY s.view c).1 else gX K s (dY s.view c).1
def eI(f:MS δ→MS δ)(s:MS δ)(from':Int)(m:MsgT):MS δ:=
 if m.epoch<s.view.epoch then(if m.kind=3∨m.kind=5 then B4 K s from' (jB s.view)else s)
 else if s.view.epoch<m.epoch∨iZ s.view s.id=false then s
 else f (du s (max s.round m.ballot.round))
def kG(from':Int)(m:MsgT)(s:MS δ):MS δ:=match s.vote with
 |none=>s
 |some vt=>if(gC vt from' m.ballot).2 then ke K (ld s (gC vt from' m.ballot).1) vt.change else(ld s (gC vt from' m.ballot).1)
def pR(s:MS δ)(from':Int)(m:MsgT):MS δ:=eI K (kG K from' m) s from' m
def lL(from':Int)(m:MsgT)(s:MS δ):MS δ:=mw K (λs=>pR K s s.id (jl m.epoch m.ballot)) s from' (jl m.epoch m.ballot)
def nF(from':Int)(m:MsgT)(s:MS δ):MS δ:=
 if(dY s.view m.change).2≠0 then s else if(gH s.acc m.epoch m.ballot m.change).2=false then s
 else if(gH s.acc m.epoch m.ballot m.change).1.flat≠s.acc.flat then(if sS K s (lA m.epoch m.ballot m.change)≠0 then dC K s (lA m.epoch m.ballot m.change)else lL K from' m (vl (dC K s (lA m.epoch m.ballot m.change)) (gH s.acc m.epoch m.ballot m.change).1))
 else lL K from' m s
def rf(s:MS δ)(from':Int)(m:MsgT):MS δ:=eI K (nF K from' m) s from' m
def js(s:MS δ)(m:MsgT):MS δ:=gW K s (nu s.id m (λi=>iZ s.view ((i:Nat):Int)) 5)
def iD(f:MS δ→MsgT→MS δ)(s:MS δ)(m:MsgT):MS δ:=if iZ s.view s.id then f (js K s m) m else js K s m
def jY(s:MS δ)(vt:VoteT):MS δ:=iD K (λs m=>rf K s s.id m) s (iR s.view.epoch vt.ballot vt.change)
def oJ(from':Int)(m:MsgT)(s:MS δ):MS δ:=match s.vote with
 |none=>s
 |some vt=>if(eW vt from' m.ballot m.had m.change).2 then jY K (ld s (eW vt from' m.ballot m.had m.change).1) (eW vt from' m.ballot m.had m.change).1 else(ld s (eW vt from' m.ballot m.had m.change).1)
def pS(s:MS δ)(from':Int)(m:MsgT):MS δ:=eI K (oJ K from' m) s from' m
def l3(from':Int)(m:MsgT)(a:AccT)(s:MS δ):MS δ:=mw K (λs=>pS K s s.id (kc m.epoch m.ballot a.had a.change)) s from' (kc m.epoch m.ballot a.had a.change)
def oz(from':Int)(m:MsgT)(s:MS δ):MS δ:=
 if(bS s.acc m.epoch m.ballot).2=false then s
 else if(bS s.acc m.epoch m.ballot).1.vow.flat≠s.acc.vow.flat then(if sS K s (gT m.epoch m.ballot)≠0 then dC K s (gT m.epoch m.ballot)else l3 K from' m (bS s.acc m.epoch m.ballot).1 (vl (dC K s (gT m.epoch m.ballot)) (bS s.acc m.epoch m.ballot).1))
 else l3 K from' m (bS s.acc m.epoch m.ballot).1 s
def ri(s:MS δ)(from':Int)(m:MsgT):MS δ:=eI K (oz K from' m) s from' m
def lO(s:MS δ)(vt:VoteT):MS δ:=iD K (λs m=>ri K s s.id m) s (fz s.view.epoch vt.ballot)
def nG(s:MS δ)(vt:VoteT):MS δ:=if vt.putting then jY K s vt else lO K s vt
def eP(s:MS δ):BallotT:=⟨fY (s.round+1),s.id⟩
def pd(s:MS δ)(c:ChangeT):MS δ:=ld (du (vl (dC K s (gT s.view.epoch (eP s))) (bS s.acc s.view.epoch (eP s)).1) (eP s).round) (kd s.view (eP s) c)
def cD(s:MS δ)(c:ChangeT):MS δ×Int:=
 if(bS s.acc s.view.epoch (eP s)).2=false then(s,6)else if sS K s (gT s.view.epoch (eP s))≠0 then(dC K s (gT s.view.epoch (eP s)),sS K s (gT s.view.epoch (eP s)))else(pd K s c,0)
def fT(s:MS δ)(c:ChangeT):Int:=if(dY s.view c).2=0∧s.vote.isSome=true then 8 else(dY s.view c).2
def dS(s:MS δ)(op:Int)(c:ChangeT):MS δ×Int:=
 if fT s c≠0 then(dM s op (fT s c) 0,fT s c)
 else if(cD K s c).2≠0 then(dM (cD K s c).1 op (cD K s c).2 0,(cD K s c).2)
 else(nG K (dM (cD K s c).1 op 0 0) (kd s.view (eP s) c),0)
def dd(s:MS δ)(o:OpT):RowT×Int×Int:=jN (s.rep .nil) o
def bM(s:MS δ):MS δ:= {s with ops:=fY (s.ops+1)}
def nA(s:MS δ)(o:OpT):MS δ×Int:=
 if(dd s o).2.2≠0∨o.kind=3 then(dM s s.ops (dd s o).2.2 (dd s o).2.1,(dd s o).2.2)
 else if(e6 K s (dd s o).1 s.ops).2≠0 then(dM (e6 K s (dd s o).1 s.ops).1 s.ops (e6 K s (dd s o).1 s.ops).2 0,(e6 K s (dd s o).1 s.ops).2)
 else((e6 K s (dd s o).1 s.ops).1,0)
def bW(s:MS δ)(o:OpT):MS δ×Int:=if iZ s.view s.id&&decide (o.kind=4)then dS K (bM s) (bM s).ops o.change else nA K (bM s) o
def gj(s:MS δ)(from':Int)(m:MsgT):MS δ:=
 if m.kind=0 then ia K s from' m else if m.kind=1 then dw K s from' m else if m.kind=2 then Di s m.whose m.row
 else if m.kind=7 then gX K s m.view else if m.kind=8 then ko K s from' m else if m.kind=9 then eQ K s from' m
 else if m.kind=3 then ri K s from' m else if m.kind=4 then pS K s from' m else if m.kind=5 then rf K s from' m else if m.kind=6 then pR K s from' m else s
def bQ(s:MS δ):MS δ:=qg K (lZ K (if s.busy=true then fl K s else s))
def ca(s:MS δ):MS δ:=if 1<s.view.epoch then mT K s s.view else s
def fZ(s:MS δ):MS δ:=if 0< (cr s.book s.id).version then lq K s (cr s.book s.id)else s
def pO(s:MS δ):MS δ:=match s.vote with
 |none=>s
 |some vt=>if(dY s.view vt.change).2=0 then(if(cD K s vt.change).2=0 then nG K (cD K s vt.change).1 (kd s.view (eP s) vt.change)else(cD K s vt.change).1)else s
def im(s:MS δ):MS δ:=if iZ (ca K (bQ K s)).view (ca K (bQ K s)).id then pO K (fZ K (ca K (bQ K s)))else ca K (bQ K s)
def iX(s:MS δ)(m:RecT):MS δ:=
 if m.kind=0 then {s with own:=m.row,busy:=true,kept:=0}
 else if m.kind=1 then iu s m.whose m.row
 else if m.kind=2 then jT s m.whose
 else if m.kind=3 then {s with acc:= {s.acc with vow:=m.ballot},round:=max s.round m.ballot.round}
 else if m.kind=4 then {s with acc:= {s.acc with vow:=m.ballot,had:=m.ballot,change:=m.change},round:=max s.round m.ballot.round}
 else if m.kind=5 then mj s m.view
 else s
def kM:List (List UInt8)→MS δ→Option (MS δ)
 | [],s=>some s
 |b::bs,s=>if(jH b).2≠0 then none else kM bs (iX s (jH b).1)
def Fl(id:Int)(e:δ):MS δ:=⟨id, .zero, .zero, .zero, .zero,0,none, .zero,false,0,0,0,[], #v[0,0,0,0,0], #v[RowT.zero,RowT.zero,RowT.zero,RowT.zero,RowT.zero],e,[]⟩
def AK(id:Int)(e:δ):MS δ:=mj (Fl id e) firstV
theorem GB{ls:List (List UInt8)}{k:Nat}{s:MS δ}(h:k<ls.length)(g:(jH ls[k]).2≠0):kM (ls.drop k) s=none:=by
 rw[dA h,kM,if_pos g]
theorem Ic{ls:List (List UInt8)}{k:Nat}{s:MS δ}(h:k<ls.length)(g: ¬(jH ls[k]).2≠0):kM (ls.drop k) s=kM (ls.drop (k+1)) (iX s (jH ls[k]).1):=by
 rw[dA h,kM,if_neg g]
end Api
end

section
namespace Api
open Go Leg Codec Dsk Wal
theorem xB(m:RecT):(fO m).length≤3000:=by
 have h1:=iy m.row;have h2:=aV m.ballot.flat;have h4:=aV m.change.flat;have h5:=aV m.view.flat;have h6:=aV [m.kind,m.whose];have h8:=aV [m.kind,m.epoch];have h9:=aV [m.kind];simp only[BallotT.flat,ChangeT.flat,ViewT.flat,ay,aD,aB]at h2 h4 h5 h6 h8 h9;unfold fO
 repeat' split
 all_goals first|omega| (simp only[ah,BallotT.flat,ChangeT.flat,ViewT.flat,aD];omega)
abbrev ve(n:Int):Prop:= -9223372036854775808≤n∧n<9223372036854775808
theorem pI{n:Int}(h:ve n):(Lit.int .i64 n).wf=true:=by
 have m1:IntKind.i64.min= -9223372036854775808:=by decide
 have m2:IntKind.i64.max=9223372036854775807:=by decide
 simp only[Lit.wf,m1,m2,aw,decide_eq_true_eq];omega
theorem nC(n:Int):ve (fY n):=by
 unfold fY ve;simp only[IntKind.wrap,IntKind.bits,IntKind.signed];simp;omega
structure CW(c:CellT):Prop where
 inn:ve c.inn
 out:ve c.out
 given: ∀(j:Nat) (h:j<5),ve c.given[j]
class OkRow(y:RowT):Prop where
 version:ve y.version
 cells: ∀(k:Nat) (h:k<4),CW y.cells[k]
 heir: ∀(i:Nat) (h:i<5),ve y.heir[i]
 left: ∀(i k:Nat) (h:i<5) (g:k<4),CW y.left[i][k]
theorem sw{α:Type}{n:Nat}{v:Vector α n}{x:α}(h:x∈v.toList): ∃(j:Nat) (h:j<n),x=v[j]:=by
 obtain⟨j,hj,rfl⟩:=fq h;rw[aB]at hj;exact⟨j,hj,by simp⟩
theorem FO{α:Type}{n:Nat}(v:Vector α n)(j:Nat)(h:j<n):v[j]∈v.toList:=by simp
theorem mS{m:Nat}{v:Vector CellT m}(h: ∀(k:Nat) (h:k<m),CW v[k]):WF (bL v.toList):=λn hn=>by
 obtain⟨c,hc,hn⟩:=j9.1 hn;obtain⟨k,hk,rfl⟩:=sw hc;simp only[CellT.flat,co]at hn;rcases hn with rfl|rfl|hn
 · exact pI (h k hk).inn
 · exact pI (h k hk).out
 · obtain⟨j,hj,rfl⟩:=sw hn
   exact pI ((h k hk).given j hj)
theorem OkRow.wf{x:RowT}(h:OkRow x):WF x.flat:=λn hn=>by
 simp only[RowT.flat,co,cg]at hn;rcases hn with rfl|hn|hn|hn
 · exact pI h.version
 · exact mS h.cells n hn
 · obtain⟨j,hj,rfl⟩:=sw hn
   exact pI (h.heir j hj)
 · obtain⟨v,hv,hn⟩:=j9.1 hn
   obtain⟨j,hj,rfl⟩:=sw hv;exact mS (λk hk=>h.left j k hj hk) n hn
abbrev Jq:= @OkRow.wf
theorem CW.of{m:Nat}{v:Vector CellT m}(h:WF (bL v.toList))(k:Nat)(hk:k<m):CW v[k]:=by
 have q: ∀n∈v[k].flat,ve n:=λn hn=>vX (h n (j9.2 ⟨_,FO v k hk,hn⟩))
 exact⟨q _ (by simp[CellT.flat]),q _ (by simp[CellT.flat]),λj hj=>q _ (by simp[CellT.flat])⟩
theorem OkRow.of{x:RowT}(h:WF x.flat):OkRow x:=
 ⟨vX (h _ (by simp[RowT.flat])),CW.of λn hn=>h n (by simp[RowT.flat,hn]),λi hi=>vX (h _ (by simp[RowT.flat])),
  λi k hi hk=>CW.of (λn hn=>h n (by simp only[RowT.flat,co,cg,j9];exact .inr (.inr (.inr ⟨_,FO x.left i hi,hn⟩)))) k hk⟩
class OkVw(v:ViewT):Prop where
 rng:Rng v
 wf:WF v.flat
class OkVt(v:VoteT):Prop where
 view:OkVw v.view
 ballot:WF v.ballot.flat
 change:WF v.change.flat
 best:WF v.best.flat
class OkMg(m:MsgT):Prop where
 row:OkRow m.row
 view:OkVw m.view
 ballot:WF m.ballot.flat
 had:WF m.had.flat
 change:WF m.change.flat
variable {δ:Type}
class OkR(K:outParam (Dk δ))(s:MS δ):Prop where
 e:K.ok s.e
 id:cN s.id=true
 view:OkVw s.view
 own:OkRow s.own
 mir: ∀(i:Nat) (h:i<5),OkRow s.mirror.rows[i]
 book: ∀(i:Nat) (h:i<5),OkRow s.book.rows[i]
 last: ∀(i:Nat) (h:i<5),OkRow s.last[i]
 acc:WF s.acc.flat
 vote: ∀vt,s.vote=some vt→OkVt vt
variable {K:Dk δ}
instance OkRow.zero:OkRow RowT.zero:=OkRow.of tame_rzero.wf
theorem CW.zero:CW .zero:=⟨by decide,by decide,λj hj=>by
 match j,hj with
 |0,_|1,_|2,_|3,_|4,_=>exact⟨(by decide:(-9223372036854775808:Int)≤0),(by decide:(0:Int)<9223372036854775808)⟩⟩
instance {s:MS δ}[h:OkR K s]:OkRow s.own:=h.own
instance {s:MS δ}[h:OkR K s]:OkVw s.view:=h.view
instance {m:MsgT}[h:OkMg m]:OkRow m.row:=h.row
instance {m:MsgT}[h:OkMg m]:OkVw m.view:=h.view
theorem kD{α:Type}{n:Nat}{p:α→Prop}{v:Vector α n}{i:Nat}(hi:i<n){x:α}(h: ∀(j:Nat) (hj:j<n),p v[j])(hx:p x)(j:Nat)(hj:j<n):p (v.set i x hi)[j]:=by
 rw[Vector.getElem_set];split
 · exact hx
 · exact h j hj
instance {s:MS δ}[h:OkR K s](w:Int):OkRow (cQ s.mirror w):=by unfold cQ;split;exact h.mir _ _;exact .zero
instance {s:MS δ}[h:OkR K s](w:Int):OkRow (cr s.book w):=by unfold cr;split;exact h.book _ _;exact .zero
instance {s:MS δ}[h:OkR K s](w:Int):OkRow (kT s w):=by unfold kT;split;exact h.last _ _;exact .zero
theorem uo{x:RowT}[h:OkRow x](key:Int):CW (dD x key):=by unfold dD;split;exact h.cells _ _;exact .zero
theorem Hg{x:RowT}[h:OkRow x](i:Int):ve (fN x i):=by unfold fN;split;exact h.heir _ _;exact⟨by decide,by decide⟩
theorem G5{x:RowT}[h:OkRow x](i:Int)(k:Nat)(hk:k<4):CW (rC x i)[k]:=by unfold rC;split;exact h.left _ _ _ _;exact OkRow.zero.cells k hk
theorem w6{x:RowT}[h:OkRow x]{key n counts:Int}{c:CellT}(hc:CW c):OkRow (kP x key n counts c).1:=by
 unfold kP;split
 · exact .zero
 · refine⟨nC _,λk hk=>?_,λi hi=>?_,λi k hi hk=>?_⟩
   · show CW (iY x key c).cells[k]
     unfold iY;split
     · exact kD (p:=CW) (xk (by assumption)) h.cells hc k hk
     · exact h.cells k hk
   · show ve (iY x key c).heir[i]
     unfold iY;split<;>exact h.heir i hi
   · show CW (iY x key c).left[i][k]
     unfold iY;split<;>exact h.left i k hi hk
instance {x:RowT}[OkRow x](key n:Int):OkRow (oN x key n).1:=by
 unfold oN;split
 · have:=uo (x:=x) key
   exact w6 ⟨nC _,this.out,this.given⟩
 · exact .zero
instance {x:RowT}[OkRow x](key n:Int):OkRow (oO x key n).1:=by
 unfold oO;split
 · have:=uo (x:=x) key
   exact w6 ⟨this.inn,nC _,this.given⟩
 · exact .zero
instance {x:RowT}[OkRow x](key n to':Int):OkRow (lC x key n to').1:=by
 unfold lC;split
 · have:=uo (x:=x) key
   refine w6 ?_;unfold xq;split
   · exact⟨this.inn,this.out,kD (p:=ve) (eR (by assumption)) this.given (nC _)⟩
   · exact this
 · exact .zero
theorem wy{x:RowT}(h:OkRow x){w v:Int}{l:Vector CellT 4}(hv:ve v)(hl: ∀(k:Nat) (h:k<4),CW l[k]):OkRow (mD x w v l):=by
 unfold mD;split
 · exact⟨h.version,h.cells,kD (p:=ve) (eR (by assumption)) h.heir hv,λi k hi hk=>kD (p:=λu:Vector CellT 4=>CW u[k]) (eR (by assumption)) (λj hj=>h.left j k hj hk) (hl k hk) i hi⟩
 · exact h
instance {x d:RowT}[h:OkRow x][g:OkRow d](who:Int):OkRow (dp x who d).1:=by
 have q: ∀k,OkRow (nI x who d k):=λk=>by
  induction k with
  |zero=>exact wy h (nC _) g.cells
  |succ k ih=>
   have e:nI x who d (k+1)=mI who d (nI x who d k) k:=by unfold nI;rw[c9,ei];rfl
   rw[e];unfold mI;split
   · exact wy ih (Hg _) (G5 _)
   · exact ih
 unfold dp;split
 · exact .zero
 split
 · exact .zero
 · exact⟨nC _,(q 5).cells,(q 5).heir,(q 5).left⟩
instance {s:MS δ}[h:OkR K s](l:List Int):OkRow (oZ s l):=by
 have: ∀(l:List Int) (x:RowT),OkRow x→OkRow (l.foldl (λx i=>if 0<fN x i then x else(dp x i (kT s i)).1) x):=λl=>by
  induction l with
  |nil=>exact λx hx=>hx
  |cons i l ih=>exact λx hx=>ih _ (by dsimp only;split;exact hx;exact inferInstance)
 exact this l _ h.own
instance {s:MS δ}[h:OkR K s](o:OpT):OkRow (dd s o).1:=by
 have:OkRow (gi (s.rep .nil) o).1:=by
  unfold gi
  repeat' split
  all_goals first|exact .zero|exact inferInstanceAs (OkRow (oN s.own _ _).1)|exact inferInstanceAs (OkRow (oO s.own _ _).1)|exact inferInstanceAs (OkRow (lC s.own _ _ _).1)
 unfold dd jN
 repeat' split
 all_goals first|exact .zero|exact this
theorem xo{l:List Int}{k:Nat}(h:k<l.length):(ints l)[k]?=some (.int .i64 (l.getD k 0)):=by simp[ints,h,List.getD_eq_getElem?_getD]
theorem o7(s:MS δ)(k:Nat):ig s (k+1)=ig s k++(if CV s k then [((k:Nat):Int)]else []):=by
 unfold ig;rw[c9,List.filter_append,da]
 by_cases h:CV s k=true<;>simp[h]
theorem wx(b:Int)(k:Nat):li b (k+1)=li b k++(if Hw b ((k:Nat):Int)then [((k:Nat):Int)]else []):=by
 unfold li;rw[c9,List.filter_append,da]
 by_cases h:Hw b ((k:Nat):Int)=true<;>simp[h]
theorem tN(b:Int)(k:Nat):(li b k).length≤k:=by
 unfold li;rw[bX];exact yO (Bl _ _) (by simp)
theorem ui{v:ViewT}{w i:Int}(h:(jQ v w).isSome=true)(g:(jQ v w).getD 0=i):jQ v w=some i:=by
 cases q:jQ v w with
 |none=>rw[q]at h;cases h
 |some z=>rw[q]at g;rw[←g];rfl
theorem AY{s:MS δ}{k:Nat}(h:CV s k=true):jQ s.view ((k:Nat):Int)=some s.id∧fN s.own ((k:Nat):Int)≤0:=by
 unfold CV at h;rw[aw,decide_eq_true_iff,decide_eq_true_iff]at h;exact h
theorem Mu{s:MS δ}{k:Nat}(h1:(jQ s.view ((k:Nat):Int)).isSome=true)(h2:(jQ s.view ((k:Nat):Int)).getD 0=s.id)(h3:fN s.own ((k:Nat):Int)≤0):CV s k=true:=by
 unfold CV;rw[aw,decide_eq_true_iff,decide_eq_true_iff];refine⟨?_,h3⟩;cases q:jQ s.view ((k:Nat):Int)with
 |none=>rw[q]at h1;cases h1
 |some z=>rw[q]at h2;rw[←h2];rfl
theorem Hp(s:MS δ)(k:Nat):(ig s k).length≤k:=by
 unfold ig;rw[bX];exact yO (Bl _ _) (by simp)
theorem Mq{x d:RowT}{who:Int}(h:cN who=true)(h2: ¬0<fN x who):(dp x who d).2=0:=by
 rw[dp,h,if_neg (by decide),if_neg h2]
theorem Da(K:Dk δ){l:List Int}{q:Nat}(h:q<l.length)(s:MS δ):fV K (l.take (q+1)) s=ng K (fV K (l.take q) s) (l.getD q 0):=by
 unfold fV;rw[cv h,ei,List.getD_eq_getElem?_getD,List.getElem?_eq_getElem h];rfl
theorem uW(s:MS δ){l:List Int}{q:Nat}(h:q<l.length):oZ s (l.take (q+1))=(if 0<fN (oZ s (l.take q)) (l.getD q 0)then oZ s (l.take q)else(dp (oZ s (l.take q)) (l.getD q 0) (kT s (l.getD q 0))).1):=by
 unfold oZ;rw[cv h,ei,List.getD_eq_getElem?_getD,List.getElem?_eq_getElem h];rfl
theorem xE{s:MS δ}{i:Int}(h:i∈bE s):cN i=true∧jQ s.view i=some s.id∧fN s.own i≤0:=by
 unfold bE ig at h;rw[eG]at h;obtain⟨k,hk,rfl⟩:=h;rw[List.mem_filter,fe]at hk;have h2:=hk.2;unfold CV at h2;rw[aw,decide_eq_true_iff,decide_eq_true_iff]at h2;exact⟨decide_eq_true ⟨by omega,by omega⟩,h2.1,h2.2⟩
theorem gJ(x:RowT){k:Nat}(h:k<5):fN x ((k:Nat):Int)=x.heir[k]:=by
 rw[fN,dif_pos (show cN ((k:Nat):Int)=true from decide_eq_true ⟨by omega,by omega⟩)];rfl
theorem HM(w:Int):(hO w).length≤1000000:=by unfold hO;split<;>simp
theorem FP{k:Nat}(h:k<5):cN ((k:Nat):Int)=true:=decide_eq_true ⟨by omega,by omega⟩
theorem G6(x:RowT){k:Nat}(h:k<5):rC x ((k:Nat):Int)=x.left[k]:=by
 rw[rC,dif_pos (FP h)];rfl
theorem D5(x:RowT){k:Nat}(h:k<5)(v:Int)(l:Vector CellT 4):mD x ((k:Nat):Int) v l= {x with heir:=x.heir.set k v h,left:=x.left.set k l h}:=by
 rw[mD,dif_pos (FP h)];rfl
theorem nf(x:RowT)(who:Int)(dead:RowT)(k:Nat):nI x who dead (k+1)=mI who dead (nI x who dead k) k:=by unfold nI;rw[c9,ei];rfl
instance OkVw.first:OkVw firstV:=⟨Rng.first,λn hn=>by
 have h:n∈[(1:Int),7,0,0,0,0,0]:=hn;simp only[co,List.not_mem_nil,or_false,or_self]at h
 rcases h with rfl|rfl|rfl<;>decide⟩
instance OkVw.zero:OkVw ViewT.zero:=⟨Rng.zero,λn hn=>by
 have h:n∈[(0:Int),0,0,0,0,0,0]:=hn;simp only[co,List.not_mem_nil,or_false,or_self]at h
 rcases h with rfl;decide⟩
theorem DM{v:ViewT}(h1:ve v.epoch)(h2:ve v.members)(hr:Rng v):WF v.flat:=λn hn=>by
 simp only[ViewT.flat,co]at hn;rcases hn with rfl|rfl|hn
 · exact pI h1
 · exact pI h2
 · obtain⟨j,hj,rfl⟩:=sw hn
   have:=hr j hj;exact pI ⟨by omega,by omega⟩
theorem sa(n:Int):ve (IntKind.i64.wrap n):=nC n
instance OkVw.next{v:ViewT}[h:OkVw v](c:ChangeT):OkVw (dY v c).1:=by
 unfold dY;split
 · exact .zero
 split
 · split
   · exact .zero
   · exact⟨h.rng,DM (sa _) (sa _) h.rng⟩
 split
 · split
   · exact .zero
   · have hr:Rng ⟨IntKind.i64.wrap (v.epoch+1),mQ .i64 v.members (2^c.who.toNat),rE v c⟩:=λi hi=>by
      show 0≤(rE v c)[i]∧(rE v c)[i]≤5;unfold rE;rw[Vector.getElem_mapIdx];unfold ua;split
      · have hm:cN c.heir=true:=by
         rename_i q _ _ _ _;simp only[MC,Bool.not_eq_true',not_or,Bool.not_eq_false]at q;exact q.2
        have hm2:0≤c.heir∧c.heir<5:=of_decide_eq_true hm;omega
      · exact h.rng i hi
     exact⟨hr,DM (sa _) (sa _) hr⟩
 · exact .zero
theorem Jg{b:BallotT}(h1:ve b.round)(h2:ve b.who):WF b.flat:=λn hn=>by
 have h:n∈[b.round,b.who]:=hn;simp only[co,List.not_mem_nil,or_false]at h;rcases h with rfl|rfl
 · exact pI h1
 · exact pI h2
theorem g8:WF BallotT.zero.flat:=Jg (by decide) (by decide)
theorem pv:WF ChangeT.zero.flat:=λn hn=>by
 have h:n∈[(0:Int),0,0]:=hn;simp only[co,List.not_mem_nil,or_false,or_self]at h;rcases h with rfl;decide
instance OkMg.sealed(w:Int)(y:RowT)[h:OkRow y]:OkMg (fR w y):=⟨h, .zero,g8,g8,pv⟩
instance OkMg.sealW(w:Int)(v:ViewT)[h:OkVw v]:OkMg (nE w v):=⟨.zero,h,g8,g8,pv⟩
section
variable {s:MS δ}
instance [h:OkR K s](l:List SaidT):OkR K (gW K s l):=⟨h.e,h.id,h.view,h.own,h.mir,h.book,h.last,h.acc,h.vote⟩
instance {p:Prop}[Decidable p]{a b:MS δ}[ha:OkR K a][hb:OkR K b]:OkR K (if p then a else b):=by split;exact ha;exact hb
instance {f:MS δ→MS δ}{t:Int}{m:MsgT}[h:OkR K s][hf:OkR K (f s)]:OkR K (mw K f s t m):=by
 unfold mw;split
 · exact hf
 · exact⟨h.e,h.id,h.view,h.own,h.mir,h.book,h.last,h.acc,h.vote⟩
instance [h:OkR K s](t:Int)(m:MsgT):OkR K (B4 K s t m):=inferInstanceAs (OkR K (gW K s _))
instance [h:OkR K s](r:RecT):OkR K (dC K s r):=⟨K.sure _ _ h.e (xB r),h.id,h.view,h.own,h.mir,h.book,h.last,h.acc,h.vote⟩
instance [h:OkR K s](a b c:Int):OkR K (dM s a b c):=⟨h.e,h.id,h.view,h.own,h.mir,h.book,h.last,h.acc,h.vote⟩
instance [h:OkR K s]:OkR K (bM s):=⟨h.e,h.id,h.view,h.own,h.mir,h.book,h.last,h.acc,h.vote⟩
instance [h:OkR K s](f:Int):OkR K (iG s f):=⟨h.e,h.id,h.view,h.own,h.mir,h.book,h.last,h.acc,h.vote⟩
instance [h:OkR K s]:OkR K (lG s):=⟨h.e,h.id,h.view,h.own,h.mir,h.book,h.last,h.acc,h.vote⟩
theorem zd{b:BookT}{w:Int}{x:RowT}(h: ∀(i:Nat) (h:i<5),OkRow b.rows[i])(hx:OkRow x): ∀(i:Nat) (h:i<5),OkRow (fc b w x).1.rows[i]:=by
 unfold fc;split
 · unfold wS
   split
   · exact kD (p:=OkRow) (eR (by assumption)) h hx
   · exact h
 · exact h
instance OkR.merge[h:OkR K s](w:Int)(x:RowT)[hx:OkRow x]:OkR K (Di s w x):=⟨h.e,h.id,h.view,h.own,h.mir,zd h.book hx,h.last,h.acc,h.vote⟩
instance [h:OkR K s]:OkR K (gF s):=⟨h.e,h.id,h.view,h.own,h.mir,zd h.book h.own,h.last,h.acc,h.vote⟩
theorem Er{b:MirT}{w:Int}{x:RowT}(h: ∀(i:Nat) (h:i<5),OkRow b.rows[i])(hx:OkRow x): ∀(i:Nat) (h:i<5),OkRow (kR b w x).1.rows[i]:=by
 unfold kR;split
 · unfold xa
   split
   · exact kD (p:=OkRow) (eR (by assumption)) h hx
   · exact h
 · exact h
instance [h:OkR K s](w:Int)(x:RowT)[hx:OkRow x]:OkR K (iu s w x):=⟨h.e,h.id,h.view,h.own,Er h.mir hx,h.book,h.last,h.acc,h.vote⟩
instance [h:OkR K s](w:Int):OkR K (jT s w):=⟨h.e,h.id,h.view,h.own,λi hi=>by
 show OkRow (lU s.mirror w).rows[i]
 unfold lU;split<;>exact h.mir i hi,h.book,h.last,h.acc,h.vote⟩
instance [h:OkR K s](x:RowT)[hx:OkRow x](op:Int):OkR K (s6 s x op):=⟨h.e,h.id,h.view,hx,h.mir,h.book,h.last,h.acc,h.vote⟩
instance [OkR K s]:OkR K (fl K s):=inferInstanceAs (OkR K (gW K s _))
instance [OkR K s](y:RowT):OkR K (lq K s y):=inferInstanceAs (OkR K (gW K s _))
instance [OkR K s](v:ViewT):OkR K (mT K s v):=inferInstanceAs (OkR K (gW K s _))
instance [OkR K s](m:MsgT):OkR K (js K s m):=inferInstanceAs (OkR K (gW K s _))
instance [OkR K s](x:RowT)[OkRow x](op:Int):OkR K (e6 K s x op).1:=by unfold e6;split<;>exact inferInstance
instance [h:OkR K s]:OkR K (lZ K s):=by
 unfold lZ;split
 · exact h
 split
 · exact inferInstance
 · exact h
instance [OkR K s]:OkR K (kV K s):=by unfold kV;exact inferInstance
instance [h:OkR K s](f:Int)(m:MsgT):OkR K (dw K s f m):=by
 unfold dw
 repeat' split
 all_goals exact inferInstance
instance [h:OkR K s](f:Int)(m:MsgT)[OkMg m]:OkR K (ia K s f m):=by
 unfold ia
 repeat' split
 all_goals exact inferInstance
theorem JT{v:Vector RowT 5}{w:Int}{x:RowT}(h: ∀(i:Nat) (h:i<5),OkRow v[i])(hx:OkRow x): ∀(i:Nat) (h:i<5),OkRow (yg v w x)[i]:=by
 unfold yg;split
 · exact kD (p:=OkRow) (eR (by assumption)) h hx
 · exact h
instance [h:OkR K s](w:Int)(x:RowT)[hx:OkRow x]:OkR K (lX s w x):=⟨h.e,h.id,h.view,h.own,h.mir,h.book,by
 show ∀(i:Nat) (h:i<5),OkRow (if pN s w=0∨(kT s w).version<x.version then yg s.last w x else s.last)[i];split
 · exact JT h.last hx
 · exact h.last,h.acc,h.vote⟩
instance [OkR K s](f w:Int)(y:RowT)[OkRow y]:OkR K (sE s f w y):=by
 have h:OkR K (lX s w y):=inferInstance;exact⟨h.e,h.id,h.view,h.own,h.mir,h.book,h.last,h.acc,h.vote⟩
instance [h:OkR K s](f:Int)(m:MsgT)[OkMg m]:OkR K (eQ K s f m):=by unfold eQ;split<;>exact inferInstance
theorem wB[OkR K s]{f:MS δ→MS δ}(hf:OkR K (f s))(t:Int)(m:MsgT):OkR K (mw K f s t m):=by unfold mw;split;exact hf;exact inferInstance
instance [h:OkR K s](f w:Int):OkR K (e9 K s f w):=by
 unfold e9
 repeat' split
 · exact h
 · exact wB inferInstance _ _
 · exact inferInstance
 · exact wB inferInstance _ _
instance [h:OkR K s](i w:Int):OkR K (gG K s i w):=by
 unfold gG;split
 · exact h
 · exact wB inferInstance _ _
instance [OkR K s](i:Int):OkR K (ng K s i):=by unfold ng;exact inferInstance
theorem um: ∀(l:List Int) (s:MS δ),OkR K s→OkR K (fV K l s)
 | [],_,h=>h
 |i::l,s,h=>um l (ng K s i) inferInstance
instance [h:OkR K s]:OkR K (qg K s):=um _ _ h
theorem Ob(n:Int)(h:ve n):WF ({AccT.zero with epoch:=n}:AccT).flat:=λk hk=>by
 have q:k∈[n,0,0,0,0,0,0,0]:=hk;simp only[co,List.not_mem_nil,or_false,or_self]at q;rcases q with rfl|rfl
 · exact pI h
 · decide
instance [h:OkR K s](v:ViewT)[hv:OkVw v]:OkR K (mj s v):=⟨h.e,h.id,hv,h.own,h.mir,h.book,h.last,Ob _ (vX (hv.wf _ (by simp[ViewT.flat]))),λ_ e=>nomatch e⟩
instance [h:OkR K s](v:ViewT)[OkVw v]:OkR K (gX K s v):=by
 unfold gX
 repeat' split
 all_goals exact inferInstance
instance [h:OkR K s](f:Int)(m:MsgT)[OkMg m]:OkR K (ko K s f m):=by unfold ko;exact inferInstance
instance [h:OkR K s](c:ChangeT):OkR K (ke K s c):=by
 unfold ke
 repeat' split
 all_goals exact inferInstance
class OkAc(a:AccT):Prop where wf:WF a.flat
instance [h:OkR K s]:OkAc s.acc:=⟨h.acc⟩
theorem nZ{a b:List Int}(h:WF (a++b)):WF a:=λn hn=>h n (List.mem_append_left _ hn)
theorem tD{a b:List Int}(h:WF (a++b)):WF b:=λn hn=>h n (List.mem_append_right _ hn)
theorem OkAc.vow{a:AccT}(h:OkAc a):WF a.vow.flat:=tD (nZ (nZ h.wf))
theorem OkAc.had{a:AccT}(h:OkAc a):WF a.had.flat:=tD (nZ h.wf)
theorem OkAc.change{a:AccT}(h:OkAc a):WF a.change.flat:=tD h.wf
theorem OkAc.epoch{a:AccT}(h:OkAc a):WF [a.epoch]:=nZ (nZ (nZ h.wf))
theorem OkAc.ask{a:AccT}(h:OkAc a){ep:Int}{b:BallotT}(hb:WF b.flat):OkAc (bS a ep b).1:=by
 unfold bS;split
 · exact h
 · exact⟨mi (mi (mi h.epoch hb) h.had) h.change⟩
theorem OkAc.put{a:AccT}(h:OkAc a){ep:Int}{b:BallotT}{c:ChangeT}(hb:WF b.flat)(hc:WF c.flat):OkAc (gH a ep b c).1:=by
 unfold gH;split
 · exact h
 · exact⟨mi (mi (mi h.epoch hb) hb) hc⟩
instance [h:OkR K s](n:Int):OkR K (du s n):=⟨h.e,h.id,h.view,h.own,h.mir,h.book,h.last,h.acc,h.vote⟩
instance [h:OkR K s](v:VoteT)[hv:OkVt v]:OkR K (ld s v):=⟨h.e,h.id,h.view,h.own,h.mir,h.book,h.last,h.acc,λ_ e=>cI e▸hv⟩
instance [h:OkR K s](a:AccT)[ha:OkAc a]:OkR K (vl s a):=⟨h.e,h.id,h.view,h.own,h.mir,h.book,h.last,ha.wf,h.vote⟩
instance {v:VoteT}[h:OkVt v]{m:MsgT}[hm:OkMg m](w:Int):OkVt (eW v w m.ballot m.had m.change).1:=by
 unfold eW;split
 · exact h
 · unfold wg
   split
   · exact⟨h.view,h.ballot,hm.change,hm.had⟩
   · exact⟨h.view,h.ballot,h.change,h.best⟩
instance {v:VoteT}[h:OkVt v](w:Int)(b:BallotT):OkVt (gC v w b).1:=by
 unfold gC;split
 · exact h
 · exact⟨h.view,h.ballot,h.change,h.best⟩
instance {m:MsgT}[hm:OkMg m][h:OkR K s](ep:Int):OkAc (bS s.acc ep m.ballot).1:=OkAc.ask ⟨h.acc⟩ hm.ballot
instance {m:MsgT}[hm:OkMg m][h:OkR K s](ep:Int):OkAc (gH s.acc ep m.ballot m.change).1:=OkAc.put ⟨h.acc⟩ hm.ballot hm.change
instance tookF_ok[h:OkR K s](f:Int)(m:MsgT):OkR K (kG K f m s):=by
 unfold kG;split
 · exact h
 · rename_i vt hv
   have:=h.vote vt hv;split<;>exact inferInstance
theorem su[h:OkR K s]{f:MS δ→MS δ}(hf: ∀s:MS δ,OkR K s→OkR K (f s))(w:Int)(m:MsgT):OkR K (eI K f s w m):=by
 unfold eI
 repeat' split
 · exact inferInstance
 · exact h
 · exact h
 · exact hf _ inferInstance
instance [OkR K s](w:Int)(m:MsgT):OkR K (pR K s w m):=su (λ_ _=>inferInstance) w m
instance [h:OkR K s](w:Int)(m:MsgT):OkR K (lL K w m s):=by unfold lL;exact inferInstance
instance [h:OkR K s](w:Int)(m:MsgT)[OkMg m]:OkR K (nF K w m s):=by
 unfold nF
 repeat' split
 all_goals exact inferInstance
instance [OkR K s](w:Int)(m:MsgT)[OkMg m]:OkR K (rf K s w m):=su (λ_ _=>inferInstance) w m
instance OkMg.putM(ep:Int){vt:VoteT}[h:OkVt vt]:OkMg (iR ep vt.ballot vt.change):=⟨.zero, .zero,h.ballot,g8,h.change⟩
instance OkMg.askM(ep:Int){vt:VoteT}[h:OkVt vt]:OkMg (fz ep vt.ballot):=⟨.zero, .zero,h.ballot,g8,pv⟩
instance OkMg.takenM(ep:Int){m:MsgT}[h:OkMg m]:OkMg (jl ep m.ballot):=⟨.zero, .zero,h.ballot,g8,pv⟩
theorem OkMg.promM(ep:Int){m:MsgT}[h:OkMg m]{a:AccT}(ha:OkAc a):OkMg (kc ep m.ballot a.had a.change):=⟨.zero, .zero,h.ballot,ha.had,ha.change⟩
theorem uM[h:OkR K s]{f:MS δ→MsgT→MS δ}{m:MsgT}(hf: ∀s:MS δ,OkR K s→OkR K (f s m)):OkR K (iD K f s m):=by
 unfold iD;split
 · exact hf _ inferInstance
 · exact inferInstance
instance [h:OkR K s](vt:VoteT)[OkVt vt]:OkR K (jY K s vt):=uM λ_ _=>inferInstance
instance [h:OkR K s](f:Int)(m:MsgT)[OkMg m]:OkR K (oJ K f m s):=by
 unfold oJ;split
 · exact h
 · rename_i vt hv
   have:=h.vote vt hv;split<;>exact inferInstance
instance [OkR K s](w:Int)(m:MsgT)[OkMg m]:OkR K (pS K s w m):=su (λ_ _=>inferInstance) w m
theorem xT[h:OkR K s](w:Int)(m:MsgT)[OkMg m]{a:AccT}(ha:OkAc a):OkR K (l3 K w m a s):=by
 have:=OkMg.promM m.epoch (m:=m) ha;unfold l3;exact inferInstance
instance [h:OkR K s](w:Int)(m:MsgT)[OkMg m]:OkR K (oz K w m s):=by
 unfold oz
 repeat' split
 · exact h
 · exact inferInstance
 · exact xT w m inferInstance
 · exact xT w m inferInstance
instance [OkR K s](w:Int)(m:MsgT)[OkMg m]:OkR K (ri K s w m):=su (λ_ _=>inferInstance) w m
instance [h:OkR K s](vt:VoteT)[OkVt vt]:OkR K (lO K s vt):=uM λ_ _=>inferInstance
instance [h:OkR K s](vt:VoteT)[OkVt vt]:OkR K (nG K s vt):=by unfold nG;split<;>exact inferInstance
theorem DK{v:VoteT}{w:Int}{b had:BallotT}{c:ChangeT}(h:(eW v w b had c).2=true):(eW v w b had c).1.putting=true:=by
 unfold eW at h ⊢;split
 · rename_i q;rw[if_pos q]at h;cases h
 · rename_i q;rw[if_neg q]at h;exact h
theorem HU(s:MS δ)[h:OkR K s]:WF (eP s).flat:=Jg (nC _) (by have:0≤s.id∧s.id<5:=of_decide_eq_true h.id;exact⟨by show _≤s.id;omega,by show s.id<_;omega⟩)
class OkCh(c:ChangeT):Prop where wf:WF c.flat
instance newVote_ok[h:OkR K s](c:ChangeT)[hc:OkCh c]:OkVt (kd s.view (eP s) c):=⟨h.view,HU s,hc.wf,g8⟩
instance {vt:VoteT}[h:OkVt vt]:OkCh vt.change:=⟨h.change⟩
instance [h:OkR K s](c:ChangeT)[OkCh c]:OkR K (pd K s c):=by
 have:OkAc (bS s.acc s.view.epoch (eP s)).1:=OkAc.ask ⟨h.acc⟩ (HU s);unfold pd;exact inferInstance
instance [h:OkR K s](c:ChangeT)[OkCh c]:OkR K (cD K s c).1:=by
 unfold cD
 repeat' split
 all_goals exact inferInstance
theorem rO{c:ChangeT}(h:(cD K s c).2=0):(cD K s c).1.vote=some (kd s.view (eP s) c):=by
 unfold cD at h ⊢
 by_cases h1:(bS s.acc s.view.epoch (eP s)).2=false
 · rw[if_pos h1]at h;cases h
 by_cases h2:sS K s (gT s.view.epoch (eP s))≠0
 · rw[if_neg h1,if_pos h2]at h;exact absurd h h2
 · rw[if_neg h1,if_neg h2];rfl
instance [h:OkR K s](op:Int)(c:ChangeT)[OkCh c]:OkR K (dS K s op c).1:=by
 unfold dS
 repeat' split
 all_goals exact inferInstance
instance [h:OkR K s](o:OpT):OkR K (nA K s o).1:=by
 unfold nA
 repeat' split
 all_goals exact inferInstance
instance [h:OkR K s](o:OpT)[OkCh o.change]:OkR K (bW K s o).1:=by unfold bW;split<;>exact inferInstance
instance [h:OkR K s]:OkR K (bQ K s):=by unfold bQ;exact inferInstance
instance [h:OkR K s]:OkR K (ca K s):=by unfold ca;exact inferInstance
instance [h:OkR K s]:OkR K (fZ K s):=by unfold fZ;exact inferInstance
instance [h:OkR K s]:OkR K (pO K s):=by
 unfold pO;split
 · exact h
 · rename_i vt hv
   have:=h.vote vt hv
   repeat' split
   all_goals exact inferInstance
instance [h:OkR K s]:OkR K (im K s):=by unfold im;exact inferInstance
instance [h:OkR K s](f:Int)(m:MsgT)[OkMg m]:OkR K (gj K s f m):=by
 unfold gj
 repeat' split
 all_goals exact inferInstance
theorem iO(s:MS δ)(c:ChangeT):(cD K s c).1.replies=s.replies:=by
 unfold cD;split
 · rfl
 · split<;>rfl
theorem jG(s:MS δ)(x:RowT)(op:Int):(e6 K s x op).1.replies=s.replies:=by unfold e6;split<;>rfl
end
end Api
end

section
namespace Leg
open Go Codec Api Go.Conc
section
variable {P:Program} {w0:World} {F:Hl} {n:Nat} {ops:Array Oper} {Q:QQ} {is:List Nat} {D:List Deferred} {L:List (Nat×Value)} {H:List HP} {i d:Nat} {o:Oper}
theorem TX.recv1{x:Operand}{t e:TypeId}{dir:ChanDir}{c cap s r:Nat}{z v:Value}{vs vs0:List Value}(k:Nat)(ho:ops[i]?=some o)(hw:Want n D ops o L)(hop:o.op= .recv t x false)(hd:o.dst=some d)(hn:Nat.blt d n=true)(ht:P.underlying t=some (.chan dir e))(hz:(P.info? e).map (·.zero)=some (some z))
 (hx:cK L x=some (.chan (some c))) (hk:Nat.blt k H.length=true) (hH:H.getD k (λ_=>True)=eg c cap vs0 s r) (he:vs0=v::vs)
 (h:TX P w0 F n ops Q is D ((d,v)::L) (H.set k (eg c cap vs s (r+1)))):TX P w0 F n ops Q (i::is) D L H:=λa w f sm m=>by
 subst he;have hc:=m.chan k hk hH
 have hr:(execOp a.eval o).run P w= .ok (.comm #[{chan:= .chan (some c),send:=none,zero:=z}] true (.recv false)) w:=by
  simp[execOp,hop,f.eval hx,Sem.run_bind,run_underlying ht,og hz]
 refine MG (v:=v) (w2:=w.setChan c cap vs.toArray false s (r+1) false) ho (hw a f) hr (λfr cs es hs=>?_) ?_
 · have:=step_lone_recv_buf false hs hc (by simp)
   rw[this];simp[got]
 · rw[hd]
   exact h _ _ (f.put (lb hn) _) (sm.setChan ..) (m.setChan k hk hH)
theorem TX.send1{x y:Operand}{c cap s r:Nat}{v:Value}{vs:List Value}(k:Nat)(ho:ops[i]?=some o)(hw:Want n D ops o L)(hop:o.op= .send x y)(hd:o.dst=none)
 (hx:cK L x=some (.chan (some c))) (hy:cK L y=some v) (hk:Nat.blt k H.length=true) (hH:H.getD k (λ_=>True)=eg c cap vs s r) (hroom:vs.length<cap)
 (h:TX P w0 F n ops Q is D L (H.set k (eg c cap (vs++[v]) (s+1) r))):TX P w0 F n ops Q (i::is) D L H:=λa w f sm m=>by
 have hc:=m.chan k hk hH
 have hr:(execOp a.eval o).run P w= .ok (.comm #[{chan:= .chan (some c),send:=some v,zero:= .tuple #[]}] true .send) w:=by
  simp[execOp,hop,f.eval hx,f.eval hy,Sem.run]
 refine MG (v:=undef) (w2:=w.setChan c cap (vs++[v]).toArray false (s+1) r false) ho (hw a f) hr (λfr cs es hs=>?_) ?_
 · have:=step_lone_send_room hs hc (by simpa using hroom)
   rw[this];simp
 · rw[hd]
   exact h _ _ f (sm.setChan ..) (m.setChan k hk hH)
end
def CC(k:Nat)(u:Value):Value:=if k=0 then .slice none 0 0 else u
theorem Ib{α:Type}{l:List α}{k:Nat}(h:k<l.length):l.drop k++l.take k=l[k]::(l.drop (k+1)++l.take k):=by rw[dA h];rfl
theorem Ca{α:Type}{l:List α}{k:Nat}(h:k<l.length):(l.drop (k+1)++l.take k)++[l[k]]=l.drop (k+1)++l.take (k+1):=by rw[aR,cv h]
end Leg
namespace Leg
open Go
theorem IW{us:List Value}{k:Nat}(h:k=0)(hk:k<us.length):us[k]=CC (k+1) (us.getD 0 undef):=by
 subst h;unfold CC;rw[if_neg (by omega)];simp[List.getD_eq_getElem?_getD,hk]
theorem IU{u:Value}{k:Nat}(h: ¬k=0):CC k u=CC (k+1) u:=by unfold CC;rw[if_neg h,if_neg (by omega)]
theorem IV{u:Value}{k:Nat}(h: ¬k=0):CC k u=u:=if_neg h
end Leg
namespace Leg
open Go
def sB{α:Type}:List α→List α
 | []=>[]
 |a::l=>l++[a]
def HT{α:Type}(l:List α):Bool:=decide (l.length≠0∧l.length≠8)
def Dx{α:Type}[Inhabited α](l:List α):List α:=if l.length≠0∧l.length≠8 then l++[l.getD 0 default]else l
end Leg
namespace Leg
open Go
def lp{α:Type}:Nat→List α→List α
 |0,l=>l
 |n+1,l=>sB (lp n l)
theorem Gf{α:Type}(l:List α):(sB l).length=l.length:=by cases l<;>simp[sB]
theorem jj{α:Type}: ∀(n:Nat) (l:List α),(lp n l).length=l.length
 |0,_=>rfl
 |n+1,l=>by rw[lp,Gf,jj n l]
theorem Ge{α:Type}{l:List α}{x:α}:x∈sB l↔x∈l:=by
 cases l with
 |nil=>rfl
 |cons a l=>simp[sB,or_comm]
theorem m3{α:Type}{x:α}: ∀(n:Nat) (l:List α),x∈lp n l↔x∈l
 |0,_=>Iff.rfl
 |n+1,l=>by rw[lp,Ge,m3 n l]
theorem yW{α β:Type}(f:α→β)(l:List α):sB (l.map f)=(sB l).map f:=by cases l<;>simp[sB]
theorem JN{α β:Type}[Inhabited α][Inhabited β](f:α→β)(l:List α):Dx (l.map f)=(Dx l).map f:=by
 unfold Dx;rw[bX];split
 · rename_i h
   cases l with
   |nil=>exact absurd rfl h.1
   |cons a l=>simp
 · rfl
theorem JO{α β:Type}(f:α→β)(l:List α):HT (l.map f)=HT l:=by unfold HT;rw[bX]
end Leg
end

section
namespace Api
open Go Leg Codec Dsk Wal
instance :Inhabited MsgT:=⟨.zero⟩
structure LD where
 cnt:Nat
 used:Int
 D:DS
structure DkOk(D:DS):Prop where
 ok:D.Ok
 inn:Wal.DS.In D
 ws:D.ws.length≤2048
 up:D.dn=false→D.ws=[]
def Wrote(D:DS)(n:Nat)(r:Int×DS):Prop:=r.2.Ok∧Wal.DS.In r.2∧((D.dn=true∧r.2=D)∨(D.dn=false∧r.2.ws.length≤D.ws.length+n∧(r.1=0→r.2.dn=false)∧(r.1≠0→r.2.dn=true)))
theorem Wrote.none{D:DS}(h:D.Ok)(hi:Wal.DS.In D):Wrote D 0 (0,D):=⟨h,hi,by
 cases hd:D.dn
 · exact .inr ⟨rfl,aH _,λ_=>by first|exact hd|rfl,λq=>absurd rfl q⟩
 · exact .inl ⟨rfl,rfl⟩⟩
theorem Wrote.more{D:DS}{n m:Nat}{r:Int×DS}(h:Wrote D n r)(hm:n≤m):Wrote D m r:=⟨h.1,h.2.1,h.2.2.imp id λ⟨a,b,c⟩=>⟨a,by omega,c⟩⟩
theorem Wrote.one{D:DS}(h:D.Ok)(hi:Wal.DS.In D){at':Int}{bs:List UInt8}(h1:0≤at'∧at'<2048)(h2:bs.length≤64):Wrote D 1 (D.write at' bs):=by
 cases hd:D.dn
 · by_cases hc:D.ar=true∧D.lf=0
   · rw[q6 h1 h2 hc]
     exact⟨⟨h.s,h.ws,h.lf⟩,hi, .inr ⟨hd,Nat.le_succ _,(λq=>absurd q (by show ¬(4:Int)=0;decide)),λ_=>rfl⟩⟩
   · have h4:D.ar=false∨0<D.lf:=by
      have:=h.lf;cases q:D.ar
      · exact .inl rfl
      · right
        have:D.lf≠0:=λe=>hc ⟨q,e⟩
        omega
     rw[ln h1 h2 hd h4];exact⟨vF h h2 h4,vG hi h1, .inr ⟨hd,by simp[tT],λ_=>rfl,λq=>absurd rfl q⟩⟩
 · have e:D.write at' bs=(4,D):=by
    rw[DS.write,if_neg (by omega),if_pos (.inl hd)];cases D;simp only at hd;rw[hd]
   rw[e];exact⟨h,hi, .inl ⟨hd,rfl⟩⟩
theorem Wrote.then{D:DS}{n m:Nat}{r q:Int×DS}(h:Wrote D n r)(h0:r.1=0)(g:Wrote r.2 m q):Wrote D (n+m) q:=by
 obtain⟨_,_,h⟩:=h;refine⟨g.1,g.2.1,?_⟩;rcases h with⟨hd,e⟩| ⟨hd,hl,hz,_⟩
 · rw[e]at g
   rcases g.2.2 with⟨_,e2⟩| ⟨hd2,_⟩
   · exact .inl ⟨hd,e2⟩
   · rw[hd]at hd2;cases hd2
 · rcases g.2.2 with⟨hd2,_⟩| ⟨_,hl2,h3⟩
   · rw[hz h0]at hd2;cases hd2
   · exact .inr ⟨hd,by omega,h3⟩
theorem Wrote.writes: ∀(ss:List hJ) (at':Int) (D:DS),D.Ok→Wal.DS.In D→0≤at'→at'+ss.length≤2048→(∀s∈ss,s.length=64)→Wrote D ss.length (fH ss at' D)
 | [],_,D,h,hi,_,_,_=>Wrote.none h hi
 |s::ss,at',D,h,hi,h0,h1,hs=>by
  simp only[ay]at h1;have h2:=hs s (by simp);have o:=Wrote.one h hi (at':=at') (bs:=s) (by omega) (by omega);rw[fH];split
  · rename_i hz
    have:=o.then hz (Wrote.writes ss (at'+1) _ o.1 o.2.1 (by omega) (by omega) λx hx=>hs x (by simp[hx]))
    rwa [mp]at this
  · exact o.more (by simp)
abbrev PO:= @Wrote.writes
theorem Wrote.wipes: ∀(n:Nat) (at':Int) (D:DS),D.Ok→Wal.DS.In D→0≤at'→at'+n≤2048→Wrote D n (gn n at' D)
 |0,_,D,h,hi,_,_=>Wrote.none h hi
 |n+1,at',D,h,hi,h0,h1=>by
  rw[gn];split
  · exact(Wrote.wipes n (at'+1) D h hi (by omega) (by omega)).more (by omega)
  · have o:=Wrote.one h hi (at':=at') (bs:=[]) (by omega) (by simp)
    split
    · rename_i hz
      have:=o.then hz (Wrote.wipes n (at'+1) _ o.1 o.2.1 (by omega) (by omega))
      rwa [mp]at this
    · exact o.more (by omega)
theorem DkOk.wrote{D:DS}(h:DkOk D){n:Nat}{r:Int×DS}(g:Wrote D n r)(hn:n≤2048):(r.1≠0→DkOk r.2)∧DkOk r.2.sync.2:=by
 obtain⟨ho,hi,hr⟩:=g;rcases hr with⟨hd,e⟩| ⟨hd,hl,h0,h1⟩
 · rw[e]
   refine⟨λ_=>h,?_⟩;rw[DS.sync,if_pos hd];exact h
 · rw[h.up hd]at hl
   simp only[aD,bg]at hl;refine⟨λq=>⟨ho,hi,by omega,λz=>by rw[h1 q]at z;cases z⟩,?_⟩
   by_cases q:r.1=0
   · obtain⟨_,s2,_⟩:=lr (h0 q)
     exact⟨On ho,vD hi,by rw[s2];exact aN _,λ_=>s2⟩
   · rw[DS.sync,if_pos (h1 q)]
     exact⟨ho,hi,by show r.2.ws.length≤2048;omega,λz=>by rw[show r.2.dn=true from h1 q]at z;cases z⟩
theorem wH{D:DS}(hI:Wal.DS.In D)(hD:D.Ok): ∀(f:Nat) (cnt used:Int),0≤used→used≤2048→0≤(fJ D.read f cnt used).2∧(fJ D.read f cnt used).2≤2048∧(fJ D.read f cnt used).1.length≤f
 |0,_,_,h0,h1=>⟨h0,h1,aH _⟩
 |f+1,cnt,used,h0,h1=>by
  rw[fJ];split
  · exact⟨h0,h1,aN _⟩
  · rename_i b all h
    have h2:=oM hI hD h0 h;have h3:=(jX (mg hD _) h).1;obtain⟨a,b',c⟩:=wH hI hD f (cnt+1) (used+all) (by omega) h2;exact⟨a,b',by simp only[ay];omega⟩
theorem DkOk.open{D:DS}(h:DkOk D):DkOk (bH D).D∧0≤(bH D).used∧(bH D).used≤2048∧(bH D).recs.length≤2049:=by
 obtain⟨a,b,c⟩:=wH h.inn h.ok ie 0 0 (by omega) (by omega);rw[qa]at c;have w:=h.wrote (Wrote.wipes (2048- (fJ D.read ie 0 0).2).toNat _ D h.ok h.inn a (by omega)) (by omega);unfold bH;simp only;split
 · rename_i q;exact⟨w.1 q,by show(0:Int)≤0;omega,by show(0:Int)≤2048;omega,aN _⟩
 · split
   · exact⟨w.2,by show(0:Int)≤0;omega,by show(0:Int)≤2048;omega,aN _⟩
   · exact⟨w.2,a,b,by rw[←qa]at c;exact c⟩
theorem DkOk.arm{D:DS}(h:DkOk D)(n:Int)(hn:n≤9223372036854775807):DkOk (D.arm n):=⟨⟨h.ok.s,h.ok.ws,by show 0≤max n 0∧max n 0≤9223372036854775807;omega⟩,h.inn,h.ws,h.up⟩
theorem DkOk.crash{D:DS}(h:DkOk D)(mask torn cut:Int):DkOk (D.crash mask torn cut):=by
 have c:=Ou h.ok h.inn mask torn cut;exact⟨c.ok,c.inn,aN _,λ_=>rfl⟩
theorem DkOk.new:DkOk .new:=⟨⟨mR,mR,by simp[DS.new],by simp[DS.new]⟩,⟨KN,KN⟩,aN _,λ_=>rfl⟩
structure LD.Ok(e:LD):Prop where
 dk:DkOk e.D
 used:0≤e.used∧e.used≤2048
 cnt:(e.cnt:Int)≤4100+e.used
def LD.put(e:LD)(bs:List UInt8):LD×Int:=(⟨(la e.D e.cnt e.used bs).cnt,(la e.D e.cnt e.used bs).used,(la e.D e.cnt e.used bs).D⟩,(la e.D e.cnt e.used bs).err)
theorem LD.put_ok(e:LD)(bs:List UInt8)(h:e.Ok)(hb:bs.length≤3000):(e.put bs).1.Ok:=by
 obtain⟨⟨ho,hi,hw,hu⟩,h1,h2⟩:=h;unfold LD.put la;rw[if_neg (by omega)]
 by_cases hf:(aZ bs.length:Int)>2048-e.used
 · rw[if_pos hf];exact⟨⟨ho,hi,hw,hu⟩,h1,h2⟩
 rw[if_neg hf];have hp:0<aZ bs.length:=lP _;have hl:(bh ((e.cnt+1:Nat):Int) bs).length=aZ bs.length:=cx _ _;have w:=DkOk.wrote ⟨ho,hi,hw,hu⟩ (PO (bh ((e.cnt+1:Nat):Int) bs) e.used e.D ho hi h1.1 (by omega) (mE _ _)) (by omega);simp only;split
 · rename_i q;exact⟨w.1 q,h1,h2⟩
 · split
   · exact⟨w.2,h1,h2⟩
   · exact⟨w.2,(by show 0≤e.used+(aZ bs.length:Int)∧e.used+(aZ bs.length:Int)≤2048;omega),by show((e.cnt+1:Nat):Int)≤4100+(e.used+aZ bs.length);omega⟩
def KD:Dk LD:=⟨LD.put,λe=>e.D.dn,LD.Ok,LD.put_ok⟩
structure Slot where
 run:Option (MS LD)
 D:DS
 past:List ReplyT
structure CL where
 ms:List Slot
 W:List (List MsgT)
def Slot.nil:Slot:=⟨none, .new,[]⟩
def CL.at'(a:CL)(i:Nat):Slot:=a.ms.getD i .nil
def Slot.dk(x:Slot):DS:=match x.run with
 |some s=>s.e.D
 |none=>x.D
def Slot.reps(x:Slot):List ReplyT:=x.past++(match x.run with
 |some s=>s.replies
 |none=>[])
def Slot.up(x:Slot):Bool:=match x.run with
 |some s=> !s.e.D.dn
 |none=>false
def CL.set(a:CL)(i:Nat)(x:Slot):CL:= {a with ms:=a.ms.set i x}
def qL(W:List (List MsgT))(f:Nat)(s:SaidT):List (List MsgT):=if dB ((f:Nat):Int) s.to' then W.set (bB ((f:Nat):Int) s.to') (if(W.getD (bB ((f:Nat):Int) s.to') []).length<8 then W.getD (bB ((f:Nat):Int) s.to') []++[s.msg]else W.getD (bB ((f:Nat):Int) s.to') [])else W
def gZ(W:List (List MsgT))(f:Nat)(l:List SaidT):List (List MsgT):=l.foldl (λW s=>qL W f s) W
def MS.hush{δ:Type}(s:MS δ):MS δ:= {s with o:=[]}
def CL.did(a:CL)(i:Nat)(s:MS LD):CL:=⟨a.ms.set i {a.at' i with run:=some s.hush},gZ a.W i s.o⟩
def MS.dsk(s:MS LD)(D:DS):MS LD:= {s with e:= {s.e with D:=D}}
def tk(x:Slot)(n:Int):Slot:=match x.run with
 |some s=> {x with run:=some (s.dsk (s.e.D.arm n))}
 |none=> {x with D:=x.D.arm n}
def nV(x:Slot)(mask torn cut:Int):Slot:=⟨none,x.dk.crash mask torn cut,x.reps⟩
def cw(i:Nat)(D:DS):Option (MS LD)×Int:=
 if(bH D).err≠0 then(none,(bH D).err)
 else match kM (bH D).recs (AK ((i:Nat):Int) (⟨(bH D).recs.length,(bH D).used,(bH D).D⟩:LD))with
  |none=>(none,1)
  |some s=>(some s,0)
def gU(i:Nat)(x:Slot):Slot×Int:=match x.run with
 |some _=>(x,5)
 |none=>({x with run:=(cw i x.D).1,D:=(bH x.D).D},(cw i x.D).2)
def tf(a:CL)(f t:Nat)(m:MsgT):CL×Int:=match(a.at' t).run with
 |none=>(a,0)
 |some s=>if s.e.D.dn then(a,0)else if(gE (cS m)).2=0 then(a.did t (gj KD s ((f:Nat):Int) (gE (cS m)).1),0)else(a,(gE (cS m)).2)
def CL.way(a:CL)(k:Nat)(l:List MsgT):CL:= {a with W:=a.W.set k l}
def oI(a:CL)(o:OpT):CL×Int:=
 if dB o.at' o.to'=false then(a,5)
 else match a.W.getD (bB o.at' o.to') []with
  | []=>(a,10)
  |m::l=>
   if o.kind=7 then(if HT (m::l)then(a.way (bB o.at' o.to') (Dx (m::l)),0)else(a,3))
   else match lp (max o.n 0% ((m::l).length:Int)).toNat (m::l)with
    | []=>(a,0)
    |m::l=>if o.kind=6 then(a.way (bB o.at' o.to') l,0)else tf (a.way (bB o.at' o.to') l) o.at'.toNat o.to'.toNat m
def E3(a:CL)(i:Nat)(o:OpT):CL×Int:=match(a.at' i).run with
 |none=>(a,4)
 |some s=>if s.e.D.dn then(a,4)else(a.did i (bW KD s o).1,(bW KD s o).2)
def DP(a:CL)(i:Nat):CL×Int:=match(a.at' i).run with
 |none=>(a,4)
 |some s=>if s.e.D.dn then(a,4)else(a.did i (im KD s),0)
def Dy(a:CL)(o:OpT):CL×Int:=
 if iF o.at'=false then(a,5)
 else if 0≤o.kind∧o.kind≤4 then E3 a o.at'.toNat o
 else if o.kind=5∨o.kind=6∨o.kind=7 then oI a o
 else if o.kind=8 then DP a o.at'.toNat
 else if o.kind=9 then(a.set o.at'.toNat (tk (a.at' o.at'.toNat) o.n),0)
 else if o.kind=10 then(a.set o.at'.toNat (nV (a.at' o.at'.toNat) o.mask o.torn o.cut),0)
 else if o.kind=11 then(a.set o.at'.toNat (gU o.at'.toNat (a.at' o.at'.toNat)).1,(gU o.at'.toNat (a.at' o.at'.toNat)).2)
 else(a,5)
def oU(i:Nat):Slot:=(gU i .nil).1
def CL.new:CL:=⟨(List.range 5).map oU,List.replicate 25 []⟩
structure Fresh{δ:Type}(i:Int)(e:δ)(s:MS δ):Prop where
 id:s.id=i
 vote:s.vote=none
 replies:s.replies=[]
 e:s.e=e
 o:s.o=[]
 waits:s.waits=0
 ops:s.ops=0
theorem Fresh.rest{δ:Type}{i:Int}{e:δ}{s:MS δ}(h:Fresh i e s)(m:RecT):Fresh i e (iX s m):=by
 obtain⟨h1,h2,h3,h4,h5,h6,h7⟩:=h;unfold iX
 repeat' split
 all_goals exact⟨h1,by first|exact h2|rfl,h3,h4,h5,h6,h7⟩
theorem Fresh.new{δ:Type}(i:Int)(e:δ):Fresh i e (AK i e):=⟨rfl,rfl,rfl,rfl,rfl,rfl,rfl⟩
theorem Fresh.read{δ:Type}{i:Int}{e:δ}: ∀(l:List (List UInt8)) {s s':MS δ},Fresh i e s→kM l s=some s'→Fresh i e s'
 | [],s,s',h,q=>by
  obtain rfl:=cI q;exact h
 |b::l,s,s',h,q=>by
  rw[kM]at q;split at q
  · cases q
  · exact Fresh.read l (h.rest _) q
theorem pV{i:Nat}{D:DS}{s:MS LD}(h:(cw i D).1=some s):(bH D).err=0∧kM (bH D).recs (AK ((i:Nat):Int) (⟨(bH D).recs.length,(bH D).used,(bH D).D⟩:LD))=some s:=by
 unfold cw at h;split at h
 · cases h
 · rename_i h0
   refine⟨Decidable.not_not.1 h0,?_⟩;split at h
   · cases h
   · rename_i h2;rw[h2];exact h
theorem Ac{v:ViewT}{bs r:List UInt8}(h:mY bs=some (v,r)):OkVw v:=by
 obtain⟨⟨h1,h2,_⟩,_⟩:=n7 h;have hr:=sv h;exact⟨hr,DM ⟨by omega,by omega⟩ ⟨by omega,by omega⟩ hr⟩
theorem qJ{b:BallotT}{bs r:List UInt8}(h:kf bs=some (b,r)):WF b.flat:=by
 obtain⟨⟨h1,h2⟩,_⟩:=jz h;exact OkB.wf ⟨h1,h2⟩
theorem E5{c:ChangeT}{bs r:List UInt8}(h:lF bs=some (c,r)):WF c.flat:=by
 obtain⟨⟨h1,h2,h3⟩,_⟩:=nL h;exact OkC.wf ⟨h1,h2,h3⟩
theorem D9{x:RowT}{bs r:List UInt8}(h:vg bs=some (x,r)):OkRow x:=OkRow.of (Ar h)
theorem Mm{m:MsgT}{g:Bool}{bs r:List UInt8}(h:cM bs=some ((m,g),r)):OkMg m:=by
 obtain⟨k,r1,_,h⟩:=bl h
 have fin: ∀{m':MsgT} {g':Bool} {b r:List UInt8},pr (m',g') b=some ((m,g),r)→OkMg m'→OkMg m:=λh q=>by
  obtain⟨e,_⟩:=fL h;injection e with e1 e2
  exact e1▸q
 split at h
 · obtain⟨_,_,_,h⟩:=bl h;obtain⟨x,_,hx,h⟩:=bl h;exact fin h ⟨D9 hx, .zero,g8,g8,pv⟩
 split at h
 · obtain⟨_,_,_,h⟩:=bl h;exact fin h ⟨.zero, .zero,g8,g8,pv⟩
 split at h
 · obtain⟨_,_,_,h⟩:=bl h;obtain⟨b,_,hb,h⟩:=bl h;exact fin h ⟨.zero, .zero,qJ hb,g8,pv⟩
 split at h
 · obtain⟨_,_,_,h⟩:=bl h;obtain⟨b,_,hb,h⟩:=bl h;obtain⟨d,_,hd,h⟩:=bl h;obtain⟨c,_,hc,h⟩:=bl h;exact fin h ⟨.zero, .zero,qJ hb,qJ hd,E5 hc⟩
 split at h
 · obtain⟨_,_,_,h⟩:=bl h;obtain⟨b,_,hb,h⟩:=bl h;obtain⟨c,_,hc,h⟩:=bl h;exact fin h ⟨.zero, .zero,qJ hb,g8,E5 hc⟩
 split at h
 · obtain⟨v,_,hv,h⟩:=bl h;exact fin h ⟨.zero,Ac hv,g8,g8,pv⟩
 split at h
 · obtain⟨_,_,_,h⟩:=bl h;obtain⟨v,_,hv,h⟩:=bl h;exact fin h ⟨.zero,Ac hv,g8,g8,pv⟩
 · exact fin h ⟨.zero, .zero,g8,g8,pv⟩
class OkRd(m:RecT):Prop where
 row:OkRow m.row
 view:OkVw m.view
 ballot:WF m.ballot.flat
 change:WF m.change.flat
theorem L1{m:RecT}{g:Bool}{bs r:List UInt8}(h:dx bs=some ((m,g),r)):OkRd m:=by
 obtain⟨k,r1,_,h⟩:=bl h
 have fin: ∀{m':RecT} {g':Bool} {b r:List UInt8},pr (m',g') b=some ((m,g),r)→OkRd m'→OkRd m:=λh q=>by
  obtain⟨e,_⟩:=fL h;injection e with e1 e2
  exact e1▸q
 split at h
 · obtain⟨x,_,hx,h⟩:=bl h;exact fin h ⟨D9 hx, .zero,g8,pv⟩
 split at h
 · obtain⟨_,_,_,h⟩:=bl h;obtain⟨x,_,hx,h⟩:=bl h;exact fin h ⟨D9 hx, .zero,g8,pv⟩
 split at h
 · obtain⟨_,_,_,h⟩:=bl h;exact fin h ⟨.zero, .zero,g8,pv⟩
 split at h
 · obtain⟨_,_,_,h⟩:=bl h;obtain⟨b,_,hb,h⟩:=bl h;exact fin h ⟨.zero, .zero,qJ hb,pv⟩
 split at h
 · obtain⟨_,_,_,h⟩:=bl h;obtain⟨b,_,hb,h⟩:=bl h;obtain⟨c,_,hc,h⟩:=bl h;exact fin h ⟨.zero, .zero,qJ hb,E5 hc⟩
 split at h
 · obtain⟨v,_,hv,h⟩:=bl h;exact fin h ⟨.zero,Ac hv,g8,pv⟩
 · exact fin h ⟨.zero, .zero,g8,pv⟩
theorem A4(bs:List UInt8):OkMg (gE bs).1:=by
 unfold gE;split
 · rename_i m h;exact Mm h
 · exact⟨.zero, .zero,g8,g8,pv⟩
theorem Kt(bs:List UInt8):OkRd (jH bs).1:=by
 unfold jH;split
 · rename_i m h;exact L1 h
 · exact⟨.zero, .zero,g8,pv⟩
section
variable {δ:Type} {K:Dk δ} {s:MS δ}
theorem JX(h:OkR K s)(m:RecT)(hm:OkRd m):OkR K (iX s m):=by
 have ha:OkAc s.acc:=⟨h.acc⟩;unfold iX;split
 · exact⟨h.e,h.id,h.view,hm.row,h.mir,h.book,h.last,h.acc,h.vote⟩
 split
 · have:=hm.row;exact inferInstance
 split
 · exact inferInstance
 split
 · exact⟨h.e,h.id,h.view,h.own,h.mir,h.book,h.last,mi (mi (mi ha.epoch hm.ballot) ha.had) ha.change,h.vote⟩
 split
 · exact⟨h.e,h.id,h.view,h.own,h.mir,h.book,h.last,mi (mi (mi ha.epoch hm.ballot) hm.ballot) hm.change,h.vote⟩
 split
 · have:=hm.view;exact inferInstance
 · exact h
theorem Ad{v:Vector RowT 5}(h:v= #v[.zero, .zero, .zero, .zero, .zero])(i:Nat)(hi:i<5):OkRow v[i]:=by
 subst h
 match i,hi with
 |0,_|1,_|2,_|3,_|4,_=>exact OkRow.zero
theorem Ki{i:Int}{e:δ}(he:K.ok e)(hi:cN i=true):OkR K (AK i e):=
 ⟨he,hi, .first, .zero,Ad rfl,Ad rfl,Ad rfl,Ob _ (by decide),λ_ q=>nomatch q⟩
theorem Ce: ∀(l:List (List UInt8)) {s s':MS δ},OkR K s→kM l s=some s'→OkR K s'
 | [],s,s',h,q=>by
  obtain rfl:=cI q;exact h
 |b::l,s,s',h,q=>by
  rw[kM]at q;split at q
  · cases q
  · exact Ce l (JX h _ (Kt b)) q
theorem tL{i:Nat}(hi:i<5){D:DS}(hD:DkOk D){s:MS LD}(h:(cw i D).1=some s):OkR KD s∧Fresh ((i:Nat):Int) (⟨(bH D).recs.length,(bH D).used,(bH D).D⟩:LD) s:=by
 obtain⟨_,h2⟩:=pV h;obtain⟨o1,o2,o3,o4⟩:=hD.open;exact⟨Ce _ (Ki (K:=KD) ⟨o1,⟨o2,o3⟩,by show(((bH D).recs.length:Nat):Int)≤4100+(bH D).used;omega⟩ (decide_eq_true ⟨by omega,by omega⟩)) h2,Fresh.read _ (Fresh.new _ _) h2⟩
end
end Api
end

section
namespace Go.Proofs.YtjblgopghhgflaaGreat
open Go Leg Codec Api Dsk Wal
theorem Be(b c s r:Nat)(us:List Value)(x:Value)(bs:List UInt8)(hb:bs.length≤1000000)(hroom:us.length<8):
 DT 138 #[(.pointer (some ⟨b,0,none⟩)),x] (IsW x bs) [ak b [(.chan (some c))] 208,eg c 8 (us) (s) (r)] (dz (λv H=>v= .bool true∧∃u,H=[ak b [(.chan (some c))] 208,eg c 8 (us++[u]) (s+1) r,dW u bs 5])):=by
 refine Leg.Does.body (vs:=[(.pointer (some ⟨b,0,none⟩)),x]) (n:=15) Tryz.func138 rfl rfl rfl (λw0 F hF=>?_);refine sr λ_ J1=>?_
 refine pC ?_;refine nx J1 ?_;refine aa λ_ J2=>?_
 refine sr λ_ J3=>?_
 refine mv ?_;refine tp (gk rfl rfl) ?_;refine tp (aY (r:=0) rfl Dp rfl uz rfl rfl) ?_;refine tp (ii (v:=(.chan (some c))) rfl vp rfl rfl (fi 0 rfl rfl) rfl) ?_;refine nx J3 ?_;refine ae ?_;refine Dr (ab rfl) rfl rfl rfl gO lB (λv9=>?_);change TL _ _ _ _ _ _ _ _ _ [dW v9 ([]) 5,ak b [(.chan (some c))] 208,eg c 8 (us) (s) (r)];refine mv ?_;refine cL (k:=0) (news:=ej (bs)) (nn':=(bs:List UInt8).length) (xs':=ej (bs)) (ab rfl) rfl rfl rfl gO zv rfl rfl rfl rfl rfl rfl (λ_ _=>hF.src (λ_ h=>fu h)) (eY _) (by simp only[maxLen,aD];omega) (by simp only[aD];omega) (by simp) (bO _) (λv11 ov11=>?_);change TL _ _ _ _ _ _ _ _ _ [dW v11 (bs) 5,ak b [(.chan (some c))] 208,eg c 8 (us) (s) (r)];refine nx J2 ?_;refine aa λ_ J4=>?_
 refine yE ?_;change TX _ _ _ _ _ _ [0,1,2] _ _ _;refine TX.sendRoom 2 rfl (ab rfl) rfl rfl rfl MD rfl rfl rfl rfl hroom ?_;change TX _ _ _ _ _ _ _ _ _ [dW v11 (bs) 5,ak b [(.chan (some c))] 208,eg c 8 (us++[v11]) (s+1) (r)];refine tn rfl (ab rfl) rfl rfl (l9 (vs:=[(.int .i64 0),(.bool false)]) rfl rfl rfl) ?_;refine tn rfl (ab rfl) rfl rfl (Oe rfl rfl rfl) ?_;refine KI ?_;refine ac J4 ?_;refine aq ?_;refine ny rfl ?_;refine sr λ_ J5=>?_
 refine pC ?_;refine nx J5 ?_;refine ai ?_;refine aJ ?_;refine aF (dK _) (λ_ s=>am [1,1,0] rfl s) ?_;refine av rfl rfl ?_;exact⟨rfl,_,rfl⟩
theorem xO(b c s r:Nat)(us:List Value)(ls:List (List UInt8))(h8:ls.length≤8)(hb: ∀x∈ls,x.length≤1000000):
    DT 101 #[(.pointer (some ⟨b,0,none⟩))] T0 [ak b [(.chan (some c))] 208,eg c 8 (us) (s) (r),eH (us) (ls) 5] (dz (λv H=>((ls.length=0∨ls.length=8)∧v= .bool false∧H=[ak b [(.chan (some c))] 208,eg c 8 us s r,eH us ls 5])∨(ls.length≠0∧ls.length≠8∧v= .bool true∧∃un,H=[ak b [(.chan (some c))] 208,eg c 8 (us++[un]) (s+us.length+1) (r+us.length),eH us ls 5,dW un (ls.getD 0 []) 5]))):=by
 refine BD 41 Tryz.func101 rfl rfl rfl λw0 F hF=>sr λ_ J1=>PS ?_
 refine nx J1 (sr λ_ J2=>PS ?_);refine CE uP (ti b c s r us ls) ID ?_;change TL _ _ _ _ _ _ _ _ _ [ak b [(.chan (some c))] 208,eg c 8 (us) (s) (r),eH (us) (ls) 5];refine yC (p:=us.length=ls.length) (λw m=>(qH 2 rfl rfl m).1) (λhul=>PS ?_);refine nx J2 (aa λ_ J3=>sr λ_ J4=>P2 ?_);refine ao ?_ ?_<;>intro h10;refine PS ?_
 iterate 7 refine UT ?_
 refine PS ?_;refine nx J4 (CY (sr λ_ J5=>PS ?_));refine nx J5 (ai (af (WK [0,0,0] (av rfl rfl ?_))));exact .inl ⟨by omega,rfl,rfl⟩;refine P4 ?_;refine FA 0 Dp uz ?_;refine LA 0 vp ?_;refine tq (PV.capChan 1 rfl vp rfl rfl rfl) ?_;refine PS ?_;refine ao ?_ ?_<;>intro h18;refine PS ?_;refine nx J4 (CY (sr λ_ J6=>PS ?_));refine nx J6 (ai (af (WK [0,0,0] (av rfl rfl ?_))));exact .inl ⟨by omega,rfl,rfl⟩;refine PS ?_;refine nx J4 (CN (qx J3 (sr λ_ J7=>PS ?_)));refine nx J7 (aa λ_ J8=>sr λ_ J9=>P2 ?_);refine nx J9 (aq ?_)
 refine bw (α:=(Nat)) (λk=>k≤us.length) (λk=>[(0,(.pointer (some ⟨b,0,none⟩))),(2,(.bool false)),(4,(CC k (us.getD 0 undef))),(20,(.int .i64 (((ls.length:Nat):Int)))),(21,(.int .i64 (((k:Nat):Int))))]) (λk=>[ak b [(.chan (some c))] 208,eg c 8 (us.drop k++us.take k) (s+k) (r+k),eH (us) (ls) 5]) (λk=>us.length-k) 0
     (aN _) SB
     (λ_ q=>by simpa using q) (λk hinv=>?_)
 obtain hk:=hinv;refine sr λ_ J10=>PS ?_
 refine ao ?_ ?_<;>intro h22;have hku:k<us.length:=by omega
 refine nx J10 (aa λ_ J11=>CY (qx J11 (aa λ_ J12=>aq (sr λ_ J13=>P2 ?_))));refine nx J13 (aa λ_ J14=>yE (tn rfl (ab rfl) rfl rfl (jV rfl rfl) (tn rfl (ab rfl) rfl rfl (gk rfl rfl) (tn rfl (ab rfl) rfl rfl (aY (r:=0) rfl Dp rfl uz rfl rfl) (tn rfl (ab rfl) rfl rfl (ii (v:=(.chan (some c))) rfl vp rfl rfl (RO 0) rfl) (TX.recv1 1 rfl (ab rfl) rfl rfl rfl vp MD rfl rfl rfl (Ib hku) (tn rfl (ab rfl) rfl rfl (PK rfl rfl) (KI (ac J14 (aa λ_ J15=>?_))))))))));refine sr λ_ J16=>P2 ?_
 refine ao ?_ ?_<;>intro h30;refine nx J16 (CY (ae (P2 ?_)));refine nx J15 (yE (tn rfl (ab rfl) rfl rfl (jV rfl rfl) (tn rfl (ab rfl) rfl rfl (gk rfl rfl) (tn rfl (ab rfl) rfl rfl (aY (r:=0) rfl Dp rfl uz rfl rfl) (tn rfl (ab rfl) rfl rfl (ii (v:=(.chan (some c))) rfl vp rfl rfl (RO 0) rfl) (tn rfl (ab rfl) rfl rfl (jV rfl rfl) (TX.send1 1 rfl (ab rfl) rfl rfl rfl rfl rfl rfl (by simp only[ah,eb,bo];omega) (KI (ag (ac J12 (ae ?_)))))))))));refine AD ?_;refine PS ?_;refine au ?_
 exact aK ((k+1):(Nat)) (by omega) (by show us.length- (k+1)<us.length-k;omega)
   (aT (aT (bz rfl (by first|exact IW (by omega) hku|exact IU (by omega)) SB)))
   (λ_ q=>by
      rw[Ca hku]at q
      exact q)
 refine nx J16 (CN (qx J15 (yE (tn rfl (ab rfl) rfl rfl (jV rfl rfl) (tn rfl (ab rfl) rfl rfl (gk rfl rfl) (tn rfl (ab rfl) rfl rfl (aY (r:=0) rfl Dp rfl uz rfl rfl) (tn rfl (ab rfl) rfl rfl (ii (v:=(.chan (some c))) rfl vp rfl rfl (RO 0) rfl) (tn rfl (ab rfl) rfl rfl (jV rfl rfl) (TX.send1 1 rfl (ab rfl) rfl rfl rfl rfl rfl rfl (by simp only[ah,eb,bo];omega) (KI (ag ?_)))))))))));refine ac J12 (ae (AD ?_));refine PS ?_;refine au ?_
 exact aK ((k+1):(Nat)) (by omega) (by show us.length- (k+1)<us.length-k;omega)
   (aT (aT (bz rfl (by first|exact IW (by omega) hku|exact IU (by omega)) SB)))
   (λ_ q=>by
      rw[Ca hku]at q
      exact q)
 obtain rfl:k=us.length:=by omega
 have hpos:0<ls.length:=by omega
 have hg:ls.getD 0 []=ls[0]:=by simp[List.getD_eq_getElem?_getD,hpos]
 refine cA (H':=[ak b [(.chan (some c))] 208,eg c 8 us (s+us.length) (r+us.length),eH us ls 5]) (λ_ q=>by simpa using q) (nx J10 (aa λ_ J17=>CN (aX (aA (aA (br (ac J8 (sr λ_ J18=>P2 ?_))))))))
 refine kX (ab rfl) rfl rfl rfl Iv rfl (Be b c (s+us.length) (r+us.length) us (CC us.length (us.getD 0 undef)) (ls.getD 0 []) (hb _ (hg▸ec hpos)) (by omega)) (λ_ s=>s) (λg d s=>by
          rw[IV (by omega),hg]
          exact Js (uh 0 hpos rfl rfl g d s)) (λvR HR hR=>?_)
 obtain⟨rfl,un,rfl⟩:=hR;refine PS ?_;refine nx J18 (ai (WK [0,0,1,0] (av rfl rfl ?_)));exact .inr ⟨by omega,by omega,rfl,un,rfl⟩
theorem yx(b:Nat)(ls:List (List UInt8))(h8:ls.length≤8)(hb: ∀x∈ls,x.length≤1000000):DT 101 #[.pointer (some ⟨b,0,none⟩)] T0 [gY 208 5 b ls] (RI (.bool (HT ls)) [gY 208 5 b (Dx ls)]):=
 Leg.Does.pack (B:=[]) λq=>Leg.Does.fold (xO b q.1 q.2.2.1 q.2.2.2 q.2.1 ls h8 hb) λe H hp=>by
  cases e with
  |returned v=>
   unfold HT Dx;rcases hp with⟨h,rfl,rfl⟩| ⟨h1,h2,rfl,un,rfl⟩
   · exact⟨[gY 208 5 b ls],λ_ s=>bp (p:=λq:Nat×List Value×Nat×Nat=>[ak b [.chan (some q.1)] 208,eg q.1 8 q.2.1 q.2.2.1 q.2.2.2,eH q.2.1 ls 5]) (H:=[]) q s,by rw[decide_eq_false (by omega)],by rw[if_neg (by omega)]⟩
   · refine⟨[gY 208 5 b (ls++[ls.getD 0 []])],λ_ s=>?_,by rw[decide_eq_true (by omega)],by rw[if_pos (by omega)];rfl⟩
     have s1:=Am 3 rfl rfl s;have s2:=aC [2,2] rfl s1;have s3:=uq s2;exact bp (p:=λq:Nat×List Value×Nat×Nat=>[ak b [.chan (some q.1)] 208,eg q.1 8 q.2.1 q.2.2.1 q.2.2.2,eH q.2.1 (ls++[ls.getD 0 []]) 5]) (H:=[]) (q.1,q.2.1++[un],q.2.2.1+q.2.1.length+1,q.2.2.2+q.2.1.length) (aC [1,1,0] rfl s3)
  |panicked c=>exact hp.elim
  |outgrown=>exact hp.elim
theorem tg(b:Nat)(ls:List (List UInt8))(h8:ls.length≤8)(hb: ∀x∈ls,x.length≤1000000):
 DT 102 #[(.pointer (some ⟨b,0,none⟩))] T0 [gY 208 5 b (ls)] (dz (λv H=>H=[gY 208 5 b (sB ls)])):=by
 refine BD 16 Tryz.func102 rfl rfl rfl λw0 F hF=>sr λ_ J1=>PS ?_
 refine nx J1 (sr λ_ J2=>PS ?_);refine CR Lh (th b ls) ID λvR HR hR=>?_
 rcases hR with⟨rfl,rfl,rfl⟩| ⟨u,f,lt,rfl,rfl,rfl⟩
 refine P4 ?_;refine PS ?_;refine nx J2 (sr λ_ J3=>P2 ?_)
 iterate 3 refine UF ?_
 refine P2 ?_;exact nx J3 (ai (WK [0] (av rfl rfl rfl)));refine P4 ?_;refine PS ?_;refine nx J2 (sr λ_ J4=>P4 ?_);refine CF Iv (u7 b lt u f (hb f (dr ..))) ID (λg d s=>Js (AU 0 rfl rfl g d s)) ?_;refine P2 ?_;refine nx J4 (ai (WK [0] (av rfl rfl ?_)));exact congrArg (λq=>[gY 208 5 b q]) (if_pos (show lt.length<8 by have:=h8;rw[ay]at this;omega))
end Go.Proofs.YtjblgopghhgflaaGreat
end

section
namespace Leg
open Go
def RdG(S:World→Prop)(b:Nat){α:Type}(c:α→List Value)(T:TypeId):Prop:=∀w,S w→∃a,w.heap[b]?=some (.cells (c a).toArray T (0,0))
abbrev hid{α:Type}(b:Nat)(c:α→List Value)(T:TypeId)(R:α→List HP):HP:=pack (λa=>ak b (c a) T::R a)
section
variable {P:Program} {w0:World} {F:Hl} {n:Nat} {ops:Array Oper} {Q:QQ} {D:List Deferred} {L:List (Nat×Value)} {H:List HP} {o:Oper} {l:List Oper} {d:Nat} {S:World→Prop} {α:Type} {b j:Nat} {c c':α→List Value} {T:TypeId} {R R':α→List HP}
theorem Sat.packOpen{p:α→List HP}{w:World}(i:Nat)(s:Sat H F w)(hi:i<H.length)(hH:H.getD i (λ_=>True)=pack p): ∃a,Sat (p a++H.eraseIdx i) F w:=by
 obtain⟨h,d,e,x⟩:=s;have y:=eZ i hi x;rw[hH]at y;obtain⟨a,z⟩:=fB (p:=p) (H:=H.eraseIdx i) (h:=h) y;exact⟨a,h,d,e,z⟩
theorem Sat.packShut{p:α→List HP}{w:World}(i:Nat)(hi:i<H.length)(a:α)(s:Sat (p a++H.eraseIdx i) F w):Sat (H.set i (pack p)) F w:=by
 obtain⟨h,d,e,x⟩:=s;exact⟨h,d,e,kL i hi (bp a x)⟩
theorem RdG.own(i:Nat)(hi:Nat.blt i H.length=true)(hH:H.getD i (λ_=>True)=hid b c T R):RdG (Sat H F) b c T:=λw s=>by
 obtain⟨a,t⟩:=s.packOpen i (lb hi) hH;exact⟨a,t.block 0 (by simp) rfl⟩
abbrev cZ:= @RdG.own
theorem PV.load1G{t:TypeId}{x:Operand}{dt:TypeDesc}{v:Value}(ho:o.op= .load t x)(ht:P.underlying t=some dt)(hp:ey dt=true)(hx:cK L x=some (.pointer (some ⟨b,j,none⟩)))(hR:RdG S b c T)(hc: ∀a,(c a)[j]?=some v):PV P n D L S o v:=
 λa w f m=>by
  obtain⟨y,hy⟩:=hR w m;exact ii (S:=λw'=>w'=w) ho ht hp hx (λ_ e=>e▸hy) (hc y) a w f rfl
abbrev dm:= @PV.load1G
theorem PV.loadNG{t:TypeId}{x:Operand}{dt:TypeDesc}{m:Nat}{vs:List Value}(ho:o.op= .load t x)(ht:P.underlying t=some dt)(hp:ey dt=false)(hm:(P.info? t).map (·.size)=some m)(hx:cK L x=some (.pointer (some ⟨b,j,none⟩)))(hR:RdG S b c T)(hl:vs.length=m)(hc: ∀a,((c a).drop j).take m=vs):PV P n D L S o (.agg vs.toArray):=
 λa w f s=>by
  obtain⟨y,hy⟩:=hR w s;exact aM (S:=λw'=>w'=w) ho ht hp hm hx (λ_ e=>e▸hy) hl (hc y) a w f rfl
abbrev gh:= @PV.loadNG
theorem TL.storeG{i:Nat}{t:TypeId}{x y:Operand}{v:Value}{vs:List Value}(hw:Want n D ops o L)(ho:o.op= .store t x y)(hd:o.dst=none)
 (hx:cK L x=some (.pointer (some ⟨b,j,none⟩))) (hy:cK L y=some v) (hv:v.cells=vs.toArray) (hs:(P.info? t).map (·.size)=some vs.length) (h1: ∀u∈vs,u.oneCell'=true)
 (hi:Nat.blt i H.length=true) (hH:H.getD i (λ_=>True)=hid b c T R) (hl: ∀a,j+vs.length≤(c a).length) (hcs: ∀a,wr (c a) j vs=c' a)
 (h:TL P w0 F n ops Q l D L (H.set i (hid b c' T R))):TL P w0 F n ops Q (o::l) D L H:=
 TL.eff hw hd (λa w f _ m=>by
  obtain⟨q,m1⟩:=m.packOpen i (lb hi) hH;have hb:=m1.block 0 (by simp) rfl;refine⟨w.setRow b (wr (c q) j vs).toArray,by simp[execOp,ho,f.eval hx,f.eval hy,wJ hv hs h1 hb (hl q)],⟨rfl,rfl,rfl,by simp⟩,?_⟩;rw[hcs q]
  exact Sat.packShut (p:=λa=>ak b (c' a) T::R a) i (lb hi) q (m1.write 0 (by simp) rfl (setRow_heap w b (c q).toArray _ T _ hb) (λk hk=>setRow_other w b k _ hk))) h
abbrev g9:= @TL.storeG
theorem TL.store1G{i:Nat}{t:TypeId}{x y:Operand}{v:Value}(hw:Want n D ops o L)(ho:o.op= .store t x y)(hd:o.dst=none)
 (hx:cK L x=some (.pointer (some ⟨b,j,none⟩))) (hy:cK L y=some v) (h1:v.oneCell'=true) (hs:(P.info? t).map (·.size)=some 1)
 (hi:Nat.blt i H.length=true) (hH:H.getD i (λ_=>True)=hid b c T R) (hl: ∀a,j< (c a).length) (hcs: ∀a,(c a).set j v=c' a)
 (h:TL P w0 F n ops Q l D L (H.set i (hid b c' T R))):TL P w0 F n ops Q (o::l) D L H:=
 g9 (vs:=[v]) hw ho hd hx hy (by cases v<;>simp[Value.cells,Value.oneCell']at h1 ⊢) hs (by simpa using h1) hi hH (λa=>by have:=hl a;simp;omega)
  (λa=>by rw[←hcs a,wr,nY,if_pos (hl a)];simp) h
theorem Gk{p p' a b c d:HP}{h:Hl}(e: ∀h,p h→p' h)(s:bG (a::b::c::d::p::H) h):bG (a::b::c::d::p'::H) h:=
 cG s (λ_ x=>x) λ_ s=>cG s (λ_ x=>x) λ_ s=>cG s (λ_ x=>x) λ_ s=>cG s (λ_ x=>x) λ_ s=>cG s e λ_ x=>x
theorem Does.hid{f:FuncId}{args:Array Value}{A:List HP}{q:Value→Prop}(h: ∀a,Does P f args (λ_=>True) (ak b (c a) T::A) (dz λv H=>q v∧H=ak b (c' a) T::A)):Does P f args (λ_=>True) (Leg.hid b c T R::A) (dz λv H=>q v∧H=Leg.hid b c' T R::A):=
 Does.pack λa=>Does.withinR (B:=R a) (h a) (λ_ _ _ _=>trivial) (λ_ s=>eu (List.Perm.cons (ak b (c a) T) (List.perm_append_comm (l₁:=R a) (l₂:=A))) s) λv H hp=>by
  obtain⟨h1,rfl⟩:=hp;exact⟨_,λ_ s=>bp (p:=λa=>ak b (c' a) T::R a) a (eu (List.Perm.cons (ak b (c' a) T) (List.perm_append_comm (l₁:=A) (l₂:=R a))) s),h1,rfl⟩
end
open Api
variable {P:Program} {w0:World} {F:Hl} {n:Nat} {ops:Array Oper} {Q:QQ} {D:List Deferred} {L:List (Nat×Value)} {H:List HP} {d:Nat} {o:Oper} {l:List Oper}
section
variable {A:Type} {b:Nat} {c:A→List Value} {T:TypeId} {R:A→List HP}
theorem LG{t:TypeId}{x:Operand}{dt:TypeDesc}{j:Nat}(k:Nat)(ht:P.underlying t=some dt)(v:Value)(h:TL P w0 F n ops Q l D ((d,v)::L) H)(hw:Want n D ops o L:=by first|exact ab rfl|exact ce rfl rfl rfl)(hd:o.dst=some d:=by exact rfl)(hn:Nat.blt d n=true:=by exact rfl)(ho:o.op= .load t x:=by exact rfl)(hp:ey dt=true:=by exact rfl)(hx:cK L x=some (.pointer (some ⟨b,j,none⟩)):=by exact rfl)(hk:Nat.blt k H.length=true:=by exact rfl)(hH:H.getD k (λ_=>True)=hid b c T R:=by exact rfl)(hc: ∀a,(c a)[j]?=some v):TL P w0 F n ops Q (o::l) D L H:=l5 hw hd hn (dm ho ht hp hx (cZ k hk hH) hc) h
theorem LZ{α:Type}{f:α→List Int}{t:TypeId}{x:Operand}{dt:TypeDesc}{j m:Nat}(k:Nat)(ht:P.underlying t=some dt)(hs:(P.info? t).map (·.size)=some m)(hf: ∀x,(ints (f x)).length=m)(y:α)(h:TL P w0 F n ops Q l D ((d, .agg (ints (f y)).toArray)::L) H)(hw:Want n D ops o L:=by first|exact ab rfl|exact ce rfl rfl rfl)(hd:o.dst=some d:=by exact rfl)(hn:Nat.blt d n=true:=by exact rfl)(ho:o.op= .load t x:=by exact rfl)(hp:ey dt=false:=by exact rfl)(hx:cK L x=some (.pointer (some ⟨b,j,none⟩)):=by exact rfl)(hk:Nat.blt k H.length=true:=by exact rfl)(hH:H.getD k (λ_=>True)=hid b c T R:=by exact rfl)(hc: ∀a,((c a).drop j).take m=ints (f y)):TL P w0 F n ops Q (o::l) D L H:=l5 hw hd hn (gh ho ht hp hs hx (cZ k hk hH) (hf y) hc) h
theorem SK{o:Oper}{l:List Oper}{t:TypeId}{x y:Operand}{j m:Nat}{v:Value}{c':A→List Value}(k:Nat)(hs:(P.info? t).map (·.size)=some 1)(hl: ∀a,(c a).length=m)(h:TL P w0 F n ops Q l D L (H.set k (hid b c' T R)))(hw:Want n D ops o L:=by first|exact ab rfl|exact ce rfl rfl rfl)(hd:o.dst=none:=by exact rfl)(ho:o.op= .store t x y:=by exact rfl)(hx:cK L x=some (.pointer (some ⟨b,j,none⟩)):=by exact rfl)(hy:cK L y=some v:=by exact rfl)(h1:v.oneCell'=true:=by exact rfl)(hk:Nat.blt k H.length=true:=by exact rfl)(hH:H.getD k (λ_=>True)=hid b c T R:=by exact rfl)(hj:Nat.blt j m=true:=by first|exact rfl|exact Nat.ble_eq_true_of_le (by omega))(hc: ∀a,(c a).set j v=c' a):TL P w0 F n ops Q (o::l) D L H:=TL.store1G hw ho hd hx hy h1 hs hk hH (λa=>(hl a)▸lb hj) hc h
end
end Leg
end

section
namespace Go.Proofs.YtjblgopghhgflaaGreat
open Go Leg Codec Api Dsk Wal
structure Env(δ:Type) extends Dk δ where
 T:Nat
 ov:Value
 sf:Nat
 E:δ→List SaidT→HP
 lg:Nat→δ→HP
 me : x7 Tryz.prog T ov "Send" sf
 nm:Named Tryz.prog sf
 say: ∀(e:δ) (l:List SaidT) (to':Int) (m:MsgT),ok e→Leg.Does Tryz.prog sf #[ov, .int .i64 to', .agg (ints m.flat).toArray] (λ_=>True) [E e l] (dz (λ_ H=>H=[E e (if dn e then l else l++[SaidT.mk to' m])]))
 put: ∀(g:Nat) (x:Value) (bs:List UInt8) (e:δ) (l:List SaidT),ok e→bs.length≤3000→Leg.Does Tryz.prog 166 #[.pointer (some ⟨g,0,none⟩),x] (IsW x bs) [lg g e,E e l] (dz (λv H=>v= .int .i64 (pt e bs).2∧H=[lg g (pt e bs).1,E (pt e bs).1 l]))
def Fo(vo:Value):Option VoteT→HP
 |none=>λ_=>vo= .pointer none
 |some vt=>λh=>∃b,vo= .pointer (some ⟨b,0,none⟩)∧ak b (VoteT.cells vt) 227 h
abbrev cJ{δ:Type}(V:Env δ)(r:Nat)(s:MS δ):HP:=hid r (λa:Adr=>RepT.cells (s.rep a)) 123 (λa=>[V.lg a.lg s.e,own a.rs s.replies.length (ints (s.replies.flatMap ReplyT.flat)) 37 3,Fo a.vo s.vote,V.E s.e s.o])
abbrev vM{δ:Type}(V:Env δ)(r:Nat)(s:MS δ)(vo:Value):HP:=hid r (λa:Nat×Value=>RepT.cells (s.rep ⟨a.1,vo,a.2⟩)) 123 (λa=>[V.lg a.1 s.e,own a.2 s.replies.length (ints (s.replies.flatMap ReplyT.flat)) 37 3,V.E s.e s.o])
theorem jO{δ:Type}{V:Env δ}{r:Nat}{f:MS δ×Int}{X:MS δ}{y:Int}(e:f=(X,y)):Value.int .i64 y= .int .i64 f.2∧[cJ V r X]=[cJ V r f.1]:=by
 subst e;exact⟨rfl,rfl⟩
theorem Gt{δ:Type}(V:Env δ)(r:Nat)(s:MS δ)(to':Int)(m:MsgT)[hs:OkR V.toDk s]:DT V.sf #[V.ov, .int .i64 to', .agg (ints m.flat).toArray] T0 [cJ V r s] (dz (λ_ H=>H=[cJ V r (B4 V.toDk s to' m)])):=
 Leg.Does.pack λa=>Leg.Does.withinR (V.say s.e s.o to' m hs.e) (λ_ _ _ _=>trivial) (λ_ q=>aC [4] rfl q) λv H hp=>by
  subst hp;refine⟨_,λ_ q=>?_,rfl⟩;have q2:=aC [1,1,1,1,0] rfl q;exact bp (p:=λa:Adr=>[ak r (RepT.cells (s.rep a)) 123,V.lg a.lg s.e,own a.rs s.replies.length (ints (s.replies.flatMap ReplyT.flat)) 37 3,Fo a.vo s.vote,V.E s.e (if V.dn s.e then s.o else s.o++[SaidT.mk to' m])]) a q2
theorem gp{δ:Type}(V:Env δ)(r:Nat)(s:MS δ)(to':Int)(m:MsgT)(f:MS δ→MS δ)(hT:to'=s.id→DT 105 #[.pointer (some ⟨r,0,none⟩), .iface V.T V.ov, .int .i64 s.id, .agg (ints m.flat).toArray] T0 [cJ V r s] (dz (λ_ H=>H=[cJ V r (f s)])))[OkR V.toDk s]:
 DT 149 #[(.pointer (some ⟨r,0,none⟩)),(.iface V.T V.ov),(.int .i64 (to')),(.agg (ints m.flat).toArray)] T0 [cJ V r s] (dz (λ_ H=>H=[cJ V r (mw V.toDk f s to' m)])):=by
 refine Leg.Does.body (vs:=[(.pointer (some ⟨r,0,none⟩)),(.iface V.T V.ov),(.int .i64 (to')),(.agg (ints m.flat).toArray)]) (n:=28) Tryz.func149 rfl rfl rfl (λw0 F hF=>?_);refine sr λ_ J1=>?_
 refine TL.box (ab rfl) rfl rfl rfl rfl (λb7=>?_);change TL _ _ _ _ _ _ _ _ _ [ak b7 (ints m.flat) 178,cJ V r s];refine nx J1 ?_;refine aa λ_ J2=>?_
 refine sr λ_ J3=>?_
 refine mv ?_;refine mv ?_;refine tp (gk rfl rfl) ?_;refine tp (aY (r:=0) rfl bn rfl aQ rfl rfl) ?_;refine tp (dm (v:=(.int .i64 (s.id))) rfl Y3 rfl rfl (cZ 1 rfl rfl) (λa_=>(cE (s.rep a_) rfl))) ?_;refine tp (Oe rfl rfl rfl) ?_;refine ao (λh13=>?_) (λh13=>?_);refine nx J3 ?_;refine ny rfl ?_;refine aa λ_ J4=>?_
 refine rR (λw=>Frm F w∧w.heap[b7]?=some (.cells (ints m.flat).toArray 178 (0,0))∧True) bm rfl (λ_ s=>⟨fu s,s.block 0 (lb rfl) rfl,trivial⟩) ?_;refine ta 0 rfl (jV rfl rfl) ?_;refine ta 1 rfl (jV rfl rfl) ?_;refine ta 2 rfl (jV rfl rfl) ?_;refine ta 3 rfl (gk rfl rfl) ?_;refine ta 4 rfl (aY (r:=0) rfl bn rfl aQ rfl rfl) ?_;refine ta 6 rfl (aM (vs:=ints m.flat) rfl bf rfl cb rfl (λ_ h=>h.2.1) (aI m) (whole (aI m))) ?_;refine cT [5] (by kernel_rfl) rfl ?_;refine aG rfl ?_ ?_;refine tp (dm (v:=(.int .i64 (s.id))) rfl Y3 rfl rfl (cZ 1 rfl rfl) (λa_=>(cE (s.rep a_) rfl))) ?_;refine au ?_;refine va (λ_ s=>⟨fu s,s.block 0 (lb rfl) rfl,trivial⟩) ?_;refine cT [7] (by kernel_rfl) rfl ?_;refine aG rfl ?_ ?_;refine kX (ab rfl) rfl rfl rfl Ln rfl ((by have h:=hT h13;exact h)) (λ_ s=>aC [1] rfl s) (λ_ _ _=>trivial) (λvR HR hR=>?_);obtain rfl:=hR;refine au ?_;refine va (λ_ s=>⟨fu s,s.block 1 (lb rfl) rfl,trivial⟩) ?_;refine TD.done (by kernel_rfl) ?_;refine ac J4 ?_;refine ai ?_;refine af ?_;refine aF (dK _) (λ_ s=>am [0] rfl s) ?_;refine dP rfl ?_;exact(congrArg (λq=>[cJ V r q]) (if_pos h13)).symm;exact bJ;exact bJ;refine nx J3 ?_;refine F2 rfl ?_;refine aU ?_;refine ac J2 ?_;refine sr λ_ J5=>?_
 refine mv ?_;refine tp (PV.ifaceNotNil rfl Tryz.underlying168 rfl) ?_;refine nx J5 ?_;refine ny rfl ?_;refine ae ?_;refine mv ?_;refine mv ?_;refine tp (aM (vs:=ints m.flat) rfl bf rfl cb rfl (fi 0 rfl rfl) (aI m) (whole (aI m))) ?_;refine TL.callI (ab rfl) rfl rfl rfl rfl V.me V.nm rfl (Gt V r s to' m) (λ_ s=>aC [1] rfl s) (λ_ _ _=>trivial) (λvR HR hR=>?_);obtain rfl:=hR;refine au ?_;refine aF (dK _) (λ_ s=>am [0] rfl s) ?_;refine bD rfl ?_;exact(congrArg (λq=>[cJ V r q]) (if_neg h13)).symm
theorem jE{δ:Type}(V:Env δ)(r:Nat)(s:MS δ)(to':Int)(m:MsgT)(hto:to'≠s.id)[OkR V.toDk s]:DT 149 #[.pointer (some ⟨r,0,none⟩), .iface V.T V.ov, .int .i64 to', .agg (ints m.flat).toArray] T0 [cJ V r s] (dz (λ_ H=>H=[cJ V r (gW V.toDk s [⟨to',m⟩])])):=by
 have h:=gp V r s to' m id (λe=>absurd e hto)
 rwa [show mw V.toDk id s to' m=gW V.toDk s [⟨to',m⟩]from if_neg hto]at h
theorem oe{δ:Type}(V:Env δ)(r:Nat)(s:MS δ)(l:List SaidT)(to':Int)(m:MsgT)(hto:to'≠s.id)[OkR V.toDk s]:DT 149 #[.pointer (some ⟨r,0,none⟩), .iface V.T V.ov, .int .i64 to', .agg (ints m.flat).toArray] T0 [cJ V r (gW V.toDk s l)] (dz (λ_ H=>H=[cJ V r (gW V.toDk s (l++[⟨to',m⟩]))])):=by
 have h:=jE V r (gW V.toDk s l) to' m hto
 rwa [H6]at h
theorem MQ{δ:Type}{V:Env δ}{r:Nat}{a b:MS δ}(h:a=b):[cJ V r a]=[cJ V r b]:=by rw[h]
theorem nR{δ:Type}(V:Env δ)(r:Nat)(s:MS δ)[OkR V.toDk s]:
 DT 106 #[(.pointer (some ⟨r,0,none⟩)),(.iface V.T V.ov)] T0 [cJ V r s] (dz (λ_ H=>H=[cJ V r (fl V.toDk s)])):=by
 refine BD 40 Tryz.func106 rfl rfl rfl λw0 F hF=>?_
 have hid:cN s.id=true:=OkR.id;have hid2:0≤s.id∧s.id<5:=of_decide_eq_true hid;refine aa λ_ J1=>DB bm (cZ 0 rfl rfl) ?_
 refine PD 0 ?_;refine PD 1 ?_;refine FD 2 0 bn aQ ?_;refine ta 3 rfl (dm (v:=(.int .i64 (s.id))) rfl Y3 rfl rfl (λ_ h=>h.2.1) (λa_=>(cE _ rfl))) ?_;refine PD 4 ?_;refine PD 5 ?_;refine FD 6 9 bn be ?_;refine ta 7 rfl (gh (vs:=ints s.own.flat) rfl ee rfl be rfl (λ_ h=>h.2.1) (aj s.own) (λa_=>(yF (s.rep a_) 0 rfl (by decide) (whole (aj ((s.rep a_).own)))))) ?_;refine ta 8 rfl (lm MsgT.zero (MsgT.mk 0 s.id s.own 0 0 BallotT.zero BallotT.zero ChangeT.zero ViewT.zero) [(0,[Value.int .i64 0]),(1,[Value.int .i64 s.id]),(2,ints s.own.flat)] bf bv (g:=MsgT.sg)) ?_;refine AL 9 ?_;refine XZ mB (ints MsgT.zero.flat) λb4=>?_
 refine EN (AL 10 ?_);refine SW 0 cb aI ?_;refine EN (DN (ac J1 (sr λ_ J2=>P2 ?_)));refine FA 0 bn aQ ?_;refine LG 1 Y3 (.int .i64 (s.id)) ?_ (hc:=by exact λa_=>(cE _ rfl));refine CR Iq (qt s.id hid) ID λvR HR hR=>?_
 obtain⟨_,rfl,rfl⟩:=hR;revert vR;intro uw;refine kY 0 rfl rfl (λhluw _=>j7 0 rfl rfl (by omega) (λgw capw hvw hcapw=>tp (eh rfl kl rfl hluw) ?_));refine PS ?_;refine nx J2 (aq (rY 2 (sr λ_ J3=>PS ?_)));refine nx J3 (aa λ_ J4=>CY (qx J4 (aa λ_ J5=>aq (sr λ_ J6=>tp (bU (r:=0) hvw rfl kl aQ rfl rfl (by omega) (by omega) rfl) ?_))));refine tp (di (v:=(.int .i64 (((s.id+1)%5)))) rfl Y3 rfl rfl (gm 0 rfl hvw rfl) rfl) ?_;refine PS ?_;refine nx J6 (sr λ_ J7=>P2 ?_);refine FA 1939 bn aQ ?_;refine LG 2 Y3 (.int .i64 (s.kept)) ?_ (hc:=by exact λa_=>(rT _ rfl));refine PS ?_;refine tp (l8 (r:=(s.kept.fdiv (2^min (((s.id+1)%5)).toNat IntKind.i64.bits))) rfl rfl rfl (by omega) rfl) ?_;refine tp (tt (r:=((s.kept.fdiv (2^min (((s.id+1)%5)).toNat IntKind.i64.bits))%2)) rfl rfl rfl (mask (k:=1) (by decide) _)) ?_;refine PS ?_;refine ao ?_ ?_<;>intro h33;refine nx J7 (CY (ae (P3 ?_)));refine LW 1 bf cb aI ?_;refine CZ jq (jE V r s ((s.id+1)%5) (MsgT.mk 0 s.id s.own 0 0 BallotT.zero BallotT.zero ChangeT.zero ViewT.zero) (by omega)) (SM [2]) λvR=>?_
 refine au (ag (ac J5 (ae (tp (cC (r:=1) rfl rfl rfl (by decide)) ?_))));refine PS ?_;refine au (eA (sr λ_ J8=>PS ?_));refine nx J8 (aa λ_ J9=>CY (qx J9 (aa λ_ J10=>aq (sr λ_ J11=>tp (bU (r:=1) hvw rfl kl aQ rfl rfl (by omega) (by omega) rfl) ?_))));refine tp (di (v:=(.int .i64 (((s.id+2)%5)))) rfl Y3 rfl rfl (gm 1 rfl hvw rfl) rfl) ?_;refine PS ?_;refine nx J11 (sr λ_ J12=>P2 ?_);refine FA 1939 bn aQ ?_;refine LG 0 Y3 (.int .i64 (s.kept)) ?_ (hc:=by exact λa_=>(rT _ rfl));refine PS ?_;refine tp (l8 (r:=(s.kept.fdiv (2^min (((s.id+2)%5)).toNat IntKind.i64.bits))) rfl rfl rfl (by omega) rfl) ?_;refine tp (tt (r:=((s.kept.fdiv (2^min (((s.id+2)%5)).toNat IntKind.i64.bits))%2)) rfl rfl rfl (mask (k:=1) (by decide) _)) ?_;refine PS ?_;refine ao ?_ ?_<;>intro h33;refine nx J12 (CY (ae (P3 ?_)));refine LW 2 bf cb aI ?_;refine CZ jq (oe V r s ([SaidT.mk ((s.id+1)%5) (MsgT.mk 0 s.id s.own 0 0 BallotT.zero BallotT.zero ChangeT.zero ViewT.zero)]) ((s.id+2)%5) (MsgT.mk 0 s.id s.own 0 0 BallotT.zero BallotT.zero ChangeT.zero ViewT.zero) (by omega)) ID λvR=>?_
 refine au (ag (ac J10 (ae (tp (cC (r:=2) rfl rfl rfl (by decide)) ?_))));refine PS ?_;refine au (eA (sr λ_ J13=>PS ?_));refine nx J13 (aa λ_ J14=>CN (aX (aA (aA (br (WK [0] (bD rfl ?_)))))));exact MQ (by rw[fl,show n9 (s.rep .nil)=[SaidT.mk ((s.id+1)%5) (MsgT.mk 0 s.id s.own 0 0 BallotT.zero BallotT.zero ChangeT.zero ViewT.zero)]++[SaidT.mk ((s.id+2)%5) (MsgT.mk 0 s.id s.own 0 0 BallotT.zero BallotT.zero ChangeT.zero ViewT.zero)]by rw[n9,hO,if_pos hid];simp[Bh,wL,MsgT.zero,Adr.nil, *]]);refine nx J12 (CN (aU (ag (ac J10 (ae (tp (cC (r:=2) rfl rfl rfl (by decide)) ?_))))));refine PS ?_;refine au (eA (sr λ_ J15=>PS ?_));refine nx J15 (aa λ_ J16=>CN (aX (aA (aA (br (WK [0] (bD rfl ?_)))))));exact MQ (by rw[fl,show n9 (s.rep .nil)=[SaidT.mk ((s.id+1)%5) (MsgT.mk 0 s.id s.own 0 0 BallotT.zero BallotT.zero ChangeT.zero ViewT.zero)]by rw[n9,hO,if_pos hid];simp[Bh,wL,MsgT.zero,Adr.nil, *]]);refine nx J7 (CN (aU (ag (ac J5 (ae (tp (cC (r:=1) rfl rfl rfl (by decide)) ?_))))));refine PS ?_;refine au (eA (sr λ_ J17=>PS ?_));refine nx J17 (aa λ_ J18=>CY (qx J18 (aa λ_ J19=>aq (sr λ_ J20=>tp (bU (r:=1) hvw rfl kl aQ rfl rfl (by omega) (by omega) rfl) ?_))));refine tp (di (v:=(.int .i64 (((s.id+2)%5)))) rfl Y3 rfl rfl (gm 0 rfl hvw rfl) rfl) ?_;refine PS ?_;refine nx J20 (sr λ_ J21=>P2 ?_);refine FA 1939 bn aQ ?_;refine LG 2 Y3 (.int .i64 (s.kept)) ?_ (hc:=by exact λa_=>(rT _ rfl))
 refine PS ?_;refine tp (l8 (r:=(s.kept.fdiv (2^min (((s.id+2)%5)).toNat IntKind.i64.bits))) rfl rfl rfl (by omega) rfl) ?_;refine tp (tt (r:=((s.kept.fdiv (2^min (((s.id+2)%5)).toNat IntKind.i64.bits))%2)) rfl rfl rfl (mask (k:=1) (by decide) _)) ?_;refine PS ?_;refine ao ?_ ?_<;>intro h33;refine nx J21 (CY (ae (P3 ?_)));refine LW 1 bf cb aI ?_;refine CZ jq (jE V r s ((s.id+2)%5) (MsgT.mk 0 s.id s.own 0 0 BallotT.zero BallotT.zero ChangeT.zero ViewT.zero) (by omega)) (SM [2]) λvR=>?_
 refine au (ag (ac J19 (ae (tp (cC (r:=2) rfl rfl rfl (by decide)) ?_))));refine PS ?_;refine au (eA (sr λ_ J22=>PS ?_));refine nx J22 (aa λ_ J23=>CN (aX (aA (aA (br (WK [0] (bD rfl ?_)))))));exact MQ (by rw[fl,show n9 (s.rep .nil)=[SaidT.mk ((s.id+2)%5) (MsgT.mk 0 s.id s.own 0 0 BallotT.zero BallotT.zero ChangeT.zero ViewT.zero)]by rw[n9,hO,if_pos hid];simp[Bh,wL,MsgT.zero,Adr.nil, *]]);refine nx J21 (CN (aU (ag (ac J19 (ae (tp (cC (r:=2) rfl rfl rfl (by decide)) ?_))))));refine PS ?_;refine au (eA (sr λ_ J24=>PS ?_));refine nx J24 (aa λ_ J25=>CN (aX (aA (aA (br (WK [2] (bD rfl ?_)))))));exact MQ (by rw[fl,show n9 (s.rep .nil)=[]by rw[n9,hO,if_pos hid];simp[Bh,wL,MsgT.zero,Adr.nil, *]];exact(pZ _ _).symm)
theorem m5{δ:Type}(V:Env δ)(r:Nat)(s:MS δ)(y:RowT)[OkR V.toDk s]:
 DT 110 #[(.pointer (some ⟨r,0,none⟩)),(.iface V.T V.ov),(.agg (ints y.flat).toArray)] T0 [cJ V r s] (dz (λ_ H=>H=[cJ V r (lq V.toDk s y)])):=by
 refine BD 27 Tryz.func110 rfl rfl rfl λw0 F hF=>sr λ_ J1=>XY (ints y.flat) λb5=>?_
 refine nx J1 (sr λ_ J2=>PS ?_);refine nx J2 (aq ?_)
 refine bw (α:=(Nat)) (λk=>k≤5) (λk=>[(0,(.pointer (some ⟨r,0,none⟩))),(1,(.iface V.T V.ov)),(5,(.pointer (some ⟨b5,0,none⟩))),(7,(.int .i64 (((k:Nat):Int))))]) (λk=>[ak b5 (ints y.flat) 60,cJ V r (gW V.toDk s (nu s.id (qB s.id y) (λ_=>true) k))]) (λk=>5-k) 0
  (aN _) SB
  (λ_ q=>by
  rw[show nu s.id (qB s.id y) (λ_=>true) 0=[]from rfl,pZ]
  exact q) (λk hinv=>?_)
 obtain hk:=hinv;refine sr λ_ J3=>PS ?_
 refine ao ?_ ?_<;>intro h8;refine nx J3 (aa λ_ J4=>CY (qx J4 (aa λ_ J5=>aq (sr λ_ J6=>P2 ?_))));refine nx J6 (sr λ_ J7=>P3 ?_);refine FA 0 bn aQ ?_;refine LG 1 Y3 (.int .i64 (s.id)) ?_ (hc:=by exact λa_=>(cE _ rfl));refine PS ?_;refine ao ?_ ?_<;>intro h15;refine nx J7 (CY (DC bm (cZ 1 rfl rfl) (BL 0) ?_));refine PD 0 ?_;refine PD 1 ?_;refine PD 2 ?_;refine PD 3 ?_;refine PD 4 ?_;refine FD 5 0 bn aQ ?_;refine ta 6 rfl (dm (v:=(.int .i64 (s.id))) rfl Y3 rfl rfl (λ_ h=>h.2.1) (λa_=>(cE _ rfl))) ?_;refine LY 7 ee be aj ?_;refine ta 8 rfl (lm MsgT.zero (MsgT.mk 2 s.id y 0 0 BallotT.zero BallotT.zero ChangeT.zero ViewT.zero) [(0,[Value.int .i64 2]),(1,[Value.int .i64 s.id]),(2,ints y.flat)] bf bv (g:=MsgT.sg)) ?_;refine AL 9 ?_;refine CZ jq (oe V r s (nu s.id (qB s.id y) (λ_=>true) k) ((k:Nat):Int) (MsgT.mk 2 s.id y 0 0 BallotT.zero BallotT.zero ChangeT.zero ViewT.zero) h15) (SM [1]) λvR=>?_
 refine EN (DN (ag (ac J5 (ae (AD ?_)))));refine PS ?_;refine au ?_
 exact aK ((k+1):(Nat)) (by omega) (by show 5- (k+1)<5-k;omega)
  SB
  (λ_ q=>by
   rw[iM,if_pos ⟨h15,rfl⟩]
   exact am [1,0] rfl q)
 refine nx J7 (CN (aU (ag (ac J5 (ae (AD ?_))))));refine PS ?_;refine au ?_
 exact aK ((k+1):(Nat)) (by omega) (by show 5- (k+1)<5-k;omega)
  SB
  (λ_ q=>by
   rw[iM,if_neg (by omega)];rw[aP]
   exact am [0,0] rfl q)
 refine nx J3 (aa λ_ J8=>CN (aX (aA (aA (br (WK [1] (bD rfl ?_)))))));obtain rfl:k=5:=by omega
 exact rfl
theorem m4{δ:Type}(V:Env δ)(r:Nat)(s:MS δ)(v:ViewT)[OkR V.toDk s]:
 DT 109 #[(.pointer (some ⟨r,0,none⟩)),(.iface V.T V.ov),(.agg (ints v.flat).toArray)] T0 [cJ V r s] (dz (λ_ H=>H=[cJ V r (mT V.toDk s v)])):=by
 refine BD 23 Tryz.func109 rfl rfl rfl λw0 F hF=>sr λ_ J1=>XY (ints v.flat) λb5=>?_
 refine nx J1 (sr λ_ J2=>PS ?_);refine nx J2 (aq ?_)
 refine bw (α:=(Nat)) (λk=>k≤5) (λk=>[(0,(.pointer (some ⟨r,0,none⟩))),(1,(.iface V.T V.ov)),(5,(.pointer (some ⟨b5,0,none⟩))),(7,(.int .i64 (((k:Nat):Int))))]) (λk=>[ak b5 (ints v.flat) 44,cJ V r (gW V.toDk s (nu s.id (jB v) (λ_=>true) k))]) (λk=>5-k) 0
  (aN _) SB
  (λ_ q=>by
  rw[show nu s.id (jB v) (λ_=>true) 0=[]from rfl,pZ]
  exact q) (λk hinv=>?_)
 obtain hk:=hinv;refine sr λ_ J3=>PS ?_
 refine ao ?_ ?_<;>intro h8;refine nx J3 (aa λ_ J4=>CY (qx J4 (aa λ_ J5=>aq (sr λ_ J6=>P2 ?_))));refine nx J6 (sr λ_ J7=>P3 ?_);refine FA 0 bn aQ ?_;refine LG 1 Y3 (.int .i64 (s.id)) ?_ (hc:=by exact λa_=>(cE _ rfl));refine PS ?_;refine ao ?_ ?_<;>intro h15;refine nx J7 (CY (ae (P3 ?_)));refine LW 0 eS bk an ?_;refine tp (lm MsgT.zero (MsgT.mk 7 0 RowT.zero 0 0 BallotT.zero BallotT.zero ChangeT.zero v) [(0,[Value.int .i64 7]),(8,ints v.flat)] bf bv (g:=MsgT.sg)) ?_;refine CZ jq (oe V r s (nu s.id (jB v) (λ_=>true) k) ((k:Nat):Int) (MsgT.mk 7 0 RowT.zero 0 0 BallotT.zero BallotT.zero ChangeT.zero v) h15) (SM [1]) λvR=>?_
 refine au (ag (ac J5 (ae (AD ?_))));refine PS ?_;refine au ?_
 exact aK ((k+1):(Nat)) (by omega) (by show 5- (k+1)<5-k;omega)
  SB
  (λ_ q=>by
   rw[iM,if_pos ⟨h15,rfl⟩]
   exact am [1,0] rfl q)
 refine nx J7 (CN (aU (ag (ac J5 (ae (AD ?_))))));refine PS ?_;refine au ?_
 exact aK ((k+1):(Nat)) (by omega) (by show 5- (k+1)<5-k;omega)
  SB
  (λ_ q=>by
   rw[iM,if_neg (by omega)];rw[aP]
   exact am [0,0] rfl q)
 refine nx J3 (aa λ_ J8=>CN (aX (aA (aA (br (WK [1] (bD rfl ?_)))))));obtain rfl:k=5:=by omega
 exact rfl
end Go.Proofs.YtjblgopghhgflaaGreat
end
