/-
  Joined texts:what a statement's proof reaches.
-/
import Derived.Conc.LoneCalls
import Derived.Conc.LoneSelectN
import Derived.Test.YtjblgopghhgflaaGreatPAT4
set_option maxHeartbeats 8000000
set_option maxRecDepth 100000
set_option linter.unusedSimpArgs false
set_option linter.unusedVariables false
section
namespace Go.Proofs.YtjblgopghhgflaaGreat
open Go Leg Codec Api
theorem Bo(rb:Nat)(v:Value)(bs:List UInt8):
 DT 142 #[(.pointer (some ⟨rb,0,none⟩))] (IsB v bs) [am rb [v] 197] (oR 197 iW (λmb:MsgT×Bool=> .tuple #[.agg (ints mb.1.flat).toArray, .bool mb.2]) cM v bs rb):=by
 refine BD 85 Tryz.func142 rfl rfl rfl λw0 F hF=>sr λ_ J1=>XZ m9 (ints MsgT.zero.flat) λb2=>?_
 refine PS ?_;refine nx J1 (sr λ_ J2=>PS ?_);refine CP jQ (cZ rb v bs (10)) (SM [1]) (λ_ d _=>(hF).more d) (λcP HP hP=>?_) (λvR HR hR=>?_);obtain⟨vP,rfl,rfl,hpP⟩:=hP;refine az (WK [0] (aT ?_));exact⟨_,rfl,rfl,by simp[cM,bW hpP, *]⟩;obtain⟨a1,r1,v1,rfl,rfl,hp1,ht1⟩:=hR;have hf1:=ht1 _ hF;refine tp (lY MsgT.zero (MsgT.mk a1 0 RowT.zero 0 0 BallotT.zero BallotT.zero ChangeT.zero ViewT.zero) [(0,[Value.int .i64 a1])] bk bB (g:=MsgT.sg)) ?_;refine XZ m9 (ints MsgT.zero.flat) λb4=>?_
 refine SW 0 cj aJ ?_;refine nx J2 (aa λ_ J3=>sr λ_ J4=>FA 0 bk aQ ?_);refine LT 0 Y3 (.int .i64 (a1)) ?_ (hc:=by exact fi _ rfl);refine nx J4 (aq (aa λ_ J5=>fC (α:=Unit) (λ_u=>True) (λ_u=>[(0,(.pointer (some ⟨rb,0,none⟩))),(2,(.pointer (some ⟨b2,0,none⟩))),(3,(.bool false)),(4,(.pointer (some ⟨b4,0,none⟩))),(9,(.int .i64 (a1))),(10,(.bool ((eD a1))))]) (λ_u=>[am b4 (ints (MsgT.mk a1 0 RowT.zero 0 0 BallotT.zero BallotT.zero ChangeT.zero ViewT.zero).flat) 178,am rb [v1] 197,am b2 (ints MsgT.zero.flat) 178]) (λ_u hinv=>?_) (λtl5=>?_)));have _:=hinv;refine ac J5 (TC.cond rfl (λh10=>?_) (λh10=>?_));refine sr λ_ J6=>PS ?_
 refine CP jQ (cZ rb v1 r1 (5)) (SM [1]) (λ_ d _=>(hf1).more d) (λcP HP hP=>?_) (λvR HR hR=>?_);obtain⟨vP,rfl,rfl,hpP⟩:=hP;refine az (aP (az (WK [0] (aT ?_))));exact⟨_,rfl,rfl,by simp[cM,ay hp1,bW hpP,h10, *]⟩;obtain⟨a2,r2,v2,rfl,rfl,hp2,ht2⟩:=hR;have hf2:=ht2 _ hf1;refine FA 1 bk aQ ?_;refine SS 1 aQ (aJ _) (MsgT.set_whose _ rfl _) ?_;refine nx J6 (sr λ_ J7=>PS ?_);refine CP J0 (uR rb v2 r2) ID (λ_ d _=>(hf2).more d) (λcP HP hP=>?_) (λvR HR hR=>?_);obtain⟨vP,rfl,rfl,hpP⟩:=hP;refine az (aP (az (WK [0] (aT ?_))));exact⟨_,rfl,rfl,by simp[cM,ay hp1,ay hp2,bW hpP,h10, *]⟩;obtain⟨a3,r3,v3,rfl,rfl,hp3,ht3⟩:=hR;have hf3:=ht3 _ hf2;refine FA 2 bk bg ?_;refine SP 1 bg ah aJ MsgT.wp_row ?_;refine nx J7 (aa λ_ J8=>D1 1 bp ?_);refine LY 0 bk cj aJ ?_;refine FD 1 2 bk bg ?_;refine ta 2 rfl (aO (vs:=ints a3.flat) rfl dV rfl bg rfl (λ_ h=>h.2.1) (ah a3) (mW (MsgT.mk a1 a2 a3 0 0 BallotT.zero BallotT.zero ChangeT.zero ViewT.zero) 0 rfl (by decide) (whole (ah a3)))) ?_;refine AL 3 ?_;refine CE Im (jo a3 (Bi hp3)) ID ?_;refine EN (AL 4 ?_);refine SW 2 cj aJ ?_;refine EN (PD 5 ?_);refine DN (ac J8 (aj (aL (af (RT 2 [0] bk cj (aJ _) ?_)))));exact⟨((MsgT.mk a1 a2 a3 0 0 BallotT.zero BallotT.zero ChangeT.zero ViewT.zero),(eH a3)),_,_,rfl,rfl,by simp[cM,pr,ay hp1,ay hp2,ay hp3,h10,MsgT.zero,RecT.zero, *],(ht1.trans (ht2.trans ht3))⟩;refine sr λ_ J9=>PS ?_
 refine ao ?_ ?_<;>intro h25;refine PS ?_;refine nx J9 (CY (ae (PS ?_)));refine CP qS (jO rb v1 r1) (SM [1]) (λ_ d _=>(hf1).more d) (λcP HP hP=>?_) (λvR HR hR=>?_);obtain⟨vP,rfl,rfl,hpP⟩:=hP;refine aP (az (WK [0] (aT ?_)));exact⟨_,rfl,rfl,by simp[cM,eD,fo,ay hp1,bW hpP,h10,h25, *]⟩;obtain⟨a2,r2,v2,rfl,rfl,hp2,ht2⟩:=hR;have hf2:=ht2 _ hf1;refine FA 176 bk aQ ?_;refine SS 1 aQ (aJ _) (MsgT.set_version _ rfl _) ?_;refine au (ag (ac J3 (sr λ_ J10=>LW 1 bk cj aJ ?_)));refine SW 2 cj aJ ?_;refine PS ?_;refine nx J10 (aj (RT 2 [0] bk cj (aJ _) ?_));exact⟨((MsgT.mk a1 0 RowT.zero a2 0 BallotT.zero BallotT.zero ChangeT.zero ViewT.zero),true),_,_,rfl,rfl,by simp[cM,eD,fo,pr,ay hp1,ay hp2,h10,h25,MsgT.zero,RecT.zero, *],(ht1.trans ht2)⟩;refine PS ?_;refine nx J9 (CN (aa λ_ J11=>fC (α:=Unit) (λ_u=>True) (λ_u=>[(0,(.pointer (some ⟨rb,0,none⟩))),(2,(.pointer (some ⟨b2,0,none⟩))),(3,(.bool false)),(4,(.pointer (some ⟨b4,0,none⟩))),(9,(.int .i64 (a1))),(29,(.bool ((fo a1))))]) (λ_u=>[am b4 (ints (MsgT.mk a1 0 RowT.zero 0 0 BallotT.zero BallotT.zero ChangeT.zero ViewT.zero).flat) 178,am rb [v1] 197,am b2 (ints MsgT.zero.flat) 178]) (λ_u hinv=>?_) (λtl11=>?_)));have _:=hinv;refine ac J11 (TC.cond rfl (λh29=>?_) (λh29=>?_));refine sr λ_ J12=>PS ?_
 refine CP qS (jO rb v1 r1) (SM [1]) (λ_ d _=>(hf1).more d) (λcP HP hP=>?_) (λvR HR hR=>?_);obtain⟨vP,rfl,rfl,hpP⟩:=hP;refine az (aP (az (WK [0] (aT ?_))));exact⟨_,rfl,rfl,by simp[cM,ay hp1,bW hpP,h10,h25,h29, *]⟩;obtain⟨a2,r2,v2,rfl,rfl,hp2,ht2⟩:=hR;have hf2:=ht2 _ hf1;refine FA 177 bk aQ ?_;refine SS 1 aQ (aJ _) (PQ _ rfl _) ?_;refine nx J12 (ae (PS ?_));refine CP Ad (kc rb v2 r2) ID (λ_ d _=>(hf2).more d) (λcP HP hP=>?_) (λvR HR hR=>?_);obtain⟨vP,rfl,rfl,hpP⟩:=hP;refine aP (az (WK [0] (aT ?_)));exact⟨_,rfl,rfl,by simp[cM,ay hp1,ay hp2,bW hpP,h10,h25,h29, *]⟩;obtain⟨a3,r3,v3,rfl,rfl,hp3,ht3⟩:=hR;have hf3:=ht3 _ hf2;refine FA 178 bk cI ?_;refine SP 1 cI ap aJ PP ?_;refine au (ag (ac J3 (sr λ_ J13=>LW 1 bk cj aJ ?_)));refine SW 2 cj aJ ?_;refine PS ?_;refine nx J13 (aj (RT 2 [0] bk cj (aJ _) ?_));exact⟨((MsgT.mk a1 0 RowT.zero 0 a2 a3 BallotT.zero ChangeT.zero ViewT.zero),true),_,_,rfl,rfl,by simp[cM,pr,ay hp1,ay hp2,ay hp3,h10,h25,h29,MsgT.zero,RecT.zero, *],(ht1.trans (ht2.trans ht3))⟩;refine sr λ_ J14=>PS ?_
 refine ao ?_ ?_<;>intro h39;refine PS ?_;refine nx J14 (CY (sr λ_ J15=>PS ?_));refine CP qS (jO rb v1 r1) (SM [1]) (λ_ d _=>(hf1).more d) (λcP HP hP=>?_) (λvR HR hR=>?_);obtain⟨vP,rfl,rfl,hpP⟩:=hP;refine az (aP (az (WK [0] (aT ?_))));exact⟨_,rfl,rfl,by simp[cM,eD,fo,ay hp1,bW hpP,h10,h25,h29,h39, *]⟩;obtain⟨a2,r2,v2,rfl,rfl,hp2,ht2⟩:=hR;have hf2:=ht2 _ hf1;refine FA 177 bk aQ ?_;refine SS 1 aQ (aJ _) (PQ _ rfl _) ?_;refine nx J15 (sr λ_ J16=>PS ?_);refine CP Ad (kc rb v2 r2) ID (λ_ d _=>(hf2).more d) (λcP HP hP=>?_) (λvR HR hR=>?_);obtain⟨vP,rfl,rfl,hpP⟩:=hP;refine az (aP (az (WK [0] (aT ?_))));exact⟨_,rfl,rfl,by simp[cM,eD,fo,ay hp1,ay hp2,bW hpP,h10,h25,h29,h39, *]⟩;obtain⟨a3,r3,v3,rfl,rfl,hp3,ht3⟩:=hR;have hf3:=ht3 _ hf2;refine FA 178 bk cI ?_;refine SP 1 cI ap aJ PP ?_;refine nx J16 (sr λ_ J17=>PS ?_);refine CP Ad (kc rb v3 r3) ID (λ_ d _=>(hf3).more d) (λcP HP hP=>?_) (λvR HR hR=>?_);obtain⟨vP,rfl,rfl,hpP⟩:=hP;refine az (aP (az (WK [0] (aT ?_))));exact⟨_,rfl,rfl,by simp[cM,eD,fo,ay hp1,ay hp2,ay hp3,bW hpP,h10,h25,h29,h39, *]⟩;obtain⟨a4,r4,v4,rfl,rfl,hp4,ht4⟩:=hR;have hf4:=ht4 _ hf3;refine FA 180 bk cI ?_;refine SP 1 cI ap aJ MsgT.wp_had ?_;refine nx J17 (ae (PS ?_));refine CP JZ (pO rb v4 r4) ID (λ_ d _=>(hf4).more d) (λcP HP hP=>?_) (λvR HR hR=>?_);obtain⟨vP,rfl,rfl,hpP⟩:=hP
 refine aP (az (WK [0] (aT ?_)));exact⟨_,rfl,rfl,by simp[cM,eD,fo,ay hp1,ay hp2,ay hp3,ay hp4,bW hpP,h10,h25,h29,h39, *]⟩;obtain⟨a5,r5,v5,rfl,rfl,hp5,ht5⟩:=hR;have hf5:=ht5 _ hf4;refine FA 182 bk gg ?_;refine SP 1 gg aM aJ PO ?_;refine au (ag (ac J3 (sr λ_ J18=>LW 1 bk cj aJ ?_)));refine SW 2 cj aJ ?_;refine PS ?_;refine nx J18 (aj (RT 2 [0] bk cj (aJ _) ?_));exact⟨((MsgT.mk a1 0 RowT.zero 0 a2 a3 a4 a5 ViewT.zero),true),_,_,rfl,rfl,by simp[cM,eD,fo,pr,ay hp1,ay hp2,ay hp3,ay hp4,ay hp5,h10,h25,h29,h39,MsgT.zero,RecT.zero, *],(ht1.trans (ht2.trans (ht3.trans (ht4.trans ht5))))⟩;refine PS ?_;refine nx J14 (CN (sr λ_ J19=>PS ?_));refine ao ?_ ?_<;>intro h53;refine PS ?_;refine nx J19 (CY (sr λ_ J20=>PS ?_));refine CP qS (jO rb v1 r1) (SM [1]) (λ_ d _=>(hf1).more d) (λcP HP hP=>?_) (λvR HR hR=>?_);obtain⟨vP,rfl,rfl,hpP⟩:=hP;refine az (aP (az (WK [0] (aT ?_))));exact⟨_,rfl,rfl,by simp[cM,eD,fo,ay hp1,bW hpP,h10,h25,h29,h39,h53, *]⟩;obtain⟨a2,r2,v2,rfl,rfl,hp2,ht2⟩:=hR;have hf2:=ht2 _ hf1;refine FA 177 bk aQ ?_;refine SS 1 aQ (aJ _) (PQ _ rfl _) ?_;refine nx J20 (sr λ_ J21=>PS ?_);refine CP Ad (kc rb v2 r2) ID (λ_ d _=>(hf2).more d) (λcP HP hP=>?_) (λvR HR hR=>?_);obtain⟨vP,rfl,rfl,hpP⟩:=hP;refine az (aP (az (WK [0] (aT ?_))));exact⟨_,rfl,rfl,by simp[cM,eD,fo,ay hp1,ay hp2,bW hpP,h10,h25,h29,h39,h53, *]⟩
 obtain⟨a3,r3,v3,rfl,rfl,hp3,ht3⟩:=hR;have hf3:=ht3 _ hf2;refine FA 178 bk cI ?_;refine SP 1 cI ap aJ PP ?_;refine nx J21 (ae (PS ?_));refine CP JZ (pO rb v3 r3) ID (λ_ d _=>(hf3).more d) (λcP HP hP=>?_) (λvR HR hR=>?_);obtain⟨vP,rfl,rfl,hpP⟩:=hP;refine aP (az (WK [0] (aT ?_)));exact⟨_,rfl,rfl,by simp[cM,eD,fo,ay hp1,ay hp2,ay hp3,bW hpP,h10,h25,h29,h39,h53, *]⟩;obtain⟨a4,r4,v4,rfl,rfl,hp4,ht4⟩:=hR;have hf4:=ht4 _ hf3;refine FA 182 bk gg ?_;refine SP 1 gg aM aJ PO ?_;refine au (ag (ac J3 (sr λ_ J22=>LW 1 bk cj aJ ?_)));refine SW 2 cj aJ ?_;refine PS ?_;refine nx J22 (aj (RT 2 [0] bk cj (aJ _) ?_));exact⟨((MsgT.mk a1 0 RowT.zero 0 a2 a3 BallotT.zero a4 ViewT.zero),true),_,_,rfl,rfl,by simp[cM,eD,fo,pr,ay hp1,ay hp2,ay hp3,ay hp4,h10,h25,h29,h39,h53,MsgT.zero,RecT.zero, *],(ht1.trans (ht2.trans (ht3.trans ht4)))⟩;refine PS ?_;refine nx J19 (CN (sr λ_ J23=>PS ?_));refine ao ?_ ?_<;>intro h64;refine PS ?_;refine nx J23 (CY (sr λ_ J24=>PS ?_));refine CP JY (sh rb v1 r1) (SM [1]) (λ_ d _=>(hf1).more d) (λcP HP hP=>?_) (λvR HR hR=>?_);obtain⟨vP,rfl,rfl,hpP⟩:=hP;refine az (aP (az (WK [0] (aT ?_))));exact⟨_,rfl,rfl,by simp[cM,eD,fo,ay hp1,bW hpP,h10,h25,h29,h39,h53,h64, *]⟩;obtain⟨a2,r2,v2,rfl,rfl,hp2,ht2⟩:=hR;have hf2:=ht2 _ hf1;refine FA 185 bk bm ?_;refine SP 1 bm an aJ MsgT.wp_view ?_;refine nx J24 (aa λ_ J25=>D1 1 bp ?_)
 refine LY 0 bk cj aJ ?_;refine FD 1 185 bk bm ?_;refine ta 2 rfl (aO (vs:=ints a2.flat) rfl eX rfl bm rfl (λ_ h=>h.2.1) (an a2) (wG (MsgT.mk a1 0 RowT.zero 0 0 BallotT.zero BallotT.zero ChangeT.zero a2) 0 rfl (by decide) (whole (an a2)))) ?_;refine AL 3 ?_;refine CE NQ (nH a2 (th hp2)) ID ?_;refine EN (AL 4 ?_);refine SW 2 cj aJ ?_;refine EN (PD 5 ?_);refine DN (ac J25 (aj (aL (af (RT 2 [0] bk cj (aJ _) ?_)))));exact⟨((MsgT.mk a1 0 RowT.zero 0 0 BallotT.zero BallotT.zero ChangeT.zero a2),(kp a2)),_,_,rfl,rfl,by simp[cM,eD,fo,pr,ay hp1,ay hp2,h10,h25,h29,h39,h53,h64,MsgT.zero,RecT.zero, *],(ht1.trans ht2)⟩;refine PS ?_;refine nx J23 (CN (sr λ_ J26=>PS ?_));refine ao ?_ ?_<;>intro h73;refine PS ?_;refine nx J26 (CY (sr λ_ J27=>PS ?_));refine CP jQ (cZ rb v1 r1 (5)) (SM [1]) (λ_ d _=>(hf1).more d) (λcP HP hP=>?_) (λvR HR hR=>?_);obtain⟨vP,rfl,rfl,hpP⟩:=hP;refine az (aP (az (WK [0] (aT ?_))));exact⟨_,rfl,rfl,by simp[cM,eD,fo,ay hp1,bW hpP,h10,h25,h29,h39,h53,h64,h73, *]⟩;obtain⟨a2,r2,v2,rfl,rfl,hp2,ht2⟩:=hR;have hf2:=ht2 _ hf1;refine FA 1 bk aQ ?_;refine SS 1 aQ (aJ _) (MsgT.set_whose _ rfl _) ?_;refine nx J27 (sr λ_ J28=>PS ?_);refine CP JY (sh rb v2 r2) ID (λ_ d _=>(hf2).more d) (λcP HP hP=>?_) (λvR HR hR=>?_);obtain⟨vP,rfl,rfl,hpP⟩:=hP;refine az (aP (az (WK [0] (aT ?_))))
 exact⟨_,rfl,rfl,by simp[cM,eD,fo,ay hp1,ay hp2,bW hpP,h10,h25,h29,h39,h53,h64,h73, *]⟩;obtain⟨a3,r3,v3,rfl,rfl,hp3,ht3⟩:=hR;have hf3:=ht3 _ hf2;refine FA 185 bk bm ?_;refine SP 1 bm an aJ MsgT.wp_view ?_;refine nx J28 (aa λ_ J29=>D1 1 bp ?_);refine LY 0 bk cj aJ ?_;refine FD 1 185 bk bm ?_;refine ta 2 rfl (aO (vs:=ints a3.flat) rfl eX rfl bm rfl (λ_ h=>h.2.1) (an a3) (wG (MsgT.mk a1 a2 RowT.zero 0 0 BallotT.zero BallotT.zero ChangeT.zero a3) 0 rfl (by decide) (whole (an a3)))) ?_;refine AL 3 ?_;refine CE NQ (nH a3 (th hp3)) ID ?_;refine EN (AL 4 ?_);refine SW 2 cj aJ ?_;refine EN (PD 5 ?_);refine DN (ac J29 (aj (aL (af (RT 2 [0] bk cj (aJ _) ?_)))));exact⟨((MsgT.mk a1 a2 RowT.zero 0 0 BallotT.zero BallotT.zero ChangeT.zero a3),(kp a3)),_,_,rfl,rfl,by simp[cM,eD,fo,pr,ay hp1,ay hp2,ay hp3,h10,h25,h29,h39,h53,h64,h73,MsgT.zero,RecT.zero, *],(ht1.trans (ht2.trans ht3))⟩;refine PS ?_;refine nx J26 (CN (aU (ag (ac J3 (sr λ_ J30=>LW 0 bk cj aJ ?_)))));refine SW 2 cj aJ ?_;refine PS ?_;refine nx J30 (aj (RT 2 [1] bk cj (aJ _) ?_));exact⟨((MsgT.mk a1 0 RowT.zero 0 0 BallotT.zero BallotT.zero ChangeT.zero ViewT.zero),true),_,_,rfl,rfl,by simp[cM,pr,ay hp1,h10,h25,h29,h39,h53,h64,h73,MsgT.zero,RecT.zero, *],ht1⟩;refine sr λ_ J31=>P2 ?_
 refine ao ?_ ?_<;>intro h29;refine nx J31 (CY (aU ?_))
 exact aF
  (aS (aS (aS (aS (aS (bv rfl (by simp[fo, *]) SB))))))
  (λ_ s=>s)
  (tl11 (():Unit) trivial)
 refine nx J31 (CN (ae (PS ?_)));refine ao ?_ ?_<;>intro h31;refine PS ?_;refine au ?_
 exact aF
  (aS (aS (aS (aS (aS (bv rfl (by simp[fo, *]) SB))))))
  (λ_ s=>s)
  (tl11 (():Unit) trivial)
 refine PS ?_;refine au ?_
 exact aF
  (aS (aS (aS (aS (aS (bv rfl (by simp[fo, *]) SB))))))
  (λ_ s=>s)
  (tl11 (():Unit) trivial)
 refine sr λ_ J32=>P2 ?_
 refine ao ?_ ?_<;>intro h10;refine nx J32 (CY (aU ?_))
 exact aF
  (aS (aS (aS (aS (aS (bv rfl (by simp[eD, *]) SB))))))
  (λ_ s=>s)
  (tl5 (():Unit) trivial)
 refine nx J32 (CN (sr λ_ J33=>P2 ?_));refine ao ?_ ?_<;>intro h10;refine nx J33 (CY (aU ?_))
 exact aF
  (aS (aS (aS (aS (aS (bv rfl (by simp[eD, *]) SB))))))
  (λ_ s=>s)
  (tl5 (():Unit) trivial)
 refine nx J33 (CN (ae (PS ?_)));refine ao ?_ ?_<;>intro h13;refine PS ?_;refine au ?_
 exact aF
  (aS (aS (aS (aS (aS (bv rfl (by simp[eD, *]) SB))))))
  (λ_ s=>s)
  (tl5 (():Unit) trivial)
 refine PS ?_;refine au ?_
 exact aF
  (aS (aS (aS (aS (aS (bv rfl (by simp[eD, *]) SB))))))
  (λ_ s=>s)
  (tl5 (():Unit) trivial)
theorem Bn(rb:Nat)(v:Value)(bs:List UInt8):
 DT 83 #[(.pointer (some ⟨rb,0,none⟩))] (IsB v bs) [am rb [v] 197] (oR 197 iW (λmb:RecT×Bool=> .tuple #[.agg (ints mb.1.flat).toArray, .bool mb.2]) di v bs rb):=by
 refine BD 65 Tryz.func83 rfl rfl rfl λw0 F hF=>sr λ_ J1=>XZ Oi (ints RecT.zero.flat) λb2=>?_
 refine PS ?_;refine nx J1 (sr λ_ J2=>PS ?_);refine CP jQ (cZ rb v bs (6)) (SM [1]) (λ_ d _=>(hF).more d) (λcP HP hP=>?_) (λvR HR hR=>?_);obtain⟨vP,rfl,rfl,hpP⟩:=hP;refine az (WK [0] (aT ?_));exact⟨_,rfl,rfl,by simp[di,eD,fo,bW hpP, *]⟩;obtain⟨a1,r1,v1,rfl,rfl,hp1,ht1⟩:=hR;have hf1:=ht1 _ hF;refine tp (lY RecT.zero (RecT.mk a1 0 RowT.zero 0 BallotT.zero ChangeT.zero ViewT.zero) [(0,[Value.int .i64 a1])] jD fD (g:=RecT.sg)) ?_;refine XZ Oi (ints RecT.zero.flat) λb4=>?_
 refine SW 0 jK bw ?_;refine nx J2 (aa λ_ J3=>sr λ_ J4=>FA 0 jD aQ ?_);refine LT 0 Y3 (.int .i64 (a1)) ?_ (hc:=by exact lj _ rfl);refine nx J4 (aq (sr λ_ J5=>PS ?_));refine ao ?_ ?_<;>intro h11;refine PS ?_;refine nx J5 (CY (sr λ_ J6=>PS ?_));refine CP J0 (uR rb v1 r1) (SM [1]) (λ_ d _=>(hf1).more d) (λcP HP hP=>?_) (λvR HR hR=>?_);obtain⟨vP,rfl,rfl,hpP⟩:=hP;refine az (aP (az (WK [0] (aT ?_))));exact⟨_,rfl,rfl,by simp[di,eD,fo,ay hp1,bW hpP,h11, *]⟩;obtain⟨a2,r2,v2,rfl,rfl,hp2,ht2⟩:=hR;have hf2:=ht2 _ hf1;refine FA 2 jD bg ?_;refine SP 1 bg ah bw RecT.wp_row ?_;refine nx J6 (aa λ_ J7=>D1 1 bp ?_);refine LY 0 jD jK bw ?_;refine FD 1 2 jD bg ?_;refine ta 2 rfl (aO (vs:=ints a2.flat) rfl dV rfl bg rfl (λ_ h=>h.2.1) (ah a2) (sR (RecT.mk a1 0 a2 0 BallotT.zero ChangeT.zero ViewT.zero) 0 rfl (by decide) (whole (ah a2)))) ?_;refine AL 3 ?_;refine CE Im (jo a2 (Bi hp2)) ID ?_;refine EN (AL 4 ?_);refine SW 2 jK bw ?_;refine EN (PD 5 ?_);refine DN (ac J7 (aj (aL (af (RT 2 [0] jD jK (bw _) ?_)))));exact⟨((RecT.mk a1 0 a2 0 BallotT.zero ChangeT.zero ViewT.zero),(eH a2)),_,_,rfl,rfl,by simp[di,eD,fo,pr,ay hp1,ay hp2,h11,MsgT.zero,RecT.zero, *],(ht1.trans ht2)⟩;refine PS ?_;refine nx J5 (CN (sr λ_ J8=>PS ?_));refine ao ?_ ?_<;>intro h20;refine PS ?_;refine nx J8 (CY (sr λ_ J9=>PS ?_))
 refine CP jQ (cZ rb v1 r1 (5)) (SM [1]) (λ_ d _=>(hf1).more d) (λcP HP hP=>?_) (λvR HR hR=>?_);obtain⟨vP,rfl,rfl,hpP⟩:=hP;refine az (aP (az (WK [0] (aT ?_))));exact⟨_,rfl,rfl,by simp[di,eD,fo,ay hp1,bW hpP,h11,h20, *]⟩;obtain⟨a2,r2,v2,rfl,rfl,hp2,ht2⟩:=hR;have hf2:=ht2 _ hf1;refine FA 1 jD aQ ?_;refine SS 1 aQ (bw _) (RecT.set_whose _ rfl _) ?_;refine nx J9 (sr λ_ J10=>PS ?_);refine CP J0 (uR rb v2 r2) ID (λ_ d _=>(hf2).more d) (λcP HP hP=>?_) (λvR HR hR=>?_);obtain⟨vP,rfl,rfl,hpP⟩:=hP;refine az (aP (az (WK [0] (aT ?_))));exact⟨_,rfl,rfl,by simp[di,eD,fo,ay hp1,ay hp2,bW hpP,h11,h20, *]⟩;obtain⟨a3,r3,v3,rfl,rfl,hp3,ht3⟩:=hR;have hf3:=ht3 _ hf2;refine FA 2 jD bg ?_;refine SP 1 bg ah bw RecT.wp_row ?_;refine nx J10 (aa λ_ J11=>D1 1 bp ?_);refine LY 0 jD jK bw ?_;refine FD 1 2 jD bg ?_;refine ta 2 rfl (aO (vs:=ints a3.flat) rfl dV rfl bg rfl (λ_ h=>h.2.1) (ah a3) (sR (RecT.mk a1 a2 a3 0 BallotT.zero ChangeT.zero ViewT.zero) 0 rfl (by decide) (whole (ah a3)))) ?_;refine AL 3 ?_;refine CE Im (jo a3 (Bi hp3)) ID ?_;refine EN (AL 4 ?_);refine SW 2 jK bw ?_;refine EN (PD 5 ?_);refine DN (ac J11 (aj (aL (af (RT 2 [0] jD jK (bw _) ?_)))));exact⟨((RecT.mk a1 a2 a3 0 BallotT.zero ChangeT.zero ViewT.zero),(eH a3)),_,_,rfl,rfl,by simp[di,eD,fo,pr,ay hp1,ay hp2,ay hp3,h11,h20,MsgT.zero,RecT.zero, *],(ht1.trans (ht2.trans ht3))⟩;refine PS ?_
 refine nx J8 (CN (sr λ_ J12=>PS ?_));refine ao ?_ ?_<;>intro h32;refine PS ?_;refine nx J12 (CY (ae (PS ?_)));refine CP jQ (cZ rb v1 r1 (5)) (SM [1]) (λ_ d _=>(hf1).more d) (λcP HP hP=>?_) (λvR HR hR=>?_);obtain⟨vP,rfl,rfl,hpP⟩:=hP;refine aP (az (WK [0] (aT ?_)));exact⟨_,rfl,rfl,by simp[di,eD,fo,ay hp1,bW hpP,h11,h20,h32, *]⟩;obtain⟨a2,r2,v2,rfl,rfl,hp2,ht2⟩:=hR;have hf2:=ht2 _ hf1;refine FA 1 jD aQ ?_;refine SS 1 aQ (bw _) (RecT.set_whose _ rfl _) ?_;refine au (ag (ac J3 (sr λ_ J13=>LW 1 jD jK bw ?_)));refine SW 2 jK bw ?_;refine PS ?_;refine nx J13 (aj (RT 2 [0] jD jK (bw _) ?_));exact⟨((RecT.mk a1 a2 RowT.zero 0 BallotT.zero ChangeT.zero ViewT.zero),true),_,_,rfl,rfl,by simp[di,eD,fo,pr,ay hp1,ay hp2,h11,h20,h32,MsgT.zero,RecT.zero, *],(ht1.trans ht2)⟩;refine PS ?_;refine nx J12 (CN (sr λ_ J14=>PS ?_));refine ao ?_ ?_<;>intro h37;refine PS ?_;refine nx J14 (CY (sr λ_ J15=>PS ?_));refine CP qS (jO rb v1 r1) (SM [1]) (λ_ d _=>(hf1).more d) (λcP HP hP=>?_) (λvR HR hR=>?_);obtain⟨vP,rfl,rfl,hpP⟩:=hP;refine az (aP (az (WK [0] (aT ?_))));exact⟨_,rfl,rfl,by simp[di,eD,fo,ay hp1,bW hpP,h11,h20,h32,h37, *]⟩;obtain⟨a2,r2,v2,rfl,rfl,hp2,ht2⟩:=hR;have hf2:=ht2 _ hf1;refine FA 176 jD aQ ?_;refine SS 1 aQ (bw _) (RecT.set_epoch _ rfl _) ?_;refine nx J15 (ae (PS ?_))
 refine CP Ad (kc rb v2 r2) ID (λ_ d _=>(hf2).more d) (λcP HP hP=>?_) (λvR HR hR=>?_);obtain⟨vP,rfl,rfl,hpP⟩:=hP;refine aP (az (WK [0] (aT ?_)));exact⟨_,rfl,rfl,by simp[di,eD,fo,ay hp1,ay hp2,bW hpP,h11,h20,h32,h37, *]⟩;obtain⟨a3,r3,v3,rfl,rfl,hp3,ht3⟩:=hR;have hf3:=ht3 _ hf2;refine FA 177 jD cI ?_;refine SP 1 cI ap bw RecT.wp_ballot ?_;refine au (ag (ac J3 (sr λ_ J16=>LW 1 jD jK bw ?_)));refine SW 2 jK bw ?_;refine PS ?_;refine nx J16 (aj (RT 2 [0] jD jK (bw _) ?_));exact⟨((RecT.mk a1 0 RowT.zero a2 a3 ChangeT.zero ViewT.zero),true),_,_,rfl,rfl,by simp[di,eD,fo,pr,ay hp1,ay hp2,ay hp3,h11,h20,h32,h37,MsgT.zero,RecT.zero, *],(ht1.trans (ht2.trans ht3))⟩;refine PS ?_;refine nx J14 (CN (sr λ_ J17=>PS ?_));refine ao ?_ ?_<;>intro h45;refine PS ?_;refine nx J17 (CY (sr λ_ J18=>PS ?_));refine CP qS (jO rb v1 r1) (SM [1]) (λ_ d _=>(hf1).more d) (λcP HP hP=>?_) (λvR HR hR=>?_);obtain⟨vP,rfl,rfl,hpP⟩:=hP;refine az (aP (az (WK [0] (aT ?_))));exact⟨_,rfl,rfl,by simp[di,eD,fo,ay hp1,bW hpP,h11,h20,h32,h37,h45, *]⟩;obtain⟨a2,r2,v2,rfl,rfl,hp2,ht2⟩:=hR;have hf2:=ht2 _ hf1;refine FA 176 jD aQ ?_;refine SS 1 aQ (bw _) (RecT.set_epoch _ rfl _) ?_;refine nx J18 (sr λ_ J19=>PS ?_);refine CP Ad (kc rb v2 r2) ID (λ_ d _=>(hf2).more d) (λcP HP hP=>?_) (λvR HR hR=>?_);obtain⟨vP,rfl,rfl,hpP⟩:=hP;refine az (aP (az (WK [0] (aT ?_))))
 exact⟨_,rfl,rfl,by simp[di,eD,fo,ay hp1,ay hp2,bW hpP,h11,h20,h32,h37,h45, *]⟩;obtain⟨a3,r3,v3,rfl,rfl,hp3,ht3⟩:=hR;have hf3:=ht3 _ hf2;refine FA 177 jD cI ?_;refine SP 1 cI ap bw RecT.wp_ballot ?_;refine nx J19 (ae (PS ?_));refine CP JZ (pO rb v3 r3) ID (λ_ d _=>(hf3).more d) (λcP HP hP=>?_) (λvR HR hR=>?_);obtain⟨vP,rfl,rfl,hpP⟩:=hP;refine aP (az (WK [0] (aT ?_)));exact⟨_,rfl,rfl,by simp[di,eD,fo,ay hp1,ay hp2,ay hp3,bW hpP,h11,h20,h32,h37,h45, *]⟩;obtain⟨a4,r4,v4,rfl,rfl,hp4,ht4⟩:=hR;have hf4:=ht4 _ hf3;refine FA 179 jD gg ?_;refine SP 1 gg aM bw RecT.wp_change ?_;refine au (ag (ac J3 (sr λ_ J20=>LW 1 jD jK bw ?_)));refine SW 2 jK bw ?_;refine PS ?_;refine nx J20 (aj (RT 2 [0] jD jK (bw _) ?_));exact⟨((RecT.mk a1 0 RowT.zero a2 a3 a4 ViewT.zero),true),_,_,rfl,rfl,by simp[di,eD,fo,pr,ay hp1,ay hp2,ay hp3,ay hp4,h11,h20,h32,h37,h45,MsgT.zero,RecT.zero, *],(ht1.trans (ht2.trans (ht3.trans ht4)))⟩;refine PS ?_;refine nx J17 (CN (sr λ_ J21=>PS ?_));refine ao ?_ ?_<;>intro h56;refine PS ?_;refine nx J21 (CY (sr λ_ J22=>PS ?_));refine CP JY (sh rb v1 r1) (SM [1]) (λ_ d _=>(hf1).more d) (λcP HP hP=>?_) (λvR HR hR=>?_);obtain⟨vP,rfl,rfl,hpP⟩:=hP;refine az (aP (az (WK [0] (aT ?_))));exact⟨_,rfl,rfl,by simp[di,eD,fo,ay hp1,bW hpP,h11,h20,h32,h37,h45,h56, *]⟩;obtain⟨a2,r2,v2,rfl,rfl,hp2,ht2⟩:=hR;have hf2:=ht2 _ hf1
 refine FA 182 jD bm ?_;refine SP 1 bm an bw RecT.wp_view ?_;refine nx J22 (aa λ_ J23=>D1 1 bp ?_);refine LY 0 jD jK bw ?_;refine FD 1 182 jD bm ?_;refine ta 2 rfl (aO (vs:=ints a2.flat) rfl eX rfl bm rfl (λ_ h=>h.2.1) (an a2) (Rc (RecT.mk a1 0 RowT.zero 0 BallotT.zero ChangeT.zero a2) 0 rfl (by decide) (whole (an a2)))) ?_;refine AL 3 ?_;refine CE NQ (nH a2 (th hp2)) ID ?_;refine EN (AL 4 ?_);refine SW 2 jK bw ?_;refine EN (PD 5 ?_);refine DN (ac J23 (aj (aL (af (RT 2 [0] jD jK (bw _) ?_)))));exact⟨((RecT.mk a1 0 RowT.zero 0 BallotT.zero ChangeT.zero a2),(kp a2)),_,_,rfl,rfl,by simp[di,eD,fo,pr,ay hp1,ay hp2,h11,h20,h32,h37,h45,h56,MsgT.zero,RecT.zero, *],(ht1.trans ht2)⟩;refine PS ?_;refine nx J21 (CN (aU (ag (ac J3 (sr λ_ J24=>LW 0 jD jK bw ?_)))));refine SW 2 jK bw ?_;refine PS ?_;refine nx J24 (aj (RT 2 [1] jD jK (bw _) ?_));exact⟨((RecT.mk a1 0 RowT.zero 0 BallotT.zero ChangeT.zero ViewT.zero),true),_,_,rfl,rfl,by simp[di,eD,fo,pr,ay hp1,h11,h20,h32,h37,h45,h56,MsgT.zero,RecT.zero, *],ht1⟩
theorem Fx(rb mb gb:Nat)(v:Value)(bs:List UInt8)(m0:MsgT)(g0:Bool):
 DT 141 #[(.pointer (some ⟨rb,0,none⟩)),(.pointer (some ⟨mb,0,none⟩)),(.pointer (some ⟨gb,0,none⟩))] (IsB v bs) [am rb [v] 197,am mb (ints m0.flat) 178,am gb [(.bool (g0))] 4] (wD (λ_ H=>∃x' r a,H=am rb [x'] 197::[am mb (ints a.1.flat) 178,am gb [.bool a.2] 4]∧Tail v bs x' r∧cM bs=some (a,r)) (λc H=>c=iW∧∃(x':Value) (_:Unit),H=am rb [x'] 197::[am mb (ints m0.flat) 178,am gb [.bool g0] 4]∧cM bs=none)):=by
 refine BD 9 Tryz.func141 rfl rfl rfl λw0 F hF=>ae (PS ?_)
 refine CP Pd (Bo rb v bs) ID (λ_ d _=>(hF).more d) (λcP HP hP=>?_) (λvR HR hR=>?_);obtain⟨vP,rfl,rfl,hpP⟩:=hP;exact WK [0,0,0] (aT ⟨rfl,_,(),rfl,hpP⟩);obtain⟨a1,r1,v1,rfl,rfl,hp1,ht1⟩:=hR;refine P3 ?_;refine SW 1 cj aJ ?_;refine S0 2 lP ?_;exact au (WK [0,0,0] (bG rfl ⟨_,_,_,rfl,ht1,hp1⟩))
theorem D9(x:Value)(bs:List UInt8):
 DT 104 #[x] (IsB x bs) [] (RI (.tuple #[.agg (ints (eT bs).1.flat).toArray, .int .i64 (eT bs).2]) []):=by
 refine Leg.Does.body (vs:=[x]) (n:=18) Tryz.func104 rfl rfl rfl (λw0 F hF=>?_);refine sr λ_ J1=>?_
 refine rc (ab rfl) rfl rfl rfl m9 (λb2=>?_);change TL _ _ _ _ _ _ _ _ _ [am b2 (ints MsgT.zero.flat) 178];refine qq ?_;refine nx J1 ?_;clear J1;refine sr λ_ J2=>?_
 refine rc (ab rfl) rfl rfl rfl m9 (λb4=>?_);change TL _ _ _ _ _ _ _ _ _ [am b4 (ints MsgT.zero.flat) 178,am b2 (ints MsgT.zero.flat) 178];refine nx J2 ?_;clear J2;refine sr λ_ J3=>?_
 refine rc (ab rfl) rfl rfl rfl z4 (λb5=>?_);refine bI (i:=0) (ab rfl) rfl rfl rfl rfl rfl lP rfl rfl (lb rfl) rfl rfl ?_;refine nx J3 ?_;clear J3;refine sr λ_ J4=>?_
 refine mv ?_;refine tp (Rk rfl rfl) ?_;refine lL (ab rfl) rfl rfl rfl OF rfl (zV (bs:=bs) (C:=[am b4 (ints MsgT.zero.flat) 178,am b5 [(.bool false)] 4]) (caps:=[(.pointer (some ⟨b4,0,none⟩)),(.pointer (some ⟨b5,0,none⟩))]) (A:=λa:MsgT×Bool=>[am b4 (ints a.1.flat) 178,am b5 [.bool a.2] 4]) (G:=λ_:Unit=>[am b4 (ints MsgT.zero.flat) 178,am b5 [(.bool false)] 4]) (φ:=λa r=>cM bs=some (a,r)) (ψ:=λ_=>cM bs=none) (λ_ h=>h) (λ_ _ h d=>h.more d) Pe (λrb=>Fx rb b4 b5 x bs MsgT.zero false)) (λ_ s=>aD [1,0] rfl s) (λ_ d _=>(hF).more d) (λvR HR hR=>?_);rcases hR with⟨r,⟨m,g⟩,rfl,rfl,hs⟩| ⟨_,rfl,rfl,hs⟩
 refine ao (λh9=>?_) (λh9=>?_);refine qq ?_;refine nx J4 ?_;clear J4;refine aa λ_ J5=>?_
 refine sr λ_ J6=>?_
 refine mv ?_;refine tp (px (r:=false) rfl rfl rfl) ?_;refine mv ?_;refine tq (iI (v:=(.bool (g))) rfl Y4 rfl rfl (fE 1 rfl rfl) rfl) ?_;refine bf (λh13=>?_) (λh13=>?_);refine tq (px (r:=false) rfl rfl rfl) ?_;refine tp (zy rfl rfl rfl) ?_;refine nx J6 ?_;clear J6;refine Hb rfl ?_;refine aU ?_;refine ac J5 ?_;clear J5;refine sr λ_ J7=>?_
 refine tp (aO (vs:=ints m.flat) rfl bk rfl cj rfl (fE 0 rfl rfl) (aJ m) (whole (aJ m))) ?_;refine bO (vs:=ints m.flat) (i:=2) (ab rfl) rfl rfl rfl rfl rfl (by rw[(aJ m)];exact cj) (bF _) rfl rfl (by have h0:=(aJ MsgT.zero);have h1:=(aJ m);omega) (cy ((aJ MsgT.zero).trans (aJ m).symm)) rfl ?_;refine qq ?_;refine nx J7 ?_;clear J7;refine aj ?_;refine mG (H':=[]) rfl rfl rfl bk rfl cj (fE 2 rfl rfl) (aJ m) (λ_ s=>ak [] rfl s) ?_;exact⟨by simp[eT, *],rfl⟩;refine tq (px (r:=true) rfl rfl rfl) ?_;refine tp (zy rfl rfl rfl) ?_;refine nx J6 ?_;clear J6;refine oh rfl ?_;refine sr λ_ J8=>?_
 refine tp (kP (cells:=(ints MsgT.zero.flat).toArray) rfl rfl (by as_aux_lemma=>kernel_rfl)) ?_;refine bO (vs:=ints MsgT.zero.flat) (i:=2) (ab rfl) rfl rfl rfl rfl rfl (by rw[(aJ MsgT.zero)];exact cj) (bF _) rfl rfl (by have h0:=(aJ MsgT.zero);have h1:=(aJ MsgT.zero);omega) (cy ((aJ MsgT.zero).trans (aJ MsgT.zero).symm)) rfl ?_;refine qq ?_;refine nx J8 ?_;clear J8;refine aj ?_;refine af ?_;clear J5;refine mG (H':=[]) rfl rfl rfl bk rfl cj (fE 2 rfl rfl) (aJ MsgT.zero) (λ_ s=>ak [] rfl s) ?_;exact⟨by simp[eT, *],rfl⟩;refine qq ?_;refine nx J4 ?_;clear J4;refine aa λ_ J9=>?_
 refine sr λ_ J10=>?_
 refine mv ?_;refine tp (px (r:=true) rfl rfl rfl) ?_;refine mv ?_;refine ra (b:=true) rfl rfl rfl rfl (lb rfl) ?_;refine ra (b:=true) rfl rfl rfl rfl (lb rfl) ?_;refine tp (zy rfl rfl rfl) ?_;refine nx J10 ?_;clear J10;refine oh rfl ?_;refine sr λ_ J11=>?_
 refine tp (kP (cells:=(ints MsgT.zero.flat).toArray) rfl rfl (by as_aux_lemma=>kernel_rfl)) ?_;refine bO (vs:=ints MsgT.zero.flat) (i:=2) (ab rfl) rfl rfl rfl rfl rfl (by rw[(aJ MsgT.zero)];exact cj) (bF _) rfl rfl (by have h0:=(aJ MsgT.zero);have h1:=(aJ MsgT.zero);omega) (cy ((aJ MsgT.zero).trans (aJ MsgT.zero).symm)) rfl ?_;refine qq ?_;refine nx J11 ?_;clear J11;refine aj ?_;refine af ?_;clear J9;refine mG (H':=[]) rfl rfl rfl bk rfl cj (fE 2 rfl rfl) (aJ MsgT.zero) (λ_ s=>ak [] rfl s) ?_;exact⟨by simp[eT, *],rfl⟩;refine qq ?_;refine nx J4 ?_;clear J4;refine aa λ_ J12=>?_
 refine sr λ_ J13=>?_
 refine mv ?_;refine tp (px (r:=true) rfl rfl rfl) ?_;refine mv ?_;refine ra (b:=true) rfl rfl rfl rfl (lb rfl) ?_;refine ra (b:=true) rfl rfl rfl rfl (lb rfl) ?_;refine tp (zy rfl rfl rfl) ?_;refine nx J13 ?_;clear J13;refine oh rfl ?_;refine sr λ_ J14=>?_
 refine tp (kP (cells:=(ints MsgT.zero.flat).toArray) rfl rfl (by as_aux_lemma=>kernel_rfl)) ?_;refine bO (vs:=ints MsgT.zero.flat) (i:=2) (ab rfl) rfl rfl rfl rfl rfl (by rw[(aJ MsgT.zero)];exact cj) (bF _) rfl rfl (by have h0:=(aJ MsgT.zero);have h1:=(aJ MsgT.zero);omega) (cy ((aJ MsgT.zero).trans (aJ MsgT.zero).symm)) rfl ?_;refine qq ?_;refine nx J14 ?_;clear J14;refine aj ?_;refine af ?_;clear J12;refine mG (H':=[]) rfl rfl rfl bk rfl cj (fE 2 rfl rfl) (aJ MsgT.zero) (λ_ s=>ak [] rfl s) ?_;exact⟨by simp[eT, *],rfl⟩
theorem HO(rb mb gb:Nat)(v:Value)(bs:List UInt8)(m0:RecT)(g0:Bool):
 DT 82 #[(.pointer (some ⟨rb,0,none⟩)),(.pointer (some ⟨mb,0,none⟩)),(.pointer (some ⟨gb,0,none⟩))] (IsB v bs) [am rb [v] 197,am mb (ints m0.flat) 90,am gb [(.bool (g0))] 4] (wD (λ_ H=>∃x' r a,H=am rb [x'] 197::[am mb (ints a.1.flat) 90,am gb [.bool a.2] 4]∧Tail v bs x' r∧di bs=some (a,r)) (λc H=>c=iW∧∃(x':Value) (_:Unit),H=am rb [x'] 197::[am mb (ints m0.flat) 90,am gb [.bool g0] 4]∧di bs=none)):=by
 refine BD 9 Tryz.func82 rfl rfl rfl λw0 F hF=>ae (PS ?_)
 refine CP QD (Bn rb v bs) ID (λ_ d _=>(hF).more d) (λcP HP hP=>?_) (λvR HR hR=>?_);obtain⟨vP,rfl,rfl,hpP⟩:=hP;exact WK [0,0,0] (aT ⟨rfl,_,(),rfl,hpP⟩);obtain⟨a1,r1,v1,rfl,rfl,hp1,ht1⟩:=hR;refine P3 ?_;refine SW 1 jK bw ?_;refine S0 2 lP ?_;exact au (WK [0,0,0] (bG rfl ⟨_,_,_,rfl,ht1,hp1⟩))
theorem ww(x:Value)(bs:List UInt8):
 DT 49 #[x] (IsB x bs) [] (RI (.tuple #[.agg (ints (cW bs).1.flat).toArray, .int .i64 (cW bs).2]) []):=by
 refine Leg.Does.body (vs:=[x]) (n:=18) Tryz.func49 rfl rfl rfl (λw0 F hF=>?_);refine sr λ_ J1=>?_
 refine rc (ab rfl) rfl rfl rfl Oi (λb2=>?_);change TL _ _ _ _ _ _ _ _ _ [am b2 (ints RecT.zero.flat) 90];refine qq ?_;refine nx J1 ?_;clear J1;refine sr λ_ J2=>?_
 refine rc (ab rfl) rfl rfl rfl Oi (λb4=>?_);change TL _ _ _ _ _ _ _ _ _ [am b4 (ints RecT.zero.flat) 90,am b2 (ints RecT.zero.flat) 90];refine nx J2 ?_;clear J2;refine sr λ_ J3=>?_
 refine rc (ab rfl) rfl rfl rfl z4 (λb5=>?_);refine bI (i:=0) (ab rfl) rfl rfl rfl rfl rfl lP rfl rfl (lb rfl) rfl rfl ?_;refine nx J3 ?_;clear J3;refine sr λ_ J4=>?_
 refine mv ?_;refine tp (Rk rfl rfl) ?_;refine lL (ab rfl) rfl rfl rfl OF rfl (zV (bs:=bs) (C:=[am b4 (ints RecT.zero.flat) 90,am b5 [(.bool false)] 4]) (caps:=[(.pointer (some ⟨b4,0,none⟩)),(.pointer (some ⟨b5,0,none⟩))]) (A:=λa:RecT×Bool=>[am b4 (ints a.1.flat) 90,am b5 [.bool a.2] 4]) (G:=λ_:Unit=>[am b4 (ints RecT.zero.flat) 90,am b5 [(.bool false)] 4]) (φ:=λa r=>di bs=some (a,r)) (ψ:=λ_=>di bs=none) (λ_ h=>h) (λ_ _ h d=>h.more d) QE (λrb=>HO rb b4 b5 x bs RecT.zero false)) (λ_ s=>aD [1,0] rfl s) (λ_ d _=>(hF).more d) (λvR HR hR=>?_);rcases hR with⟨r,⟨m,g⟩,rfl,rfl,hs⟩| ⟨_,rfl,rfl,hs⟩
 refine ao (λh9=>?_) (λh9=>?_);refine qq ?_;refine nx J4 ?_;clear J4;refine aa λ_ J5=>?_
 refine sr λ_ J6=>?_
 refine mv ?_;refine tp (px (r:=false) rfl rfl rfl) ?_;refine mv ?_;refine tq (iI (v:=(.bool (g))) rfl Y4 rfl rfl (fE 1 rfl rfl) rfl) ?_;refine bf (λh13=>?_) (λh13=>?_);refine tq (px (r:=false) rfl rfl rfl) ?_;refine tp (zy rfl rfl rfl) ?_;refine nx J6 ?_;clear J6;refine Hb rfl ?_;refine aU ?_;refine ac J5 ?_;clear J5;refine sr λ_ J7=>?_
 refine tp (aO (vs:=ints m.flat) rfl jD rfl jK rfl (fE 0 rfl rfl) (bw m) (whole (bw m))) ?_;refine bO (vs:=ints m.flat) (i:=2) (ab rfl) rfl rfl rfl rfl rfl (by rw[(bw m)];exact jK) (bF _) rfl rfl (by have h0:=(bw RecT.zero);have h1:=(bw m);omega) (cy ((bw RecT.zero).trans (bw m).symm)) rfl ?_;refine qq ?_;refine nx J7 ?_;clear J7;refine aj ?_;refine mG (H':=[]) rfl rfl rfl jD rfl jK (fE 2 rfl rfl) (bw m) (λ_ s=>ak [] rfl s) ?_;exact⟨by simp[cW, *],rfl⟩;refine tq (px (r:=true) rfl rfl rfl) ?_;refine tp (zy rfl rfl rfl) ?_;refine nx J6 ?_;clear J6;refine oh rfl ?_;refine sr λ_ J8=>?_
 refine tp (kP (cells:=(ints RecT.zero.flat).toArray) rfl rfl (by as_aux_lemma=>kernel_rfl)) ?_;refine bO (vs:=ints RecT.zero.flat) (i:=2) (ab rfl) rfl rfl rfl rfl rfl (by rw[(bw RecT.zero)];exact jK) (bF _) rfl rfl (by have h0:=(bw RecT.zero);have h1:=(bw RecT.zero);omega) (cy ((bw RecT.zero).trans (bw RecT.zero).symm)) rfl ?_;refine qq ?_;refine nx J8 ?_;clear J8;refine aj ?_;refine af ?_;clear J5;refine mG (H':=[]) rfl rfl rfl jD rfl jK (fE 2 rfl rfl) (bw RecT.zero) (λ_ s=>ak [] rfl s) ?_;exact⟨by simp[cW, *],rfl⟩;refine qq ?_;refine nx J4 ?_;clear J4;refine aa λ_ J9=>?_
 refine sr λ_ J10=>?_
 refine mv ?_;refine tp (px (r:=true) rfl rfl rfl) ?_;refine mv ?_;refine ra (b:=true) rfl rfl rfl rfl (lb rfl) ?_;refine ra (b:=true) rfl rfl rfl rfl (lb rfl) ?_;refine tp (zy rfl rfl rfl) ?_;refine nx J10 ?_;clear J10;refine oh rfl ?_;refine sr λ_ J11=>?_
 refine tp (kP (cells:=(ints RecT.zero.flat).toArray) rfl rfl (by as_aux_lemma=>kernel_rfl)) ?_;refine bO (vs:=ints RecT.zero.flat) (i:=2) (ab rfl) rfl rfl rfl rfl rfl (by rw[(bw RecT.zero)];exact jK) (bF _) rfl rfl (by have h0:=(bw RecT.zero);have h1:=(bw RecT.zero);omega) (cy ((bw RecT.zero).trans (bw RecT.zero).symm)) rfl ?_;refine qq ?_;refine nx J11 ?_;clear J11;refine aj ?_;refine af ?_;clear J9;refine mG (H':=[]) rfl rfl rfl jD rfl jK (fE 2 rfl rfl) (bw RecT.zero) (λ_ s=>ak [] rfl s) ?_;exact⟨by simp[cW, *],rfl⟩;refine qq ?_;refine nx J4 ?_;clear J4;refine aa λ_ J12=>?_
 refine sr λ_ J13=>?_
 refine mv ?_;refine tp (px (r:=true) rfl rfl rfl) ?_;refine mv ?_;refine ra (b:=true) rfl rfl rfl rfl (lb rfl) ?_;refine ra (b:=true) rfl rfl rfl rfl (lb rfl) ?_;refine tp (zy rfl rfl rfl) ?_;refine nx J13 ?_;clear J13;refine oh rfl ?_;refine sr λ_ J14=>?_
 refine tp (kP (cells:=(ints RecT.zero.flat).toArray) rfl rfl (by as_aux_lemma=>kernel_rfl)) ?_;refine bO (vs:=ints RecT.zero.flat) (i:=2) (ab rfl) rfl rfl rfl rfl rfl (by rw[(bw RecT.zero)];exact jK) (bF _) rfl rfl (by have h0:=(bw RecT.zero);have h1:=(bw RecT.zero);omega) (cy ((bw RecT.zero).trans (bw RecT.zero).symm)) rfl ?_;refine qq ?_;refine nx J14 ?_;clear J14;refine aj ?_;refine af ?_;clear J12;refine mG (H':=[]) rfl rfl rfl jD rfl jK (fE 2 rfl rfl) (bw RecT.zero) (λ_ s=>ak [] rfl s) ?_;exact⟨by simp[cW, *],rfl⟩
end Go.Proofs.YtjblgopghhgflaaGreat
end

section
namespace Leg
open Go Codec Api
def WX(P:Program)(ops:Array Oper)(Q:QQ)(is:List Nat)(a:Act)(w:World):Prop:=
 ∀(b:Frame) (k:List Item) (cs:List Frame),∃e a' w',Q e a' w'∧Arrives P (lone (b.at a (.inRegion ops is::k)) cs w) b k cs e a' w'
theorem WX.nil{P:Program}{ops:Array Oper}{Q:QQ}{a:Act}{w:World}(h:Q .normal a w):WX P ops Q [] a w:=
 λ_ _ _=>⟨.normal,a,w,h, .one step_region_end⟩
theorem WX.region{P:Program}{id:Nat}{ops:Array Oper}{Q:QQ}{a:Act}{w:World}(h:WX P ops Q (List.range ops.size) a w):(Code.region id ops false).wp P Q a w:=
 λb k cs=>let ⟨e,a',w',q,r⟩:=h b k cs;⟨e,a',w',q, .of_steps (.one step_region) r⟩
section
variable {P:Program} {ops:Array Oper} {Q:QQ} {is:List Nat} {a:Act} {w:World} {i:Nat} {o:Oper}
theorem G9(b:Frame)(k:List Item)(ho:ops[i]?=some o)(a:Act)(v:Value):(b.at a (.inRegion ops (i::is)::k)).finish v=b.at (a.put o.dst v) (.inRegion ops is::k):=by rw[Frame.finish_at,ho];rfl
theorem WX.value{v:Value}{w1:World}(ho:ops[i]?=some o)(hw:Region.wanted o (yielded ops a.tmps)=true)(hr:(execOp a.eval o).run P w= .ok (.value v) w1)(h:WX P ops Q is (a.put o.dst v) w1):WX P ops Q (i::is) a w:=λb k cs=>by
 obtain⟨e,a',w',q,r⟩:=h b k cs;refine⟨e,a',w',q, .of_steps (.one (step_lone_go ?_)) r⟩;rw[stepG_op ho hw,←G9 b k ho];simp[stepG.apply,hr]
theorem WX.comm{v:Value}{w1 w2:World}{cases:Array CommCase}{blocking:Bool}{shape:CommShape}(ho:ops[i]?=some o)(hw:Region.wanted o (yielded ops a.tmps)=true)(hr:(execOp a.eval o).run P w= .ok (.comm cases blocking shape) w1)
 (hs: ∀fr cs es,stepG P true (Conc.G fr cs) w= .comm (Conc.G fr cs) cases blocking shape w1 es→step P (Conc.solo (Conc.G fr cs) w)= .next (Conc.solo (Conc.G (fr.finish v) cs) w2)) (h:WX P ops Q is (a.put o.dst v) w2):WX P ops Q (i::is) a w:=λb k cs=>by
 obtain⟨e,a',w',q,r⟩:=h b k cs;have h1:=stepG_op (P:=P) (b:=b) (k:=k) (cs:=cs) (w:=w) (rest:=is) ho hw
 have h2: ∃es,stepG P true (Conc.G (b.at a (.inRegion ops (i::is)::k)) cs) w= .comm (Conc.G (b.at a (.inRegion ops (i::is)::k)) cs) cases blocking shape w1 es:=by
  unfold Conc.G;rw[h1];simp only[stepG.apply,Sem.runT_eq,hr];exact⟨_,rfl⟩
 obtain⟨es,h2⟩:=h2;have h3:=hs _ _ _ h2;rw[G9 b k ho]at h3;exact⟨e,a',w',q, .of_steps (.one h3) r⟩
abbrev Oe:= @WX.comm
end
end Leg
namespace Leg
open Go Codec Api
section
variable (P:Program) (w0:World) (F:Hl) (n:Nat)
def TX(ops:Array Oper)(Q:QQ)(is:List Nat)(D:List Deferred)(L:List (Nat×Value))(H:List HP):Prop:=∀a w,Fr n D L a→Same w0 w→Sat H F w→WX P ops Q is a w
end
section
variable {P:Program} {w0:World} {F:Hl} {n:Nat} {ops:Array Oper} {Q:QQ} {is:List Nat} {D:List Deferred} {L:List (Nat×Value)} {H:List HP} {i d:Nat} {o:Oper}
theorem TC.regionX{id:Nat}{l:List Oper}(h:TX P w0 F n l.toArray Q (List.range l.length) D L H):TC P w0 F n (.region id l.toArray false) Q D L H:=
 λa w f s m=>WX.region (by simpa using h a w f s m)
abbrev zr:= @TC.regionX
theorem TX.nil(h:TE w0 F n Q .normal D L H):TX P w0 F n ops Q [] D L H:=λa w f s m=>WX.nil (h a w f s m)
abbrev Mv:= @TX.nil
theorem TX.v{v:Value}(ho:ops[i]?=some o)(hw:Want n D ops o L)(hd:o.dst=some d)(hn:Nat.blt d n=true)(h1:PV P n D L (Sat H F) o v)(h:TX P w0 F n ops Q is D ((d,v)::L) H):TX P w0 F n ops Q (i::is) D L H:=λa w f s m=>by
 refine WX.value ho (hw a f) (h1 a w f m) ?_;rw[hd];exact h _ _ (f.put (lb hn) _) s m
abbrev uu:= @TX.v
end
end Leg
namespace Leg
open Go Codec Api Go.Conc
section
variable {P:Program} {w0:World} {F:Hl} {n:Nat} {ops:Array Oper} {Q:QQ} {is:List Nat} {D:List Deferred} {L:List (Nat×Value)} {H:List HP} {i d:Nat} {o:Oper}
theorem Sat.chan{w:World}{c cap s r:Nat}{vs:List Value}(m:Sat H F w)(k:Nat)(hk:Nat.blt k H.length=true)(e:H.getD k (λ_=>True)=eA c cap vs s r):w.heap[c]?=some (.chan cap vs.toArray false s r false):=by
 obtain⟨h,d,e',x⟩:=m;obtain⟨h1,h2,d',rfl,a,_⟩:=fl k (lb hk) x;rw[e]at a
 have:hp w c=some (.chan cap vs.toArray false s r false):=by
  rw[e',jU];exact iz (by rw[show h1=sg c _ from a];simp[sg])
 exact this
theorem Sat.setChan{w:World}{c cap s r s' r':Nat}{vs vs':List Value}(m:Sat H F w)(k:Nat)(hk:Nat.blt k H.length=true)(e:H.getD k (λ_=>True)=eA c cap vs s r):Sat (H.set k (eA c cap vs' s' r')) F (w.setChan c cap vs'.toArray false s' r' false):=by
 have hc:=m.chan k hk e
 have hlt:c<w.heap.size:=by
  by_cases q:c<w.heap.size
  · exact q
  · rw[Array.getElem?_eq_none (by omega)]at hc;cases hc
 exact m.write k (lb hk) e (heap_setChan w c cap vs'.toArray false s' r' false hlt) (λj hj=>by simp[World.setChan,Array.getElem?_setIfInBounds,Ne.symm hj])
theorem Same.setChan{w w':World}(s:Same w w')(c cap:Nat)(b:Array Value)(cl:Bool)(x y:Nat)(t:Bool):Same w (w'.setChan c cap b cl x y t):=s.trans ⟨rfl,rfl,rfl,by simp[World.setChan]⟩
theorem tD{x:Operand}{so:Option Operand}{e:TypeId}{z:Value}{blocking:Bool}(ho:o.op= .select #[⟨x,so,e⟩] blocking)(hz:(P.info? e).map (·.zero)=some (some z))(ev:Operand→Value)(w:World):
 (execOp ev o).run P w= .ok (.comm #[{chan:=ev x,send:=so.map ev,zero:=z}] blocking .select) w:=by
 simp[execOp,ho,Sem.run_bind,pd hz]
theorem TX.sendRoom{x y:Operand}{e c cap s r:Nat}{z v:Value}{vs:List Value}(k:Nat)(ho:ops[i]?=some o)(hw:Want n D ops o L)(hop:o.op= .select #[⟨x,some y,e⟩] false)(hd:o.dst=some d)(hn:Nat.blt d n=true)(hz:(P.info? e).map (·.zero)=some (some z))
 (hx:cR L x=some (.chan (some c))) (hy:cR L y=some v) (hk:Nat.blt k H.length=true) (hH:H.getD k (λ_=>True)=eA c cap vs s r) (hroom:vs.length<cap)
 (h:TX P w0 F n ops Q is D ((d, .tuple #[.int .i64 0, .bool false])::L) (H.set k (eA c cap (vs++[v]) (s+1) r))):TX P w0 F n ops Q (i::is) D L H:=λa w f sm m=>by
 have hc:=m.chan k hk hH;have hr:=tD (P:=P) hop hz a.eval w;rw[f.eval hx]at hr;simp only[Option.map_some,f.eval hy]at hr;refine Oe (v:= .tuple #[.int .i64 0, .bool false]) (w2:=w.setChan c cap (vs++[v]).toArray false (s+1) r false) ho (hw a f) hr (λfr cs es hs=>?_) ?_
 · have:=step_lone_sel_send_room (k:=0) hs rfl (λj c' hj hjc=>by cases j with|zero=>exact absurd rfl hj|succ j=>simp at hjc) hc (by simpa using hroom)
   rw[this];simp[commResult,goInt]
 · rw[hd]
   exact h _ _ (f.put (lb hn) _) (sm.setChan ..) (m.setChan k hk hH)
theorem TX.sendFull{x y:Operand}{e c cap s r:Nat}{z v:Value}{vs:List Value}(k:Nat)(ho:ops[i]?=some o)(hw:Want n D ops o L)(hop:o.op= .select #[⟨x,some y,e⟩] false)(hd:o.dst=some d)(hn:Nat.blt d n=true)(hz:(P.info? e).map (·.zero)=some (some z))
 (hx:cR L x=some (.chan (some c))) (hy:cR L y=some v) (hk:Nat.blt k H.length=true) (hH:H.getD k (λ_=>True)=eA c cap vs s r) (hfull:cap≤vs.length)
 (h:TX P w0 F n ops Q is D ((d, .tuple #[.int .i64 (-1), .bool false])::L) H):TX P w0 F n ops Q (i::is) D L H:=λa w f sm m=>by
 have hc:=m.chan k hk hH;have hr:=tD (P:=P) hop hz a.eval w;rw[f.eval hx]at hr;simp only[Option.map_some,f.eval hy]at hr;refine Oe (v:= .tuple #[.int .i64 (-1), .bool false]) (w2:=w) ho (hw a f) hr (λfr cs es hs=>?_) ?_
 · have:=step_lone_sel_default hs (λcc hcc=>by
    obtain rfl:cc=scase c v z:=by simpa [scase]using hcc
    exact noWay_send hc (by simpa using hfull))
   rw[this];simp[commResult,goInt]
 · rw[hd]
   exact h _ _ (f.put (lb hn) _) sm m
theorem TX.recvBuf{x:Operand}{e c cap s r:Nat}{z v:Value}{vs:List Value}(k:Nat)(ho:ops[i]?=some o)(hw:Want n D ops o L)(hop:o.op= .select #[⟨x,none,e⟩] false)(hd:o.dst=some d)(hn:Nat.blt d n=true)(hz:(P.info? e).map (·.zero)=some (some z))
 (hx:cR L x=some (.chan (some c))) (hk:Nat.blt k H.length=true) (hH:H.getD k (λ_=>True)=eA c cap (v::vs) s r)
 (h:TX P w0 F n ops Q is D ((d, .tuple #[.int .i64 0, .bool true,v])::L) (H.set k (eA c cap vs s (r+1)))):TX P w0 F n ops Q (i::is) D L H:=λa w f sm m=>by
 have hc:=m.chan k hk hH;have hr:=tD (P:=P) hop hz a.eval w;rw[f.eval hx]at hr;simp only[Option.map_none]at hr;refine Oe (v:= .tuple #[.int .i64 0, .bool true,v]) (w2:=w.setChan c cap vs.toArray false s (r+1) false) ho (hw a f) hr (λfr cs es hs=>?_) ?_
 · have:=step_lone_sel_recv_buf (k:=0) hs rfl (λj c' hj hjc=>by cases j with|zero=>exact absurd rfl hj|succ j=>simp at hjc) hc (by simp)
   rw[this];simp[commResult,goInt]
 · rw[hd]
   exact h _ _ (f.put (lb hn) _) (sm.setChan ..) (m.setChan k hk hH)
theorem TX.recvNone{x:Operand}{e c cap s r:Nat}{z:Value}(k:Nat)(ho:ops[i]?=some o)(hw:Want n D ops o L)(hop:o.op= .select #[⟨x,none,e⟩] false)(hd:o.dst=some d)(hn:Nat.blt d n=true)(hz:(P.info? e).map (·.zero)=some (some z))
 (hx:cR L x=some (.chan (some c))) (hk:Nat.blt k H.length=true) (hH:H.getD k (λ_=>True)=eA c cap [] s r)
 (h:TX P w0 F n ops Q is D ((d, .tuple #[.int .i64 (-1), .bool false,z])::L) H):TX P w0 F n ops Q (i::is) D L H:=λa w f sm m=>by
 have hc:=m.chan k hk hH;have hr:=tD (P:=P) hop hz a.eval w;rw[f.eval hx]at hr;simp only[Option.map_none]at hr;refine Oe (v:= .tuple #[.int .i64 (-1), .bool false,z]) (w2:=w) ho (hw a f) hr (λfr cs es hs=>?_) ?_
 · have:=step_lone_sel_default hs (λcc hcc=>by
    obtain rfl:cc=rcase c z:=by simpa [rcase]using hcc
    exact noWay_recv hc)
   rw[this];simp[commResult,goInt]
 · rw[hd]
   exact h _ _ (f.put (lb hn) _) sm m
end
end Leg
namespace Leg
open Go Codec Api Go.Conc
section
variable {P:Program} {w0:World} {F:Hl} {n:Nat} {ops:Array Oper} {Q:QQ} {D:List Deferred} {L:List (Nat×Value)} {H:List HP} {d:Nat} {o:Oper}
theorem PV.lenChan{t e:TypeId}{dir:ChanDir}{x:Operand}{c cap s r:Nat}{vs:List Value}(k:Nat)(ho:o.op= .call {callee:= .builtin .len,args:=#[x],argTypes:=#[t]})(ht:P.underlying t=some (.chan dir e))(hx:cR L x=some (.chan (some c)))
 (hk:Nat.blt k H.length=true) (hH:H.getD k (λ_=>True)=eA c cap vs s r):PV P n D L (Sat H F) o (.int .i64 ((vs.length:Nat):Int)):=λa w f m=>by
 have hl:=Conc.run_len_chan (P:=P) (w:=w) (dir:=dir) (e:=e) t o.type ht (m.chan k hk hH);simp[execOp,ho,resolve,f.eval hx,invoke,builtin,hl,goInt]
theorem PV.capChan{t e:TypeId}{dir:ChanDir}{x:Operand}{c cap s r:Nat}{vs:List Value}(k:Nat)(ho:o.op= .call {callee:= .builtin .cap,args:=#[x],argTypes:=#[t]})(ht:P.underlying t=some (.chan dir e))(hx:cR L x=some (.chan (some c)))
 (hk:Nat.blt k H.length=true) (hH:H.getD k (λ_=>True)=eA c cap vs s r):PV P n D L (Sat H F) o (.int .i64 ((cap:Nat):Int)):=λa w f m=>by
 have hl:=Conc.run_cap_chan (P:=P) (w:=w) (dir:=dir) (e:=e) t o.type ht (m.chan k hk hH);simp[execOp,ho,resolve,f.eval hx,invoke,builtin,hl,goInt]
end
abbrev ir(T U b:Nat)(ls:List (List UInt8)):HP:=pack (λq:Nat×List Value×Nat×Nat=>[am b [.chan (some q.1)] T,eA q.1 8 q.2.1 q.2.2.1 q.2.2.2,eQ q.2.1 ls U])
def rS(T U:Nat)(bs:List Nat)(W:List (List (List UInt8)))(k:Nat):HP:=if k%6=0 then(λ_=>True)else ir T U (bs.getD k 0) (W.getD k [])
def qk(T U:Nat)(bs:List Nat)(W:List (List (List UInt8))):List HP:=(List.range 25).map (rS T U bs W)
def e5(T U:Nat)(bs:List Nat)(W:List (List (List UInt8))):HP:=bH (qk T U bs W)
def fV(T U:Nat)(bs:List Nat)(W:List (List (List UInt8)))(k:Nat):HP:=bH ((qk T U bs W).eraseIdx k)
def dN(bs:List Nat):List Value:=(List.range 25).map λk=>if k%6=0 then .pointer none else .pointer (some ⟨bs.getD k 0,0,none⟩)
theorem Di(bs:List Nat){k:Nat}(h:k<25):(dN bs)[k]?=some (if k%6=0 then .pointer none else .pointer (some ⟨bs.getD k 0,0,none⟩)):=by unfold dN;simp[h]
theorem zZ(bs:List Nat):(dN bs).length=25:=by simp[dN]
abbrev eO(NT T U n:Nat)(W:List (List (List UInt8))):HP:=pack (λbs:List Nat=>[am n (dN bs) NT,e5 T U bs W])
section
variable {T U:Nat} {bs:List Nat} {W:List (List (List UInt8))} {k:Nat} {H:List HP} {h:Hl}
theorem El:(qk T U bs W).length=25:=by simp[qk]
theorem yF(hk:k<25)(s:bH (e5 T U bs W::H) h):bH (rS T U bs W k::fV T U bs W k::H) h:=by
 have s1:bH (qk T U bs W++H) h:=(ck _ _).2 s;have e:(qk T U bs W).getD k (λ_=>True)=rS T U bs W k:=by simp[qk,List.getD_eq_getElem?_getD,hk]
 have p:=nS (λ_=>True) (qk T U bs W) k (by rw[El];exact hk);rw[e]at p;have s2:=eG (p.append_right H) s1;exact cO s2 (λ_ a=>a) λ_ b=>(ck _ _).1 b
theorem wj{W':List (List (List UInt8))}(hk:k<25)(hW: ∀j,j≠k→W'.getD j []=W.getD j [])(s:bH (rS T U bs W' k::fV T U bs W k::H) h):bH (e5 T U bs W'::H) h:=by
 have e0:(qk T U bs W').eraseIdx k=(qk T U bs W).eraseIdx k:=by
  refine List.ext_getElem? λj=>?_
  rw[List.getElem?_eraseIdx,List.getElem?_eraseIdx]
  have: ∀i,i≠k→(qk T U bs W')[i]?=(qk T U bs W)[i]?:=λi hi=>by
   simp only[qk,List.getElem?_map];cases q:(List.range 25)[i]?with
   |none=>rfl
   |some m=>
    have hm:m=i:=by
     by_cases hi25:i<25
     · simp[hi25]at q;exact q.symm
     · simp[hi25]at q
    subst hm;simp only[Option.map_some,rS,hW m hi]
  split
  · exact this j (by omega)
  · exact this (j+1) (by omega)
 have e:(qk T U bs W').getD k (λ_=>True)=rS T U bs W' k:=by simp[qk,List.getD_eq_getElem?_getD,hk]
 have p:=nS (λ_=>True) (qk T U bs W') k (by rw[El];exact hk);rw[e,e0]at p;have s2:bH ((rS T U bs W' k::(qk T U bs W).eraseIdx k)++H) h:=cO s (λ_ a=>a) λ_ b=>(ck _ _).2 b
 exact(ck _ _).1 (eG (p.symm.append_right H) s2)
end
def bC(from' to':Int):Nat:=from'.toNat*5+to'.toNat
def je(w:Int):Bool:=decide (0≤w∧w<5)
theorem Lk{f t:Int}(hf:je f=true)(ht:je t=true):bC f t<25:=by
 have h1:0≤f∧f<5:=of_decide_eq_true hf;have h2:0≤t∧t<5:=of_decide_eq_true ht;unfold bC;omega
theorem uG{f t:Int}(hf:je f=true)(ht:je t=true):bC f t%6=0↔f=t:=by
 have h1:0≤f∧f<5:=of_decide_eq_true hf;have h2:0≤t∧t<5:=of_decide_eq_true ht;unfold bC;omega
end Leg
end

section
namespace Wal
open Go Leg Codec Api Dsk
end Wal
namespace Leg
open Go Codec Api
end Leg
namespace Leg
open Go Codec Api
theorem rA{us:List Value}{ls:List (List UInt8)}{e:Nat}{H:List HP}{F:Hl}{w:World}(i:Nat)(hi:Nat.blt i H.length=true)(hH:H.getD i (λ_=>True)=eQ us ls e)(m:Sat H F w):us.length=ls.length∧∀u∈us,u.oneCell'=true:=by
 obtain⟨h,d,e',x⟩:=m;obtain⟨h1,h2,d',rfl,a,_⟩:=fl i (lb hi) x;rw[hH]at a;refine⟨a.1,λu hu=>?_⟩;obtain⟨j,hj,rfl⟩:=fM hu;obtain⟨u,e1,k1,k2,dk,rfl,a3⟩:=yE us ls e _ a.1 a.2 j (by rw[←a.1];exact hj);rw[List.getElem?_eq_getElem hj]at e1;injection e1 with e1
 rw[e1];exact(CD a3 (λb o q=>q):IsB u _ k1).one
section
variable {P:Program} {n:Nat} {D:List Deferred} {L:List (Nat×Value)} {S:World→Prop} {o:Oper}
end
end Leg
namespace Wal
open Go Leg Codec Api Dsk
end Wal
namespace Leg
open Go Codec Api
section
variable {P:Program} {n:Nat} {D:List Deferred} {L:List (Nat×Value)} {S:World→Prop} {o:Oper}
end
theorem IV{us:List Value}{ls:List (List UInt8)}{e:Nat}{u:Value}{l:List UInt8}{H:List HP}{h:Hl}(s:bH (eQ (u::us) (l::ls) e::H) h):bH (hY u l e::eQ us ls e::H) h:=by
 obtain⟨h1,h2,d,rfl,⟨hl,a⟩,b⟩:=s;obtain⟨g1,g2,d',rfl,a1,a2⟩:=a;exact nN.1 ⟨_,h2,d,rfl,⟨g1,g2,d',rfl,a1,⟨by simpa using hl,a2⟩⟩,b⟩
def Bq(ls:List (List UInt8))(bs:List UInt8):List (List UInt8):=if ls.length<8 then ls++[bs]else ls
def dx(f t:Int):Bool:=je f&&je t&& !decide (f=t)
def pU(W:List (List (List UInt8)))(f t:Int)(bs:List UInt8):List (List (List UInt8)):=if dx f t then W.set (bC f t) (Bq (W.getD (bC f t) []) bs)else W
theorem iZ{f t:Int}(h:dx f t=true):bC f t<25∧¬bC f t%6=0:=by
 unfold dx at h;rw[av,av]at h;refine⟨Lk h.1.1 h.1.2,λq=>?_⟩;have:=(uG h.1.1 h.1.2).1 q;rw[this]at h;simp at h
theorem rB{T U:Nat}{bs:List Nat}{W:List (List (List UInt8))}{k:Nat}(h: ¬k%6=0):rS T U bs W k=ir T U (bs.getD k 0) (W.getD k []):=by unfold rS;rw[if_neg h]
theorem oW{T U:Nat}{bs:List Nat}{W:List (List (List UInt8))}{f t:Int}(hv:dx f t=true){H:List HP}{h:Hl}(s:bH (e5 T U bs W::H) h):bH (ir T U (bs.getD (bC f t) 0) (W.getD (bC f t) [])::fV T U bs W (bC f t)::H) h:=by
 obtain⟨h1,h2⟩:=iZ hv;have:=yF h1 s
 rwa [rB h2]at this
theorem uF{T U:Nat}{bs:List Nat}{W:List (List (List UInt8))}{f t:Int}{ls:List (List UInt8)}(hv:dx f t=true)(hW:W.length=25){H:List HP}{h:Hl}(s:bH (ir T U (bs.getD (bC f t) 0) ls::fV T U bs W (bC f t)::H) h):bH (e5 T U bs (W.set (bC f t) ls)::H) h:=by
 obtain⟨h1,h2⟩:=iZ hv;refine wj (W:=W) h1 (λj hj=>?_) ?_
 · rw[List.getD_eq_getElem?_getD,List.getD_eq_getElem?_getD,List.getElem?_set_ne (λe=>hj e.symm)]
 · rw[rB h2,show(W.set (bC f t) ls).getD (bC f t) []=ls by rw[List.getD_eq_getElem?_getD,List.getElem?_set_self (by omega)];rfl]
   exact s
end Leg
namespace Leg
open Go Codec Api
def b8(w:Int):UInt8:=Wal.r8 w
theorem wR(w:Int):IntKind.u8.wrap w=(((b8 w).toNat:Nat):Int):=Wal.r8_wrap w
end Leg
end

section
namespace Go.Proofs.YtjblgopghhgflaaGreat
open Go Leg Codec Api Dsk Wal
theorem uk(b c s r:Nat)(us:List Value)(ls:List (List UInt8)):
 DT 100 #[(.pointer (some ⟨b,0,none⟩))] T0 [am b [(.chan (some c))] 208,eA c 8 (us) (s) (r),eQ (us) (ls) 5] (RI (.int .i64 ((ls.length:Nat):Int)) [am b [(.chan (some c))] 208,eA c 8 (us) (s) (r),eQ (us) (ls) 5]):=by
 refine BD 8 Tryz.func100 rfl rfl rfl λw0 F hF=>sr λ_ J1=>PS ?_
 refine nx J1 (sr λ_ J2=>zp (p:=us.length=ls.length) (λw m=>(rA 2 rfl rfl m).1) (λhul=>P2 ?_));refine FA 0 Er vB ?_;refine LA 0 wA ?_;refine tp (PV.lenChan 1 rfl wA rfl rfl rfl) ?_;refine PS ?_;refine nx J2 (aj (WK [0,0,0] (aw rfl rfl ?_)));exact⟨by rw[hul],rfl⟩
theorem jZ(b:Nat)(ls:List (List UInt8)):DT 100 #[.pointer (some ⟨b,0,none⟩)] T0 [ir 208 5 b ls] (RI (.int .i64 ((ls.length:Nat):Int)) [ir 208 5 b ls]):=
 Leg.Does.pack (B:=[]) λq=>Leg.Does.fold (uk b q.1 q.2.2.1 q.2.2.2 q.2.1 ls) λe H hp=>by
  cases e with
  |returned v=>
   obtain⟨rfl,rfl⟩:=hp;exact⟨_,λ_ s=>br (p:=λq:Nat×List Value×Nat×Nat=>[am b [.chan (some q.1)] 208,eA q.1 8 q.2.1 q.2.2.1 q.2.2.2,eQ q.2.1 ls 5]) (H:=[]) q s,rfl,rfl⟩
  |panicked c=>exact hp.elim
  |outgrown=>exact hp.elim
theorem B8(b c s r:Nat)(us:List Value)(ls:List (List UInt8))(x:Value)(bs:List UInt8)(hb:bs.length≤1000000):
 DT 138 #[(.pointer (some ⟨b,0,none⟩)),x] (IsW x bs) [am b [(.chan (some c))] 208,eA c 8 (us) (s) (r),eQ (us) (ls) 5] (dB (λv H=>(ls.length<8∧v= .bool true∧∃u,H=[am b [(.chan (some c))] 208,eA c 8 (us++[u]) (s+1) r,eQ us ls 5,ee u bs 5])∨(¬ls.length<8∧v= .bool false∧H=[am b [(.chan (some c))] 208,eA c 8 (us) (s) (r),eQ (us) (ls) 5]))):=by
 refine Leg.Does.body (vs:=[(.pointer (some ⟨b,0,none⟩)),x]) (n:=15) Tryz.func138 rfl rfl rfl (λw0 F hF=>?_);refine sr λ_ J1=>?_
 refine qq ?_;refine nx J1 ?_;refine aa λ_ J2=>?_
 refine sr λ_ J3=>?_
 refine zp (p:=us.length=ls.length) (λw m=>(rA 2 rfl rfl m).1) (λhul=>?_);refine mv ?_;refine tp (gH rfl rfl) ?_;refine tp (bc (r:=0) rfl Er rfl vB rfl rfl) ?_;refine tp (iI (v:=(.chan (some c))) rfl wA rfl rfl (fE 0 rfl rfl) rfl) ?_;refine nx J3 ?_;refine ae ?_;refine Et (ab rfl) rfl rfl rfl ic mg (λv9=>?_);change TL _ _ _ _ _ _ _ _ _ [ee v9 ([]) 5,am b [(.chan (some c))] 208,eA c 8 (us) (s) (r),eQ (us) (ls) 5];refine mv ?_;refine cS (k:=0) (news:=eB (bs)) (nn':=(bs:List UInt8).length) (xs':=eB (bs)) (ab rfl) rfl rfl rfl ic Ao rfl rfl rfl rfl rfl rfl (λ_ _=>hF.src (λ_ h=>fN h)) (fk _) (by simp only[maxLen,aE];omega) (by simp only[aE];omega) (by simp) (bb _) (λv11 ov11=>?_);change TL _ _ _ _ _ _ _ _ _ [ee v11 (bs) 5,am b [(.chan (some c))] 208,eA c 8 (us) (s) (r),eQ (us) (ls) 5];refine nx J2 ?_;refine aa λ_ J4=>?_
 refine zr ?_;change TX _ _ _ _ _ _ [0,1,2] _ _ _
 by_cases hroom:us.length<8
 refine TX.sendRoom 2 rfl (ab rfl) rfl rfl rfl Oa rfl rfl rfl rfl hroom ?_;change TX _ _ _ _ _ _ _ _ _ [ee v11 (bs) 5,am b [(.chan (some c))] 208,eA c 8 (us++[v11]) (s+1) (r),eQ (us) (ls) 5];refine uu rfl (ab rfl) rfl rfl (mJ (vs:=[(.int .i64 0),(.bool false)]) rfl rfl rfl) ?_;refine uu rfl (ab rfl) rfl rfl (PN rfl rfl rfl) ?_;refine Mv ?_;refine ac J4 ?_;refine aq ?_;refine oh rfl ?_;refine sr λ_ J5=>?_
 refine qq ?_;refine nx J5 ?_;refine aj ?_;refine aL ?_;refine aF (dE _) (λ_ s=>ak [1,1,1,0] rfl s) ?_;refine aw rfl rfl ?_;exact Or.inl ⟨by omega,rfl,_,rfl⟩;refine TX.sendFull 2 rfl (ab rfl) rfl rfl rfl Oa rfl rfl rfl rfl (by omega) ?_;refine uu rfl (ab rfl) rfl rfl (mJ (vs:=[(.int .i64 (-1)),(.bool false)]) rfl rfl rfl) ?_;refine uu rfl (ab rfl) rfl rfl (PN rfl rfl rfl) ?_;refine Mv ?_;refine ac J4 ?_;refine aq ?_;refine Hb rfl ?_;refine sr λ_ J6=>?_
 refine qq ?_;refine nx J6 ?_;refine aj ?_;refine aL ?_;refine aF (dE _) (λ_ s=>ak [1,1,1] rfl s) ?_;refine aw rfl rfl ?_;exact Or.inr ⟨by omega,rfl,rfl⟩
theorem wl(b:Nat)(ls:List (List UInt8))(x:Value)(bs:List UInt8)(hb:bs.length≤1000000):DT 138 #[.pointer (some ⟨b,0,none⟩),x] (IsW x bs) [ir 208 5 b ls] (RI (.bool (decide (ls.length<8))) [ir 208 5 b (Bq ls bs)]):=
 Leg.Does.pack (B:=[]) λq=>Leg.Does.fold (B8 b q.1 q.2.2.1 q.2.2.2 q.2.1 ls x bs hb) λe H hp=>by
  cases e with
  |returned v=>
   unfold Bq;rcases hp with⟨h8,rfl,u,rfl⟩| ⟨h8,rfl,rfl⟩
   · refine⟨[ir 208 5 b (ls++[bs])],λ_ s=>?_,by rw[decide_eq_true h8],by rw[if_pos h8]⟩
     have s1:=Bc 3 rfl rfl s;have s2:=aD [2,2] rfl s1;have s3:=vn s2;exact br (p:=λq:Nat×List Value×Nat×Nat=>[am b [.chan (some q.1)] 208,eA q.1 8 q.2.1 q.2.2.1 q.2.2.2,eQ q.2.1 (ls++[bs]) 5]) (H:=[]) (q.1,q.2.1++[u],q.2.2.1+1,q.2.2.2) (aD [1,1,0] rfl s3)
   · exact⟨[ir 208 5 b ls],λ_ s=>br (p:=λq:Nat×List Value×Nat×Nat=>[am b [.chan (some q.1)] 208,eA q.1 8 q.2.1 q.2.2.1 q.2.2.2,eQ q.2.1 ls 5]) (H:=[]) q s,by rw[decide_eq_false h8],by rw[if_neg h8]⟩
  |panicked c=>exact hp.elim
  |outgrown=>exact hp.elim
theorem zk(b c s r:Nat)(us:List Value)(ls:List (List UInt8)):
 DT 139 #[(.pointer (some ⟨b,0,none⟩))] T0 [am b [(.chan (some c))] 208,eA c 8 (us) (s) (r),eQ (us) (ls) 5] (dB (λv H=>(ls=[]∧v= .tuple #[.slice none 0 0, .bool false]∧H=[am b [(.chan (some c))] 208,eA c 8 [] s r,eQ [] ls 5])∨(∃u us' f ls',ls=f::ls'∧v= .tuple #[u, .bool true]∧H=[am b [(.chan (some c))] 208,eA c 8 us' s (r+1),eQ (u::us') (f::ls') 5]))):=by
 refine BD 14 Tryz.func139 rfl rfl rfl λw0 F hF=>sr λ_ J1=>P2 ?_
 refine nx J1 (sr λ_ J2=>zp (p:=us.length=ls.length) (λw m=>(rA 2 rfl rfl m).1) (λhul=>P2 ?_));refine FA 0 Er vB ?_;refine LA 0 wA ?_;refine nx J2 (aa λ_ J3=>zr ?_);rcases us with _| ⟨u,us⟩
 refine TX.recvNone 1 rfl (ab rfl) rfl rfl rfl Oa rfl rfl rfl (uu rfl (ab rfl) rfl rfl (mJ (vs:=[(.int .i64 (-1)),(.bool false),(.slice none 0 0)]) rfl rfl rfl) (uu rfl (ab rfl) rfl rfl (PN rfl rfl rfl) (Mv (ac J3 (aq (CN (sr λ_ J4=>P2 ?_)))))));exact nx J4 (aj (aL (WK [0,0,0] (jr rfl rfl rfl (Or.inl ⟨List.eq_nil_of_length_eq_zero hul.symm,rfl,rfl⟩)))));rcases ls with _| ⟨f,ls⟩
 · cases hul
 refine TX.recvBuf 1 rfl (ab rfl) rfl rfl rfl Oa rfl rfl rfl (uu rfl (ab rfl) rfl rfl (mJ (vs:=[(.int .i64 0),(.bool true),u]) rfl rfl rfl) (uu rfl (ab rfl) rfl rfl (PN rfl rfl rfl) (Mv (ac J3 (aq (CY (sr λ_ J5=>P2 ?_)))))));refine nx J5 (sr λ_ J6=>P3 ?_);exact nx J6 (aj (aL (WK [0,0,0] (jr rfl rfl rfl (Or.inr ⟨u,us,f,ls,rfl,rfl,rfl⟩)))))
theorem uj(b:Nat)(ls:List (List UInt8)):DT 139 #[.pointer (some ⟨b,0,none⟩)] T0 [ir 208 5 b ls] (dB (λv H=>(ls=[]∧v= .tuple #[.slice none 0 0, .bool false]∧H=[ir 208 5 b []])∨(∃u f ls',ls=f::ls'∧v= .tuple #[u, .bool true]∧H=[ir 208 5 b ls',hY u f 5]))):=
 Leg.Does.pack (B:=[]) λq=>Leg.Does.fold (zk b q.1 q.2.2.1 q.2.2.2 q.2.1 ls) λe H hp=>by
  cases e with
  |returned v=>
   rcases hp with⟨rfl,rfl,rfl⟩| ⟨u,us',f,ls',rfl,rfl,rfl⟩
   · exact⟨[ir 208 5 b []],λ_ s=>br (p:=λq:Nat×List Value×Nat×Nat=>[am b [.chan (some q.1)] 208,eA q.1 8 q.2.1 q.2.2.1 q.2.2.2,eQ q.2.1 [] 5]) (H:=[]) (q.1,[],q.2.2.1,q.2.2.2) s,Or.inl ⟨rfl,rfl,rfl⟩⟩
   · refine⟨[ir 208 5 b ls',hY u f 5],λ_ s=>?_,Or.inr ⟨u,f,ls',rfl,rfl,rfl⟩⟩
     have s1:=aD [2] rfl s;have s2:=IV s1;exact br (p:=λq:Nat×List Value×Nat×Nat=>[am b [.chan (some q.1)] 208,eA q.1 8 q.2.1 q.2.2.1 q.2.2.2,eQ q.2.1 ls' 5]) (H:=[hY u f 5]) (q.1,us',q.2.2.1,q.2.2.2+1) (aD [2,2,1,0] rfl s2)
  |panicked c=>exact hp.elim
  |outgrown=>exact hp.elim
theorem B9:
 DT 91 #[(.int .i64 8)] T0 [] (dB (λv H=>∃b c,v= .pointer (some ⟨b,0,none⟩)∧H=[am b [(.chan (some c))] 208,eA c 8 [] 0 0])):=by
 refine BD 9 Tryz.func91 rfl rfl rfl λw0 F hF=>sr λ_ J1=>PS ?_
 refine nx J1 (sr λ_ J2=>PS ?_);refine tp (Rj (v':=(.int .i64 8)) (sS rfl rfl rfl) rfl) ?_;refine tp (Rj (v':=(.int .i64 8)) (PV.minI rfl rfl rfl) rfl) ?_;refine TL.makeChan (k:=8) (bytes:=24) (ab rfl) rfl rfl rfl wA (by kernel_rfl) rfl (by omega) (by omega) (λc6=>BV #[(.chan (some c6))] ?_);refine XB λb8=>?_
 refine PS ?_;exact nx J2 (aj (WK [0,0] (aw rfl rfl ⟨b8,c6,rfl,rfl⟩)))
theorem Ek:DT 91 #[.int .i64 8] T0 [] (dB (λv H=>∃b,v= .pointer (some ⟨b,0,none⟩)∧H=[ir 208 5 b []])):=
 Leg.Does.fold B9 λe H hp=>by
  cases e with
  |returned v=>
   obtain⟨b,c,rfl,rfl⟩:=hp;exact⟨[ir 208 5 b []],λ_ s=>br (p:=λq:Nat×List Value×Nat×Nat=>[am b [.chan (some q.1)] 208,eA q.1 8 q.2.1 q.2.2.1 q.2.2.2,eQ q.2.1 [] 5]) (H:=[]) (c,[],0,0) (aD [1,1,0] rfl (AM s)),b,rfl,rfl⟩
  |panicked c=>exact hp.elim
  |outgrown=>exact hp.elim
theorem qb(w:Int):
 DT 137 #[(.int .i64 (w))] T0 [] (RI (.bool (je w)) []):=by
 refine BD 9 Tryz.func137 rfl rfl rfl λw0 F hF=>sr λ_ J1=>PS ?_
 refine nx J1 (sr λ_ J2=>P2 ?_);refine ao ?_ ?_<;>intro h4
 iterate 5 refine PS ?_
 refine nx J2 (aj (WK [] (aw rfl rfl ?_)));exact⟨congrArg Value.bool (by unfold je;simp only[decide_eq_decide];omega),rfl⟩;refine PS ?_;refine UF ?_;refine UF ?_;refine P2 ?_;refine nx J2 (aj (WK [] (aw rfl rfl ?_)));exact⟨congrArg Value.bool (by unfold je;symm;exact decide_eq_false (by omega)),rfl⟩
theorem nG(n:Nat)(bs:List Nat)(from' to':Int):
 DT 99 #[(.pointer (some ⟨n,0,none⟩)),(.int .i64 (from')),(.int .i64 (to'))] T0 [am n (dN bs) 156] (dB (λv H=>((dx from' to'=true∧v= .pointer (some ⟨(bs.getD (bC from' to') 0),0,none⟩))∨(dx from' to'=false∧v= .pointer none))∧H=[am n (dN bs) 156])):=by
 refine BD 23 Tryz.func99 rfl rfl rfl λw0 F hF=>sr λ_ J1=>PS ?_
 refine nx J1 (aa λ_ J2=>sr λ_ J3=>PS ?_);refine CE M0 (qb from') ID ?_;refine bf ?_ ?_<;>intro h8;have hf:0≤from'∧from'<5:=of_decide_eq_true h8
 refine PS ?_;refine P2 ?_;refine CE M0 (qb to') ID ?_;refine bf ?_ ?_<;>intro h12;have ht:0≤to'∧to'<5:=of_decide_eq_true h12;refine PS ?_;refine PS ?_;refine nx J3 (CN (qx J2 (sr λ_ J4=>P4 ?_)));refine FA 0 Tryz.underlying156 Gx ?_;refine IX (((from').toNat)*5) Ms CA ?_;refine IX (((from').toNat)*5+(to').toNat) KT Gy ?_;refine LT 0 yO (if bC from' to'%6=0 then .pointer none else .pointer (some ⟨(bs.getD (bC from' to') 0),0,none⟩)) ?_ (hc:=by exact Di bs (k:=bC from' to') (by unfold bC;omega));refine PS ?_;refine nx J4 (aj (WK [0] (aw rfl rfl ⟨?_,rfl⟩)))
 by_cases hd:from'=to'
 · rw[if_pos ((uG h8 h12).2 hd)]
   exact Or.inr ⟨by unfold dx;rw[decide_eq_true hd];simp,rfl⟩
 · rw[if_neg (λq=>hd ((uG h8 h12).1 q))]
   exact Or.inl ⟨by unfold dx;rw[h8,h12,decide_eq_false hd];rfl,rfl⟩
 refine PS ?_;refine PS ?_;refine nx J3 (CY (sr λ_ J5=>PS ?_));refine nx J5 (aj (af (WK [0] (aw rfl rfl ?_))));exact⟨Or.inr ⟨by unfold dx;rw[h12];simp,rfl⟩,rfl⟩;refine PS ?_;refine PS ?_
 iterate 3 refine UT ?_
 refine PS ?_;refine nx J3 (CY (sr λ_ J6=>PS ?_));refine nx J6 (aj (af (WK [0] (aw rfl rfl ?_))));exact⟨Or.inr ⟨by unfold dx;rw[h8];simp,rfl⟩,rfl⟩
def tN(W:List (List (List UInt8)))(f t:Int):Bool:=dx f t&&decide ((W.getD (bC f t) []).length<8)
theorem y9(n:Nat)(bs:List Nat)(W:List (List (List UInt8)))(from' to':Int)(x:Value)(by':List UInt8)(hb:by'.length≤1000000)(hW:W.length=25):
 DT 202 #[(.pointer (some ⟨n,0,none⟩)),(.int .i64 (from')),(.int .i64 (to')),x] (IsW x by') [am n (dN bs) 156,e5 208 5 bs W] (RI (.bool (tN W from' to')) [am n (dN bs) 156,e5 208 5 bs (pU W from' to' by')]):=by
 refine BD 21 Tryz.func202 rfl rfl rfl λw0 F hF=>sr λ_ J1=>PS ?_
 refine nx J1 (sr λ_ J2=>P3 ?_);refine CR Fq (nG n bs from' to') ID λvR HR hR=>?_
 obtain⟨hw,rfl⟩:=hR;rcases hw with⟨hv,rfl⟩| ⟨hv,rfl⟩
 refine PS ?_;refine nx J2 (sr λ_ J3=>PS ?_);refine tp (gd rfl yO rfl rfl) ?_;refine P3 ?_;refine cJ (H':=[ir 208 5 (bs.getD (bC from' to') 0) (W.getD (bC from' to') []),fV 208 5 bs W (bC from' to'),am n (dN bs) 156]) (λ_ s=>oW hv (aD [1] rfl s)) (CF JW (wl (bs.getD (bC from' to') 0) (W.getD (bC from' to') []) x by' hb) ID (λ_ d _=>PT hF d) ?_);refine P2 ?_;refine nx J3 (aj (aF (H':=[am n (dN bs) 156,e5 208 5 bs (pU W from' to' by')]) (dE _) (λ_ s=>by unfold pU;rw[if_pos hv];exact aD [1,0] rfl (uF hv hW (aD [0,0,0] rfl s))) (aw rfl rfl ?_)));exact⟨by unfold tN;rw[hv];rfl,rfl⟩;refine PS ?_;refine nx J2 (sr λ_ J4=>PS ?_);refine tp (iy rfl yO rfl rfl) ?_;refine PS ?_
 iterate 3 refine UF ?_
 refine P2 ?_;refine nx J4 (aj (WK [0,0] (aw rfl rfl ?_)));exact⟨by unfold tN;rw[hv];rfl,by unfold pU;rw[hv];rfl⟩
theorem BA(n:Nat)(W:List (List (List UInt8)))(from' to':Int)(x:Value)(by':List UInt8)(hb:by'.length≤1000000)(hW:W.length=25):DT 202 #[.pointer (some ⟨n,0,none⟩), .int .i64 from', .int .i64 to',x] (IsW x by') [eO 156 208 5 n W] (RI (.bool (tN W from' to')) [eO 156 208 5 n (pU W from' to' by')]):=
 Leg.Does.pack (B:=[]) λbs=>Leg.Does.fold (y9 n bs W from' to' x by' hb hW) λe H hp=>by
  cases e with
  |returned v=>
   obtain⟨rfl,rfl⟩:=hp;exact⟨_,λ_ s=>br (p:=λbs:List Nat=>[am n (dN bs) 156,e5 208 5 bs (pU W from' to' by')]) (H:=[]) bs s,rfl,rfl⟩
  |panicked c=>exact hp.elim
  |outgrown=>exact hp.elim
def jW(f t:Int)(bs:List UInt8):List UInt8:=qg ([b8 f,b8 t]++bs)
theorem FN(from' to':Int)(x:Value)(by':List UInt8)(hb:by'.length≤100000):
 DT 52 #[(.int .i64 (from')),(.int .i64 (to')),x] (IsW x by') [] (dB (λv H=>∃u,v=u∧H=[ee u (jW from' to' by') 5])):=by
 refine BD 23 Tryz.func52 rfl rfl rfl λw0 F hF=>sr λ_ J1=>PS ?_
 refine nx J1 (sr λ_ J2=>PS ?_);refine tp (ef rfl ic rfl hF.len) ?_;refine AD ?_;refine TL.makeB (0) (2+by'.length) (ab rfl) rfl rfl rfl ic Ao rfl rfl rfl (by omega) (by omega) (by omega) (λb11=>cJ (H':=[ee (.slice (some ⟨b11,0,none⟩) 0 (2+by'.length)) ([]) 5]) (λ_ s=>GB 0 rfl rfl (by omega) (by simp only[maxLen];omega) (by simp[eB]) rfl s) (PS ?_));refine nx J2 (sr λ_ J3=>P2 ?_);refine tp (eM (r:=(((b8 from').toNat:Nat):Int)) rfl Y3 Y5 rfl (wR _)) ?_;refine PS ?_;refine tp (eM (r:=(((b8 to').toNat:Nat):Int)) rfl Y3 Y5 rfl (wR _)) ?_;refine aW (cells:=#[(.int .u8 ((((b8 from').toNat:Nat):Int))),(.int .u8 ((((b8 to').toNat:Nat):Int)))]) (ab rfl) rfl rfl rfl ic Ao rfl rfl rfl (by as_aux_lemma=>kernel_rfl) (λb17=>cS (k:=1) (news:=eB ([(b8 from'),(b8 to')])) (nn':=([(b8 from'),(b8 to')]:List UInt8).length) (xs':=eB ([(b8 from'),(b8 to')])) (ab rfl) rfl rfl rfl ic Ao rfl rfl rfl rfl rfl rfl (λ_ _=>kj rfl (RO 0) rfl) (fk [(b8 from'),(b8 to')]) (by simp only[maxLen,aE,ax];omega) (by simp only[aE,ax];omega) (by simp<;>omega) (bb _) (λv18 ov18=>PS ?_));refine nx J3 (sr λ_ J4=>P2 ?_)
 refine cS (k:=1) (news:=eB (by')) (nn':=([(b8 from'),(b8 to')]++by':List UInt8).length) (xs':=eB ([(b8 from'),(b8 to')]++by')) (ab rfl) rfl rfl rfl ic Ao rfl rfl rfl rfl rfl rfl (λ_ _=>hF.src (λ_ h=>fN h)) (fk _) (by simp only[maxLen,ai,ax,aE];omega) (by simp only[ai,ax,aE];omega) (by simp<;>omega) (jH _ _).symm (λv21 ov21=>CQ OE (vD v21 ([(b8 from'),(b8 to')]++by') (by simp only[ai,ax,aE];omega)) ID (λg d s=>K7 (wO 1 rfl rfl g d s)) λvR HR hR=>?_);have hR:=hR;subst hR;refine PS ?_;exact nx J4 (aj (WK [0] (aw rfl rfl ⟨_,rfl,rfl⟩)))
theorem sH(f t:Int)(bs:List UInt8):(jW f t bs).length=bs.length+6:=by
 unfold jW;rw[lB];simp only[ai,ax,aE];omega
theorem zd(n:Nat)(W:List (List (List UInt8)))(from' to':Int)(x:Value)(by':List UInt8)(hb:by'.length≤3000)(hW:W.length=25):
 DT 204 #[(.pointer (some ⟨n,0,none⟩)),(.int .i64 (from')),(.int .i64 (to')),x] (IsW x by') [eO 156 208 5 n (W)] (RI (.bool (tN W from' to')) [eO 156 208 5 n (pU W from' to' (jW from' to' by'))]):=by
 refine BD 24 Tryz.func204 rfl rfl rfl λw0 F hF=>?_
 have hfl:(jW from' to' by').length≤1000000:=by rw[sH];omega
 refine sr λ_ J1=>PS ?_
 refine nx J1 (aa λ_ J2=>sr λ_ J3=>PS ?_);refine tp (jE rfl KS rfl rfl) ?_;refine P2 ?_;refine tq (ef rfl ic rfl hF.len) ?_;refine PS ?_;refine ao ?_ ?_<;>intro h14
 · exact absurd h14 (by omega)
 refine PS ?_;refine nx J3 (CN (qx J2 (sr λ_ J4=>?_)))
 iterate 6 refine PS ?_
 refine CQ QO (FN from' to' x by' (by omega)) ID (λ_ d _=>PT hF d) λvR HR hR=>?_
 obtain⟨_,rfl,rfl⟩:=hR;revert vR;intro uf;refine CF OR (BA n W from' to' uf (jW from' to' by') hfl hW) (SM [1]) (λg d s=>K7 (wO 0 rfl rfl g d s)) ?_;refine PS ?_;exact nx J4 (aj (WK [0] (aw rfl rfl ⟨rfl,rfl⟩)))
theorem ze(from' to':Int)(x:Value)(by':List UInt8)(h0:0<by'.length)(hb:by'.length≤100000):
 DT 140 #[(.int .i64 (from')),(.int .i64 (to')),x] (IsW x (jW from' to' by')) [] (dB (λv H=>∃u,v= .tuple #[u, .bool true]∧H=[hY u by' 5])):=by
 refine BD 40 Tryz.func140 rfl rfl rfl λw0 F hF=>?_
 have hfl:(jW from' to' by').length≤1000000000:=by rw[sH];omega
 refine sr λ_ J1=>P2 ?_
 refine nx J1 (sr λ_ J2=>PS ?_);refine CQ MP (zL x (jW from' to' by') hfl) ID (λ_ d _=>PT hF d) λvR HR hR=>?_
 rcases hR with⟨ht',_,_⟩| ⟨t,u,ht',rfl,rfl⟩
 · exact absurd ht' (by unfold jW;rw[rY];simp)
 obtain rfl:t=([b8 from',b8 to']++by'):=by unfold jW at ht';rw[rY]at ht';exact(cw ht').symm
 refine j5 0 rfl rfl (by simp) (λg cap hv hcap=>?_);have hv2:u= .slice (some ⟨g,0,none⟩) (by'.length+2) cap:=hv;refine P4 ?_;refine PS ?_;refine nx J2 (aa λ_ J3=>sr λ_ J4=>PS ?_);refine PS ?_;refine P2 ?_;refine tq (ef rfl ic rfl (by rw[hv2];exact⟨_,_,rfl⟩)) ?_;refine PS ?_;refine ao ?_ ?_<;>intro h20
 · exact absurd h20 (by omega)
 refine P3 ?_;refine tq (bU (r:=0) hv2 rfl ic mg rfl rfl (by omega) (by omega) rfl) ?_;refine tq (dr (v:=(.int .u8 ((((b8 from').toNat:Nat):Int)))) rfl Y5 rfl rfl (gC 0 rfl hv rfl) (rV (l:=([b8 from',b8 to']++by')) (j:=0) (by simp))) ?_;refine PS ?_;refine tq (eM (r:=(((b8 from').toNat:Nat):Int)) rfl Y3 Y5 rfl (wR _)) ?_;refine PS ?_;refine ao ?_ ?_<;>intro h28
 · exact absurd rfl h28
 refine P3 ?_;refine tq (bU (r:=1) hv2 rfl ic mg rfl rfl (by omega) (by omega) rfl) ?_;refine tq (dr (v:=(.int .u8 ((((b8 to').toNat:Nat):Int)))) rfl Y5 rfl rfl (gC 0 rfl hv rfl) (rV (l:=([b8 from',b8 to']++by')) (j:=1) (by simp))) ?_;refine PS ?_;refine tq (eM (r:=(((b8 to').toNat:Nat):Int)) rfl Y3 Y5 rfl (wR _)) ?_;refine PS ?_;refine ao ?_ ?_<;>intro h36
 · exact absurd rfl h36
 refine PS ?_;refine nx J4 (CN (qx J3 (sr λ_ J5=>PS ?_)));refine tp (Rj (PV.sliceL (a:=some ⟨g,0,none⟩) (len:=by'.length+2) (cap:=cap) (lo:=2) rfl ic mg (by rw[←hv2];rfl) rfl rfl (by omega)) (congrArg (λq=>kK q 2 (by'.length+2)) hv2.symm)) ?_;refine P2 ?_;exact nx J5 (aj (aF (H':=[hY (kK u 2 (by'.length+2)) by' 5]) (dE _) (λ_ s=>xp 0 rfl rfl hv (by omega) (by simp) (by simp;omega) (by simp) s) (jr rfl rfl rfl ⟨_,rfl,rfl⟩)))
theorem ya(n:Nat)(bs:List Nat)(W:List (List (List UInt8)))(from' to':Int)(by':List UInt8)(ls:List (List UInt8))(hv:dx from' to'=true)(hW:W.length=25)(hk:W.getD (bC from' to') []=jW from' to' by'::ls)(h0:0<by'.length)(hb:by'.length≤100000):
 DT 103 #[(.pointer (some ⟨n,0,none⟩)),(.int .i64 (from')),(.int .i64 (to'))] T0 [am n (dN bs) 156,e5 208 5 bs (W)] (dB (λv H=>∃u,v= .tuple #[u, .bool true]∧H=[am n (dN bs) 156,e5 208 5 bs (W.set (bC from' to') ls),hY u by' 5])):=by
 refine BD 32 Tryz.func103 rfl rfl rfl λw0 F hF=>sr λ_ J1=>P2 ?_
 refine nx J1 (aa λ_ J2=>sr λ_ J3=>PS ?_);refine tp (jE rfl KS rfl rfl) ?_;refine nx J3 (CN (qx J2 (sr λ_ J4=>P3 ?_)));refine CR Fq (nG n bs from' to') ID λvR HR hR=>?_
 obtain⟨hw,rfl⟩:=hR;obtain⟨_,rfl⟩:dx from' to'=true∧vR= .pointer (some ⟨(bs.getD (bC from' to') 0),0,none⟩):=hw.resolve_right (λq=>by rw[hv]at q;cases q.1)
 refine PS ?_;refine nx J4 (aa λ_ J5=>sr λ_ J6=>PS ?_);refine tp (jE rfl yO rfl rfl) ?_;refine nx J6 (CN (qx J5 (sr λ_ J7=>PS ?_)));refine cJ (H':=[ir 208 5 (bs.getD (bC from' to') 0) (W.getD (bC from' to') []),fV 208 5 bs W (bC from' to'),am n (dN bs) 156]) (λ_ s=>oW hv (aD [1] rfl s)) (CR MZ (uj (bs.getD (bC from' to') 0) (W.getD (bC from' to') [])) ID λvR HR hR=>?_);rcases hR with⟨he,_,_⟩| ⟨u,f,ls',he,rfl,rfl⟩
 · rw[he]at hk;cases hk
 rw[hk]at he;obtain⟨rfl,rfl⟩:=List.cons.inj he;refine P4 ?_;refine PS ?_;refine nx J7 (aa λ_ J8=>sr λ_ J9=>PS ?_);refine PS ?_;refine nx J9 (CN (qx J8 (sr λ_ J10=>P3 ?_)));refine CQ Pf (ze from' to' u by' h0 hb) ID (λg d s=>K7 (BJ 1 rfl rfl g d s)) λvR HR hR=>?_
 obtain⟨uv,rfl,rfl⟩:=hR;refine P4 ?_;exact nx J10 (aj (aF (H':=[am n (dN bs) 156,e5 208 5 bs (W.set (bC from' to') ls),hY uv by' 5]) (dE _) (λ_ s=>aD [1,0] rfl (uF hv hW (ak [1,2,2,0] rfl s))) (jr rfl rfl rfl ⟨_,rfl,rfl⟩)))
theorem rM(n:Nat)(W:List (List (List UInt8)))(from' to':Int)(by':List UInt8)(ls:List (List UInt8))(hv:dx from' to'=true)(hW:W.length=25)(hk:W.getD (bC from' to') []=jW from' to' by'::ls)(h0:0<by'.length)(hb:by'.length≤100000):DT 103 #[.pointer (some ⟨n,0,none⟩), .int .i64 from', .int .i64 to'] T0 [eO 156 208 5 n W] (dB (λv H=>∃u,v= .tuple #[u, .bool true]∧H=[eO 156 208 5 n (W.set (bC from' to') ls),hY u by' 5])):=
 Leg.Does.pack (B:=[]) λbs=>Leg.Does.fold (ya n bs W from' to' by' ls hv hW hk h0 hb) λe H hp=>by
  cases e with
  |returned v=>
   obtain⟨u,rfl,rfl⟩:=hp;exact⟨[eO 156 208 5 n (W.set (bC from' to') ls),hY u by' 5],λ_ s=>br (p:=λbs:List Nat=>[am n (dN bs) 156,e5 208 5 bs (W.set (bC from' to') ls)]) (H:=[hY u by' 5]) bs s,u,rfl,rfl⟩
  |panicked c=>exact hp.elim
  |outgrown=>exact hp.elim
end Go.Proofs.YtjblgopghhgflaaGreat
end

section
namespace Leg
open Go Codec Api
section
variable {P:Program} {n:Nat} {D:List Deferred} {L:List (Nat×Value)} {S:World→Prop} {o:Oper}
theorem PV.ptrNeIf{c:Prop}[Decidable c]{t t':TypeId}{x y:Operand}{a:Addr}(ho:o.op= .binOp .neq t x y t')(ht:P.underlying t=some (.pointer (P.pointee t)))(hx:cR L x=some (if c then .pointer none else .pointer (some a)))(hy:cR L y=some (.pointer none)):PV P n D L S o (.bool (!decide c)):=by
 by_cases h:c
 · rw[if_pos h]at hx;rw[decide_eq_true h];exact iy ho ht hx hy
 · rw[if_neg h]at hx;rw[decide_eq_false h];exact gd ho ht hx hy
end
abbrev JI(bs:List Nat)(k:Nat):Value:=if k%6=0 then .pointer none else .pointer (some ⟨bs.getD k 0,0,none⟩)
def tH(bs:List Nat)(i:Nat):List Value:=(List.range 5).map λj=>JI bs (i*5+j)
theorem pe(bs:List Nat)(i:Nat):(tH bs i).length=5:=by simp[tH]
theorem JA(bs:List Nat)(i:Nat): ∀v∈tH bs i,v.oneCell'=true:=by
 intro v hv;simp only[tH,dQ]at hv;obtain⟨j,_,rfl⟩:=hv;show(if _ then _ else _:Value).oneCell'=true;split<;>rfl
theorem GD(bs:List Nat)(i:Nat){j:Nat}(h:j<5):(tH bs i)[j]?=some (JI bs (i*5+j)):=by simp[tH,h]
theorem JB(bs:List Nat){i:Nat}(h:i<5):((dN bs).drop (i*5)).take 5=tH bs i:=by
 refine List.ext_getElem? λj=>?_
 by_cases hj:j<5
 · rw[List.getElem?_take_of_lt hj,List.getElem?_drop,Di bs (by omega),GD bs i hj]
 · rw[List.getElem?_eq_none (by rw[bq];omega),List.getElem?_eq_none (by rw[pe];omega)]
def mA(W:List (List (List UInt8)))(k:Nat):Nat:=((List.range k).map λq=>if q%6=0 then 0 else(W.getD q []).length).sum
theorem sy(W:List (List (List UInt8)))(k:Nat):mA W (k+1)=mA W k+(if k%6=0 then 0 else(W.getD k []).length):=by simp[mA,dd]
def mr(bs:List Nat):List Value:=(List.range 25).map λq=>if q%6=0∨bs.length≤q then .pointer none else .pointer (some ⟨bs.getD q 0,0,none⟩)
theorem Aa(bs:List Nat):(mr bs).length=25:=by simp[mr]
theorem HZ{bs:List Nat}{b:Nat}(h:bs.length<25)(hd: ¬bs.length%6=0):(mr bs).set bs.length (.pointer (some ⟨b,0,none⟩))=mr (bs++[b]):=by
 refine List.ext_getElem? λj=>?_
 by_cases hj:j=bs.length
 · subst hj
   rw[List.getElem?_set_self (by rw[Aa];exact h)];simp[mr,h,hd,List.getD_eq_getElem?_getD]
 · rw[List.getElem?_set_ne (λe=>hj e.symm)]
   simp only[mr,List.getElem?_map];cases hr:(List.range 25)[j]?with
   |none=>rfl
   |some q=>
    have hq:q=j:=by
     by_cases h25:j<25
     · simp[h25]at hr;exact hr.symm
     · simp[h25]at hr
    subst hq;simp only[Option.map_some,ai,ax,aE];congr 1
    by_cases hlt:q<bs.length
    · simp[show ¬bs.length≤q by omega,show ¬bs.length+1≤q by omega,List.getElem?_append_left hlt]
    · simp[show bs.length≤q by omega,show bs.length+1≤q by omega]
theorem Fk{bs:List Nat}{b:Nat}(hd:bs.length%6=0):mr (bs++[b])=mr bs:=by
 unfold mr;refine eg λq hq=>?_
 rw[ai,fc]
 by_cases hq6:q%6=0
 · simp[hq6]
 · by_cases hlt:q<bs.length
   · simp[hq6,show ¬bs.length≤q by omega,show ¬bs.length+1≤q by omega,List.getElem?_append_left hlt]
   · have: ¬q=bs.length:=λe=>hq6 (by rw[e];exact hd)
     simp[show bs.length≤q by omega,show bs.length+1≤q by omega]
theorem H0{bs:List Nat}(h:bs.length=25):mr bs=dN bs:=by
 unfold mr dN;refine eg λq hq=>?_
 rw[fA]at hq;simp[show ¬bs.length≤q by omega]
def p5(T U:Nat)(bs:List Nat)(q:Nat):HP:=if q%6=0 then(λ_=>True)else ir T U (bs.getD q 0) []
def kX(T U:Nat)(bs:List Nat):HP:=bH ((List.range bs.length).map (p5 T U bs))
theorem Gd(T U:Nat){H:List HP}{h:Hl}(s:bH H h):bH (kX T U []::H) h:=⟨em,h,Ez h,(rP h).symm,trivial,s⟩
theorem Ge(T U:Nat)(bs:List Nat)(b:Nat):(List.range bs.length).map (p5 T U (bs++[b]))=(List.range bs.length).map (p5 T U bs):=
 eg λq hq=>by
  rw[fA]at hq;unfold p5;rw[show(bs++[b]).getD q 0=bs.getD q 0 by simp[List.getElem?_append_left hq]]
theorem wk(T U:Nat)(bs:List Nat)(b:Nat){H:List HP}{h:Hl}(s:bH (p5 T U (bs++[b]) bs.length::kX T U bs::H) h):bH (kX T U (bs++[b])::H) h:=by
 have e:(List.range (bs++[b]).length).map (p5 T U (bs++[b]))=(List.range bs.length).map (p5 T U bs)++[p5 T U (bs++[b]) bs.length]:=by
  rw[ai,fc,dd,de,Ge];rfl
 obtain⟨h1,h2,d,rfl,a,b'⟩:=s;have s2:bH ((p5 T U (bs++[b]) bs.length::(List.range bs.length).map (p5 T U bs))++H) (jn h1 h2):=⟨h1,h2,d,rfl,a,(ck _ _).2 b'⟩;have p:((p5 T U (bs++[b]) bs.length::(List.range bs.length).map (p5 T U bs))++H).Perm (((List.range bs.length).map (p5 T U bs)++[p5 T U (bs++[b]) bs.length])++H):=(List.perm_append_comm (l₁:=[p5 T U (bs++[b]) bs.length])).append_right H;have s3:=eG p s2;rw[←e]at s3;exact(ck _ _).1 s3
theorem Ej(T U:Nat)(bs:List Nat)(hd:bs.length%6=0){H:List HP}{h:Hl}(s:bH (kX T U bs::H) h):bH (kX T U (bs++[0])::H) h:=by
 refine wk T U bs 0 ⟨em,h,Ez h,(rP h).symm,?_,s⟩;unfold p5;rw[if_pos hd];trivial
theorem Gf{T U:Nat}{bs:List Nat}(h:bs.length=25):kX T U bs=e5 T U bs (List.replicate 25 []):=by
 unfold kX e5 qk;rw[h];refine congrArg bH ?_;refine eg λq hq=>?_
 rw[fA]at hq;unfold p5 rS;rw[show(List.replicate 25 ([]:List (List UInt8))).getD q []=[]by rw[List.getD_eq_getElem?_getD,List.getElem?_replicate,if_pos hq];rfl]
theorem KL{T U:Nat}{bs:List Nat}{W:List (List (List UInt8))}{k:Nat}(h6: ¬k%6=0)(hk:k<25){H:List HP}{h:Hl}(s:bH (e5 T U bs W::H) h):bH (ir T U (bs.getD k 0) (W.getD k [])::fV T U bs W k::H) h:=by
 have:=yF hk s
 rwa [rB h6]at this
theorem KK{T U:Nat}{bs:List Nat}{W:List (List (List UInt8))}{k:Nat}(h6: ¬k%6=0)(hk:k<25){H:List HP}{h:Hl}(s:bH (ir T U (bs.getD k 0) (W.getD k [])::fV T U bs W k::H) h):bH (e5 T U bs W::H) h:=by
 refine wj (W:=W) hk (λ_ _=>rfl) ?_;rw[rB h6];exact s
end Leg
end

section
namespace Go.Proofs.YtjblgopghhgflaaGreat
open Go Leg Codec Api Dsk Wal
theorem BB(n:Nat)(bs:List Nat)(W:List (List (List UInt8)))(hsm: ∀k,k<25→mA W k+(W.getD k []).length≤1000000000):
 DT 66 #[(.pointer (some ⟨n,0,none⟩))] T0 [am n (dN bs) 156,e5 208 5 bs (W)] (RI (.int .i64 ((mA W 25:Nat):Int)) [am n (dN bs) 156,e5 208 5 bs W]):=by
 refine BD 28 Tryz.func66 rfl rfl rfl λw0 F hF=>sr λ_ J1=>PS ?_
 refine nx J1 (sr λ_ J2=>PS ?_);refine nx J2 (aa λ_ J3=>sr λ_ J4=>P2 ?_);refine FA 0 Tryz.underlying156 Gx ?_;refine tp (aO (vs:=dN bs) rfl Ms rfl Gx rfl (RO 0) (zZ bs) (xb (zZ bs))) ?_;refine PS ?_;refine nx J4 (aq ?_)
 refine bA (α:=(Nat)) (λi=>i≤5) (λi=>[(2,(.int .i64 0)),(3,(.int .i64 (((mA W (i*5):Nat):Int)))),(11,(.agg (dN bs).toArray)),(12,(.int .i64 (((i:Nat):Int))))]) (λi=>[am n (dN bs) 156,e5 208 5 bs (W)]) (λi=>5-i) 0
  (aN _) SB
  (λ_ s=>s) (λi hinv=>?_)
 obtain hi:=hinv;refine sr λ_ J5=>PS ?_
 refine ao ?_ ?_<;>intro h13;refine nx J5 (aa λ_ J6=>CY (qx J6 (aa λ_ J7=>aq (sr λ_ J8=>tp (Rm (cs:=dN bs) (vs:=tH bs i) (r:=i*5) rfl Ms KT rfl CA rfl rfl (by omega) (by omega) (by omega) (JB bs (by omega))) ?_))));refine XA Qo λb5=>?_
 refine bO (vs:=tH bs i) (i:=0) (ab rfl) rfl rfl rfl rfl rfl (by rw[pe bs i];exact CA) (JA bs i) rfl rfl (by rw[pe bs i];exact aI _) (gi (Eq.trans (rfl:_=5) (by rw[pe bs i]:(tH bs i).length=5).symm)) rfl (nx J8 (sr λ_ J9=>tp (aO (vs:=tH bs i) rfl KT rfl CA rfl (RO 0) (pe bs i) (xb (pe bs i))) ?_));refine PS ?_;refine nx J9 (aq ?_)
 refine bA (α:=(Nat)) (λj=>j≤5) (λj=>[(2,(.int .i64 0)),(3,(.int .i64 (((mA W (i*5+j):Nat):Int)))),(11,(.agg (dN bs).toArray)),(12,(.int .i64 (((i:Nat):Int)))),(15,(.agg (tH bs i).toArray)),(16,(.int .i64 (((j:Nat):Int))))]) (λj=>[am n (dN bs) 156,e5 208 5 bs (W)]) (λj=>5-j) 0
  (aN _) SB
  (λ_ s=>ak [1,1] rfl s) (λj hinv=>?_)
 obtain hj:=hinv;refine sr λ_ J10=>PS ?_
 refine ao ?_ ?_<;>intro h17;refine nx J10 (aa λ_ J11=>CY (qx J11 (aa λ_ J12=>aq (sr λ_ J13=>tp (lM (cs:=tH bs i) (v:=JI bs (i*5+j)) (r:=j) rfl KT yO rfl Gy rfl rfl (by omega) (by omega) (by omega) (GD bs i (by omega))) ?_))));refine PS ?_;refine nx J13 (sr λ_ J14=>PS ?_);refine tp (PV.ptrNeIf rfl yO rfl rfl) ?_;refine bf ?_ ?_<;>intro h20;have h20: ¬((i*5+j)%6=0):=by simpa using h20
 refine TL.weak (L':=[(2,(.int .i64 0)),(3,(.int .i64 (((mA W (i*5+j):Nat):Int)))),(7,(.pointer (some ⟨(bs.getD (i*5+j) 0),0,none⟩))),(11,(.agg (dN bs).toArray)),(12,(.int .i64 (((i:Nat):Int)))),(15,(.agg (tH bs i).toArray)),(16,(.int .i64 (((j:Nat):Int)))),(17,(.bool true)),(18,(JI bs (i*5+j))),(19,(JI bs (i*5+j))),(20,(.bool true))]) (bv rfl rfl (bv rfl rfl (bv rfl (if_neg h20) (bv rfl rfl (bv rfl rfl (bv rfl rfl (bv rfl rfl (bv rfl rfl (bv rfl rfl (bv rfl rfl (bv rfl rfl SB))))))))))) (λ_ s=>s) (cJ (H':=[ir 208 5 (bs.getD (i*5+j) 0) (W.getD (i*5+j) []),fV 208 5 bs W (i*5+j),am n (dN bs) 156]) (λ_ s=>KL h20 (by omega) (aD [1] rfl s)) (nx J14 (CY (ae (P2 ?_)))));refine CE vT (jZ (bs.getD (i*5+j) 0) (W.getD (i*5+j) [])) ID ?_;refine tp (cL (r:=((mA W (i*5+j)+(W.getD (i*5+j) []).length:Nat):Int)) rfl rfl rfl (by rw[←Int.natCast_add];exact bX (by omega) (by have:=hsm (i*5+j) (by omega);omega))) ?_;refine PS ?_;refine au (ag (ac J12 (ae (AD ?_))));refine PS ?_;refine au ?_
 exact aK ((j+1):(Nat)) (by omega) (by show 5- (j+1)<5-j;omega)
  (aS (bv rfl (by rw[show mA W (i*5+(j+1))=mA W (i*5+j)+(W.getD (i*5+j) []).length from by rw[←n6,sy,if_neg h20]]) SB))
  (λ_ s=>aD [1,0] rfl (KK h20 (by omega) (ak [0,0,0] rfl s)))
 refine nx J14 (CN (aU (ag (ac J12 (ae (AD ?_))))));refine PS ?_;refine au ?_
 exact aK ((j+1):(Nat)) (by omega) (by show 5- (j+1)<5-j;omega)
  (aS (bv rfl (by rw[show mA W (i*5+(j+1))=mA W (i*5+j)from by rw[←n6,sy,if_pos (by simpa using h20),K6]]) SB))
  (λ_ s=>s)
 refine nx J10 (aa λ_ J15=>CN (aX (aA (aA (bu (ag (ac J7 (ae (AD ?_)))))))));refine PS ?_;refine au ?_
 exact aK ((i+1):(Nat)) (by omega) (by show 5- (i+1)<5-i;omega)
  (aS (bv rfl (by rw[show(i+1)*5=i*5+j by omega]) SB))
  (λ_ s=>s)
 refine nx J5 (aa λ_ J16=>CN (aX (aA (aA (bu (ac J3 (sr λ_ J17=>P2 ?_)))))));refine nx J17 (aj (WK [0,0] (aw rfl rfl ?_)));exact⟨by rw[show i*5=25 by omega],rfl⟩
theorem Ds(n:Nat)(W:List (List (List UInt8)))(hsm: ∀k,k<25→mA W k+(W.getD k []).length≤1000000000):DT 66 #[.pointer (some ⟨n,0,none⟩)] T0 [eO 156 208 5 n W] (RI (.int .i64 ((mA W 25:Nat):Int)) [eO 156 208 5 n W]):=
 Leg.Does.pack (B:=[]) λbs=>Leg.Does.fold (BB n bs W hsm) λe H hp=>by
  cases e with
  |returned v=>
   obtain⟨rfl,rfl⟩:=hp;exact⟨[eO 156 208 5 n W],λ_ s=>br (p:=λbs:List Nat=>[am n (dN bs) 156,e5 208 5 bs W]) (H:=[]) bs s,rfl,rfl⟩
  |panicked c=>exact hp.elim
  |outgrown=>exact hp.elim
theorem KM{T U:Nat}{bs:List Nat}{b:Nat}(h: ¬bs.length%6=0):p5 T U (bs++[b]) bs.length=ir T U b []:=by
 unfold p5;rw[if_neg h,List.getD_eq_getElem?_getD,List.getElem?_append_right (aI _),zB];rfl
theorem Gg{T U:Nat}{bs:List Nat}{b:Nat}(hl: ¬bs.length%6=0){H:List HP}{h:Hl}(s:bH (ir T U b []::kX T U bs::H) h):bH (kX T U (bs++[b])::H) h:=wk T U bs b (by rw[KM hl];exact s)
theorem Dr:
 DT 53 #[] T0 [] (dB (λv H=>∃n,v= .pointer (some ⟨n,0,none⟩)∧H=[eO 156 208 5 n (List.replicate 25 [])])):=by
 refine Leg.Does.body (vs:=[]) (n:=26) Tryz.func53 rfl rfl rfl (λw0 F hF=>?_);refine sr λ_ J1=>?_
 refine qq ?_;refine nx J1 ?_;refine sr λ_ J2=>?_
 refine tp (kP (cells:=#[(.pointer none),(.pointer none),(.pointer none),(.pointer none),(.pointer none),(.pointer none),(.pointer none),(.pointer none),(.pointer none),(.pointer none),(.pointer none),(.pointer none),(.pointer none),(.pointer none),(.pointer none),(.pointer none),(.pointer none),(.pointer none),(.pointer none),(.pointer none),(.pointer none),(.pointer none),(.pointer none),(.pointer none),(.pointer none)]) rfl rfl (by as_aux_lemma=>kernel_rfl)) ?_;refine TL.box (ab rfl) rfl rfl rfl rfl (λb5=>?_);change TL _ _ _ _ _ _ _ _ _ [am b5 [(.pointer none),(.pointer none),(.pointer none),(.pointer none),(.pointer none),(.pointer none),(.pointer none),(.pointer none),(.pointer none),(.pointer none),(.pointer none),(.pointer none),(.pointer none),(.pointer none),(.pointer none),(.pointer none),(.pointer none),(.pointer none),(.pointer none),(.pointer none),(.pointer none),(.pointer none),(.pointer none),(.pointer none),(.pointer none)] 156];refine qq ?_;refine nx J2 ?_;refine aa λ_ J3=>?_
 refine sr λ_ J4=>?_
 refine mv ?_;refine nx J4 ?_;refine aq ?_
 refine bA (α:=(Nat)×(List Nat)) (λ⟨i,bs⟩=>i≤5∧bs.length=i*5) (λ⟨i,bs⟩=>[(0,(.pointer none)),(1,(.pointer (some ⟨b5,0,none⟩))),(6,(.int .i64 (((i:Nat):Int))))]) (λ⟨i,bs⟩=>[am b5 (mr (bs)) 156,kX 208 5 (bs)]) (λ⟨i,bs⟩=>5-i) (0,[])
  ⟨aN _,rfl⟩ (aS (aS (bv rfl (by congr 1) (Og _))))
  (λ_ s=>aD [1,0] rfl (Gd 208 5 s)) (λ⟨i,bs⟩ hinv=>?_)
 obtain⟨hi,hbs⟩:=hinv;refine sr λ_ J5=>?_
 refine tp (PV.lss rfl rfl rfl) ?_;refine ao (λh7=>?_) (λh7=>?_);refine nx J5 ?_;refine aa λ_ J6=>?_
 refine oh rfl ?_;refine aU ?_;refine ac J6 ?_;refine aa λ_ J7=>?_
 refine aq ?_;refine sr λ_ J8=>?_
 refine mv ?_;refine qq ?_;refine nx J8 ?_;refine sr λ_ J9=>?_
 refine mv ?_;refine nx J9 ?_;refine aq ?_
 refine bA (α:=(Nat)×(List Nat)) (λ⟨j,bs2⟩=>j≤5∧bs2.length=i*5+j) (λ⟨j,bs2⟩=>[(0,(.pointer none)),(1,(.pointer (some ⟨b5,0,none⟩))),(2,(.int .i64 (((i:Nat):Int)))),(6,(.int .i64 (((i:Nat):Int)))),(9,(.int .i64 (((j:Nat):Int))))]) (λ⟨j,bs2⟩=>[am b5 (mr (bs2)) 156,kX 208 5 (bs2)]) (λ⟨j,bs2⟩=>5-j) (0,bs)
  ⟨aN _,hbs⟩ (aS (aS (aS (aS (bv rfl (by congr 1) (Og _))))))
  (λ_ s=>s) (λ⟨j,bs2⟩ hinv=>?_)
 obtain⟨hj,hbl⟩:=hinv;refine sr λ_ J10=>?_
 refine tp (PV.lss rfl rfl rfl) ?_;refine ao (λh10=>?_) (λh10=>?_);refine nx J10 ?_;refine aa λ_ J11=>?_
 refine oh rfl ?_;refine aU ?_;refine ac J11 ?_;refine aa λ_ J12=>?_
 refine aq ?_;refine sr λ_ J13=>?_
 refine mv ?_;refine qq ?_;refine nx J13 ?_;refine sr λ_ J14=>?_
 refine mv ?_;refine mv ?_;refine tp (PV.neq rfl rfl rfl) ?_;refine ao (λh14=>?_) (λh14=>?_);refine nx J14 ?_;refine oh rfl ?_;refine sO (λw=>Frm F w∧True) dK rfl (λ_ s=>⟨fN s,trivial⟩) ?_;refine ta 0 rfl (kA rfl rfl) ?_;refine ta 1 rfl (kA rfl rfl) ?_;refine ta 2 rfl (kA rfl rfl) ?_;refine ta 4 rfl (gH rfl rfl) ?_;refine ta 5 rfl (bc (r:=0) rfl Tryz.underlying156 rfl Gx rfl rfl) ?_;refine ta 6 rfl (e9 (r:=i*5) rfl Ms CA rfl rfl (by omega) (by omega) (by omega)) ?_;refine cX [3] (by kernel_rfl) rfl ?_;refine aH rfl ?_ ?_;refine lL (A:=[]) (ab rfl) rfl rfl rfl QC rfl (Ek) (λ_ s=>s) (λ_ _ _=>trivial) (λvR HR hR=>?_);obtain⟨bx,rfl,rfl⟩:=hR;change TL _ _ _ _ _ _ _ _ _ [ir 208 5 bx [],am b5 (mr (bs2)) 156,kX 208 5 (bs2)];refine au ?_;refine wo (λ_ s=>⟨fN s,trivial⟩) ?_;refine ta 7 rfl (e9 (r:=i*5+j) rfl KT Gy rfl rfl (by omega) (by omega) (by omega)) ?_;refine cX [8] (by kernel_rfl) rfl ?_;refine aH rfl ?_ ?_;refine bI (i:=1) (H':=[ir 208 5 bx [],am b5 (mr (bs2++[bx])) 156,kX 208 5 (bs2)]) (ab rfl) rfl rfl rfl rfl rfl Gy rfl rfl (by rw[Aa];omega) (by rw[show i*5+j=bs2.length by omega];exact HZ (by omega) (by omega)) rfl ?_;refine au ?_;refine wo (λ_ s=>⟨fN s,trivial⟩) ?_;refine TD.done (by kernel_rfl) ?_;refine ag ?_;refine ac J12 ?_;refine ae ?_;refine tp (cL rfl rfl rfl (bX (by omega) (by omega))) ?_;refine mv ?_;refine au ?_
 exact aK ((j+1,bs2++[bx]):(Nat)×(List Nat)) ⟨by omega,by rw[ai,fc];omega⟩ (by show 5- (j+1)<5-j;omega)
  (aS (aS (aS (aS (bv rfl (by simp) (Og _))))))
  (λ_ s=>show bH [am b5 (mr (bs2++[bx])) 156,kX 208 5 (bs2++[bx])] _ from aD [1,0] rfl (Gg (by omega) (ak [0,1,0] rfl s)))
 exact bM;exact bM;refine nx J14 ?_;refine Hb rfl ?_;refine aU ?_;refine ag ?_;refine ac J12 ?_;refine ae ?_;refine tp (cL rfl rfl rfl (bX (by omega) (by omega))) ?_;refine mv ?_;refine au ?_
 exact aK ((j+1,bs2++[0]):(Nat)×(List Nat)) ⟨by omega,by rw[ai,fc];omega⟩ (by show 5- (j+1)<5-j;omega)
  (aS (aS (aS (aS (bv rfl (by simp) (Og _))))))
  (λ_ s=>show bH [am b5 (mr (bs2++[0])) 156,kX 208 5 (bs2++[0])] _ by rw[Fk (by omega)];exact aD [1,0] rfl (Ej 208 5 bs2 (by omega) (aD [1,0] rfl s)))
 refine nx J10 ?_;refine aa λ_ J15=>?_
 refine Hb rfl ?_;refine aX ?_;refine aA ?_;refine aA ?_;refine bu ?_;refine ag ?_;refine ac J7 ?_;refine ae ?_;refine tp (cL rfl rfl rfl (bX (by omega) (by omega))) ?_;refine mv ?_;refine au ?_
 exact aK ((i+1,bs2):(Nat)×(List Nat)) ⟨by omega,by omega⟩ (by show 5- (i+1)<5-i;omega)
  (aS (aS (bv rfl (by simp) (Og _))))
  (λ_ s=>s)
 refine nx J5 ?_;refine aa λ_ J16=>?_
 refine Hb rfl ?_;refine aX ?_;refine aA ?_;refine aA ?_;refine bu ?_;refine ac J3 ?_;refine sr λ_ J17=>?_
 refine mv ?_;refine qq ?_;refine nx J17 ?_;refine aj ?_;refine aF (H':=[eO 156 208 5 b5 (List.replicate 25 [])]) (dE _) (λ_ s=>br (p:=λbs:List Nat=>[am b5 (dN bs) 156,e5 208 5 bs (List.replicate 25 [])]) (H:=[]) bs (by rw[←H0 (by omega),←Gf (by omega)];exact s)) ?_;refine aw rfl rfl ?_;exact⟨b5,rfl,rfl⟩
end Go.Proofs.YtjblgopghhgflaaGreat
end

section
namespace Leg
open Go Codec Api
def eZ(n:Nat)(D M P:Nat→Value):List Value:= .pointer (some ⟨n,0,none⟩)::((List.range 5).map D++((List.range 5).map M++(List.range 5).map P))
section
variable (n:Nat) (D M P:Nat→Value) {i:Nat}
theorem sK:(eZ n D M P).length=16:=by simp[eZ]
theorem B1:(eZ n D M P)[0]?=some (.pointer (some ⟨n,0,none⟩)):=rfl
theorem Ef(h:i<5):(eZ n D M P)[1+i]?=some (D i):=by
 rw[mV,eZ,List.getElem?_cons_succ,List.getElem?_append_left (by simpa using h)];simp[h]
theorem yB(h:i<5):(eZ n D M P)[6+i]?=some (M i):=by
 rw[show 6+i=(5+i)+1 by omega,eZ,List.getElem?_cons_succ,List.getElem?_append_right (by simp),List.getElem?_append_left (by simp;omega)];simp[h]
theorem PE(h:i<5):(eZ n D M P)[11+i]?=some (P i):=by
 rw[show 11+i=(10+i)+1 by omega,eZ,List.getElem?_cons_succ,List.getElem?_append_right (by simp;omega),List.getElem?_append_right (by simp;omega)];simp only[cf,pz];rw[show 10+i-5-5=i by omega];simp[h]
end
def lO{α:Type}(f:Nat→α)(i:Nat)(v:α):Nat→α:=λj=>if j=i then v else f j
theorem jG{α:Type}(f:Nat→α)(i:Nat)(v:α):lO f i v i=v:=if_pos rfl
theorem nJ{α:Type}(f:Nat→α){i j:Nat}(v:α)(h:j≠i):lO f i v j=f j:=if_neg h
theorem BG{α:Type}(f:Nat→α){i k:Nat}(h:i<k)(v:α):((List.range k).map f).set i v=(List.range k).map (lO f i v):=by
 refine List.ext_getElem? λj=>?_
 by_cases hj:j=i
 · subst hj
   rw[List.getElem?_set_self (by simpa using h)];simp[h,jG]
 · rw[List.getElem?_set_ne (λe=>hj e.symm)]
   by_cases hk:j<k
   · simp[hk,nJ f v hj]
   · simp[hk]
section
variable (n:Nat) (D M P:Nat→Value) {i:Nat} (v:Value)
theorem Mn(h:i<5):(eZ n D M P).set (1+i) v=eZ n (lO D i v) M P:=by
 rw[mV,eZ,bV,rf _ _ (by simpa using h),BG D h];rfl
theorem wP(h:i<5):(eZ n D M P).set (6+i) v=eZ n D (lO M i v) P:=by
 rw[show 6+i=(5+i)+1 by omega,eZ,bV,gQ _ _ (by simp),rf _ _ (by simp;omega)];simp only[cf,pz];rw[show 5+i-5=i by omega,BG M h];rfl
theorem G8(h:i<5):(eZ n D M P).set (11+i) v=eZ n D M (lO P i v):=by
 rw[show 11+i=(10+i)+1 by omega,eZ,bV,gQ _ _ (by simp;omega),gQ _ _ (by simp;omega)];simp only[cf,pz];rw[show 10+i-5-5=i by omega,BG P h];rfl
end
abbrev OA(c i:Nat):Value:= .agg #[.pointer (some ⟨c,0,none⟩), .int .i64 ((i:Nat):Int)]
end Leg
namespace Go.Proofs.YtjblgopghhgflaaGreat
open Go Leg Codec Api Dsk Wal
section
variable {CT NT BT U c n d i:Nat} {D M P:Nat→Value} {W:List (List (List UInt8))} {recs:List (List UInt8)} {l:List SaidT} {H:List HP} {h:Hl}
end
end Go.Proofs.YtjblgopghhgflaaGreat
end

section
namespace Api
open Go Leg Codec Dsk Wal
structure MS(δ:Type) where
 id:Int
 view:ViewT
 own:RowT
 mirror:MirT
 acc:AccT
 round:Int
 vote:Option VoteT
 book:BookT
 busy:Bool
 kept:Int
 waits:Int
 ops:Int
 replies:List ReplyT
 told:Vector Int 5
 last:Vector RowT 5
 e:δ
 o:List SaidT
structure Adr where
 lg:Nat
 vo:Value
 rs:Value
structure Dk(δ:Type) where
 pt:δ→List UInt8→δ×Int
 dn:δ→Bool
 ok:δ→Prop
 sure: ∀(e:δ) (bs:List UInt8),ok e→bs.length≤3000→ok (pt e bs).1
variable {δ:Type}
abbrev MS.rep(s:MS δ)(a:Adr):RepT:=⟨s.id, .pointer (some ⟨a.lg,0,none⟩),s.view,s.own,s.mirror,s.acc,s.round,a.vo,s.book,s.busy,s.kept,s.waits,s.ops,a.rs,s.told,s.last⟩
def MS.setView(s:MS δ)(v:ViewT):MS δ:= {s with view:=v}
def MS.setOwn(s:MS δ)(v:RowT):MS δ:= {s with own:=v}
def MS.setAcc(s:MS δ)(v:AccT):MS δ:= {s with acc:=v}
def MS.setRound(s:MS δ)(v:Int):MS δ:= {s with round:=v}
def MS.setBusy(s:MS δ)(v:Bool):MS δ:= {s with busy:=v}
def MS.setKept(s:MS δ)(v:Int):MS δ:= {s with kept:=v}
def MS.setWaits(s:MS δ)(v:Int):MS δ:= {s with waits:=v}
def MS.setOps(s:MS δ)(v:Int):MS δ:= {s with ops:=v}
def MS.setTold(s:MS δ)(v:Vector Int 5):MS δ:= {s with told:=v}
def MS.setLast(s:MS δ)(v:Vector RowT 5):MS δ:= {s with last:=v}
def Adr.nil:Adr:=⟨0, .pointer none, .slice none 0 0⟩
def dq(w:Int):Int:=IntKind.i64.wrap (1*2^min w.toNat IntKind.i64.bits)
def Dy(a b:BallotT):Bool:=if a.round≠b.round then decide (a.round<b.round)else decide (a.who<b.who)
def AO(a:AccT)(ep:Int)(b:BallotT):Bool:=decide (ep≠a.epoch)||(decide (b.round<1)||Dy b a.vow)
def bY(a:AccT)(ep:Int)(b:BallotT):AccT×Bool:=if AO a ep b then(a,false)else({a with vow:=b},true)
def g9(a:AccT)(ep:Int)(b:BallotT)(c:ChangeT):AccT×Bool:=if AO a ep b then(a,false)else({a with vow:=b,had:=b,change:=c},true)
def lV(bits:Int)(k:Nat):List Int:=((List.range k).filter λi:Nat=>IW bits ((i:Nat):Int)).map λi:Nat=>((i:Nat):Int)
def E5(bits:Int):List Int:=lV bits 5
def M8(part all:Int):Bool:=decide (2* (((E5 (uq .i64 part all)).length:Nat):Int)>(((E5 all).length:Nat):Int))
def ib(v:ViewT)(bits:Int):Bool:=M8 bits v.members
def kU(v:ViewT)(b:BallotT)(c:ChangeT):VoteT:= {VoteT.zero with view:=v,ballot:=b,change:=c}
def oK(v:VoteT)(who:Int)(b:BallotT):Bool:=decide (b.flat=v.ballot.flat)&&ju v.view who
def w7(v:VoteT)(who:Int)(had:BallotT)(c:ChangeT):VoteT:=
 if decide (0<had.round)&&Dy v.best had then {v with vowed:=js .i64 v.vowed (dq who),best:=had,change:=c}else {v with vowed:=js .i64 v.vowed (dq who)}
def ff(v:VoteT)(who:Int)(b had:BallotT)(c:ChangeT):VoteT×Bool:=
 if v.putting|| !oK v who b then(v,false)else({w7 v who had c with putting:=ib v.view (js .i64 v.vowed (dq who))},ib v.view (js .i64 v.vowed (dq who)))
def g8(v:VoteT)(who:Int)(b:BallotT):VoteT×Bool:=
 if !v.putting|| !oK v who b then(v,false)else({v with took:=js .i64 v.took (dq who)},ib v.view (js .i64 v.took (dq who)))
def lx(x:RowT)(who v:Int)(l:Vector CellT 4):RowT:=if h:cH who=true then {x with heir:=x.heir.set who.toNat v (fm h),left:=x.left.set who.toNat l (fm h)}else x
def sz(x:RowT)(who:Int):Vector CellT 4:=if h:cH who=true then x.left[who.toNat]'(fm h)else RowT.zero.cells
def ml(who:Int)(dead:RowT)(x:RowT)(i:Nat):RowT:=if((i:Nat):Int)≠who∧0<fh dead ((i:Nat):Int)∧fh x ((i:Nat):Int)=0 then lx x ((i:Nat):Int) (fh dead ((i:Nat):Int)) (sz dead ((i:Nat):Int))else x
def m7(x:RowT)(who:Int)(dead:RowT)(k:Nat):RowT:=(List.range k).foldl (ml who dead) (lx x who (gr (dead.version+1)) dead.cells)
def cz(x:RowT)(who:Int)(dead:RowT):RowT×Int:=
 if !cH who then(.zero,5)else if 0<fh x who then(.zero,8)else({m7 x who dead 5 with version:=gr ((m7 x who dead 5).version+1)},0)
def rW(s:MS δ)(who:Int):Int:=if h:cH who=true then s.told[who.toNat]'(fm h)else 0
def kx(s:MS δ)(who:Int):RowT:=if h:cH who=true then s.last[who.toNat]'(fm h)else .zero
def C3{α:Type}(v:Vector α 5)(w:Int)(x:α):Vector α 5:=if h:cH w=true then v.set w.toNat x (fm h)else v
def mB(s:MS δ)(who:Int)(y:RowT):MS δ:= {s with last:=if rW s who=0∨(kx s who).version<y.version then C3 s.last who y else s.last}
def vA(s:MS δ)(from' who:Int)(y:RowT):MS δ:= {mB s who y with told:=C3 s.told who (js .i64 (rW s who) (dq from'))}
def w9(s:MS δ)(who w:Int):Bool:=decide ((rW s who).fdiv (2^min w.toNat IntKind.i64.bits)%2=1)
def DZ(s:MS δ)(i:Nat):Bool:=decide (jV s.view ((i:Nat):Int)=some s.id)&&decide (fh s.own ((i:Nat):Int)≤0)
def iH(s:MS δ)(k:Nat):List Int:=((List.range k).filter (DZ s)).map λi:Nat=>((i:Nat):Int)
def bE(s:MS δ):List Int:=iH s 5
def wI(s:MS δ):Bool:=(bE s).all λi=>(gJ i).all λw=>w9 s i w
def mQ(s:MS δ)(l:List Int):RowT:=l.foldl (λx i=>if 0<fh x i then x else(cz x i (kx s i)).1) s.own
def jx(v:ViewT):MsgT:= {MsgT.zero with kind:=7,view:=v}
def nf(i:Int)(v:ViewT):MsgT:= {MsgT.zero with kind:=8,whose:=i,view:=v}
def fJ(ep:Int)(b:BallotT):MsgT:= {MsgT.zero with kind:=3,epoch:=ep,ballot:=b}
def kd(ep:Int)(b had:BallotT)(c:ChangeT):MsgT:= {MsgT.zero with kind:=4,epoch:=ep,ballot:=b,had:=had,change:=c}
def iT(ep:Int)(b:BallotT)(c:ChangeT):MsgT:= {MsgT.zero with kind:=5,epoch:=ep,ballot:=b,change:=c}
def ja(ep:Int)(b:BallotT):MsgT:= {MsgT.zero with kind:=6,epoch:=ep,ballot:=b}
def gZ(ep:Int)(b:BallotT):RecT:= {RecT.zero with kind:=3,epoch:=ep,ballot:=b}
def lr(ep:Int)(b:BallotT)(c:ChangeT):RecT:= {RecT.zero with kind:=4,epoch:=ep,ballot:=b,change:=c}
def dz(s:MS δ)(n:Int):MS δ:= {s with round:=n}
def lp(s:MS δ)(v:VoteT):MS δ:= {s with vote:=some v}
def vu(s:MS δ)(a:AccT):MS δ:= {s with acc:=a}
variable (K:Dk δ)
def gE(s:MS δ)(l:List SaidT):MS δ:= {s with o:=if K.dn s.e then s.o else s.o++l}
def Bh(s:MS δ)(to':Int)(m:MsgT):MS δ:=gE K s [⟨to',m⟩]
theorem qN(s:MS δ):gE K s []=s:=by
 unfold gE;rw[aR,ite_self]
theorem Jw(s:MS δ)(a b:List SaidT):gE K (gE K s a) b=gE K s (a++b):=by
 unfold gE
 by_cases h:K.dn s.e=true<;>simp[h]
def mZ(f:MS δ→MS δ)(s:MS δ)(to':Int)(m:MsgT):MS δ:=if to'=s.id then f s else Bh K s to' m
def dw(s:MS δ)(r:RecT):MS δ:= {s with e:=(K.pt s.e (dF r)).1}
def tK(s:MS δ)(r:RecT):Int:=(K.pt s.e (dF r)).2
def dI(s:MS δ)(op err val:Int):MS δ:= {s with replies:=s.replies++[⟨op,err,val⟩]}
def fg(s:MS δ):MS δ:=gE K s (oo (s.rep .nil))
def nj(id:Int)(m:MsgT)(p:Nat→Bool)(k:Nat):List SaidT:=((List.range k).filter λi:Nat=> !decide (((i:Nat):Int)=id)&&p i).map λi:Nat=>⟨((i:Nat):Int),m⟩
theorem jp(id:Int)(m:MsgT)(p:Nat→Bool)(k:Nat):nj id m p (k+1)=nj id m p k++(if((k:Nat):Int)≠id∧p k=true then [⟨((k:Nat):Int),m⟩]else []):=by
 unfold nj;rw[dd,List.filter_append,de]
 by_cases h:((k:Nat):Int)=id<;>by_cases h2:p k=true<;>simp[h,h2]
def k8(s:MS δ)(y:RowT):MS δ:=gE K s (nj s.id (pS s.id y) (λ_=>true) 5)
def l4(s:MS δ)(v:ViewT):MS δ:=gE K s (nj s.id (jx v) (λ_=>true) 5)
def qT(s:MS δ)(x:RowT)(op:Int):MS δ:= {s with own:=x,busy:=true,kept:=0,waits:=op}
def eW(s:MS δ)(x:RowT)(op:Int):MS δ×Int:=if tK K s (dT x)≠0 then(dw K s (dT x),tK K s (dT x))else(fg K (qT (dw K s (dT x)) x op),0)
def lH(s:MS δ):MS δ:=if s.busy||decide ((bE s).length=0)then s else if wI s then(eW K s (mQ s (bE s)) 0).1 else s
def gP(s:MS δ):MS δ:= {s with busy:=false,book:=(fz s.book s.id s.own).1}
def lS(s:MS δ):MS δ:= {s with replies:=if 0<s.waits then s.replies++[⟨s.waits,0,0⟩]else s.replies,waits:=if 0<s.waits then 0 else s.waits}
theorem zG{s:MS δ}(h:0<s.waits):lS s= {dI s s.waits 0 0 with waits:=0}:=by unfold lS;rw[if_pos h,if_pos h];rfl
theorem zH{s:MS δ}(h: ¬0<s.waits):lS s=s:=by unfold lS;rw[if_neg h,if_neg h]
def kL(s:MS δ):MS δ:=lH K (k8 K (lS (gP s)) s.own)
def l7(s:MS δ)(from' ver:Int):Bool:=s.busy&&(decide (ver=s.own.version)&&decide (from'∈gJ s.id))
def yl(s:MS δ):Bool:=(gJ s.id).all λw=> !Ca s.kept w
def iO(s:MS δ)(from':Int):MS δ:= {s with kept:=js .i64 s.kept (dq from')}
def dv(s:MS δ)(from':Int)(m:MsgT):MS δ:=if l7 s from' m.version then(if yl (iO s from')then kL K (iO s from')else iO s from')else s
def AN(s:MS δ)(w:Int)(y:RowT):MS δ:= {s with book:=(fz s.book w y).1}
def hZ(s:MS δ)(w:Int)(y:RowT):MS δ:= {s with mirror:=(kf s.mirror w y).1}
def iB(s:MS δ)(from':Int)(m:MsgT):MS δ:=
 if m.whose≠from'∨fy s.mirror m.whose=true then s
 else if kG s.mirror m.whose m.row then(if tK K s (fq m.whose m.row)≠0 then dw K s (fq m.whose m.row)else Bh K (hZ (dw K s (fq m.whose m.row)) m.whose m.row) from' (oz (cb (hZ (dw K s (fq m.whose m.row)) m.whose m.row).mirror m.whose).version))
 else Bh K s from' (oz (cb s.mirror m.whose).version)
def e8(s:MS δ)(from':Int)(m:MsgT):MS δ:=lH K (if from'∈gJ m.whose then vA s from' m.whose m.row else s)
def jY(s:MS δ)(w:Int):MS δ:= {s with mirror:=jR s.mirror w}
def eR(s:MS δ)(from' w:Int):MS δ:=
 let back:=λs:MS δ=>mZ K (λs=>e8 K s s.id (fZ w (cb s.mirror w))) s from' (fZ w (cb s.mirror w))
 if jV s.view w≠some from' then s
 else if fy s.mirror w then back s
 else if tK K s (gS w)≠0 then dw K s (gS w)else back (jY (dw K s (gS w)) w)
def gG(s:MS δ)(i w:Int):MS δ:=if w9 s i w then s else mZ K (λs=>eR K s s.id i) s w (nf i s.view)
def ma(s:MS δ)(i:Int):MS δ:=gG K (gG K s i ((i+1)%5)) i ((i+2)%5)
def gz(l:List Int)(s:MS δ):MS δ:=l.foldl (ma K) s
def p4(s:MS δ):MS δ:=gz K (bE s) s
def lG(s:MS δ)(v:ViewT):MS δ:= {s with view:=v,acc:= {AccT.zero with epoch:=v.epoch},vote:=none,round:=0}
def ru(s:MS δ)(v:ViewT):Bool:=decide (s.view.epoch<v.epoch)&&decide (tK K s (j7 v)=0)
def gN(s:MS δ)(v:ViewT):MS δ:=if v.epoch≤s.view.epoch then s else if tK K s (j7 v)≠0 then dw K s (j7 v)else p4 K (lG (dw K s (j7 v)) v)
def jm(s:MS δ)(from':Int)(m:MsgT):MS δ:=eR K (gN K s m.view) from' m.whose
def jy(s:MS δ)(c:ChangeT):MS δ:=if(ej s.view c).2≠0 then s else if ru K s (ej s.view c).1 then l4 K (gN K s (ej s.view c).1) (ej s.view c).1 else gN K s (ej s.view c).1
def eU(f:MS δ→MS δ)(s:MS δ)(from':Int)(m:MsgT):MS δ:=
 if m.epoch<s.view.epoch then(if m.kind=3∨m.kind=5 then Bh K s from' (jx s.view)else s)
 else if s.view.epoch<m.epoch∨ju s.view s.id=false then s
 else f (dz s (max s.round m.ballot.round))
def kC(from':Int)(m:MsgT)(s:MS δ):MS δ:=match s.vote with
 |none=>s
 |some vt=>if(g8 vt from' m.ballot).2 then jy K (lp s (g8 vt from' m.ballot).1) vt.change else(lp s (g8 vt from' m.ballot).1)
def pH(s:MS δ)(from':Int)(m:MsgT):MS δ:=eU K (kC K from' m) s from' m
def kE(from':Int)(m:MsgT)(s:MS δ):MS δ:=mZ K (λs=>pH K s s.id (ja m.epoch m.ballot)) s from' (ja m.epoch m.ballot)
def m5(from':Int)(m:MsgT)(s:MS δ):MS δ:=
 if(ej s.view m.change).2≠0 then s else if(g9 s.acc m.epoch m.ballot m.change).2=false then s
 else if(g9 s.acc m.epoch m.ballot m.change).1.flat≠s.acc.flat then(if tK K s (lr m.epoch m.ballot m.change)≠0 then dw K s (lr m.epoch m.ballot m.change)else kE K from' m (vu (dw K s (lr m.epoch m.ballot m.change)) (g9 s.acc m.epoch m.ballot m.change).1))
 else kE K from' m s
def qG(s:MS δ)(from':Int)(m:MsgT):MS δ:=eU K (m5 K from' m) s from' m
def jt(s:MS δ)(m:MsgT):MS δ:=gE K s (nj s.id m (λi=>ju s.view ((i:Nat):Int)) 5)
def jc(f:MS δ→MsgT→MS δ)(s:MS δ)(m:MsgT):MS δ:=if ju s.view s.id then f (jt K s m) m else jt K s m
def jM(s:MS δ)(vt:VoteT):MS δ:=jc K (λs m=>qG K s s.id m) s (iT s.view.epoch vt.ballot vt.change)
def oJ(from':Int)(m:MsgT)(s:MS δ):MS δ:=match s.vote with
 |none=>s
 |some vt=>if(ff vt from' m.ballot m.had m.change).2 then jM K (lp s (ff vt from' m.ballot m.had m.change).1) (ff vt from' m.ballot m.had m.change).1 else(lp s (ff vt from' m.ballot m.had m.change).1)
def pI(s:MS δ)(from':Int)(m:MsgT):MS δ:=eU K (oJ K from' m) s from' m
def mD(from':Int)(m:MsgT)(a:AccT)(s:MS δ):MS δ:=mZ K (λs=>pI K s s.id (kd m.epoch m.ballot a.had a.change)) s from' (kd m.epoch m.ballot a.had a.change)
def n4(from':Int)(m:MsgT)(s:MS δ):MS δ:=
 if(bY s.acc m.epoch m.ballot).2=false then s
 else if(bY s.acc m.epoch m.ballot).1.vow.flat≠s.acc.vow.flat then(if tK K s (gZ m.epoch m.ballot)≠0 then dw K s (gZ m.epoch m.ballot)else mD K from' m (bY s.acc m.epoch m.ballot).1 (vu (dw K s (gZ m.epoch m.ballot)) (bY s.acc m.epoch m.ballot).1))
 else mD K from' m (bY s.acc m.epoch m.ballot).1 s
def qH(s:MS δ)(from':Int)(m:MsgT):MS δ:=eU K (n4 K from' m) s from' m
def lC(s:MS δ)(vt:VoteT):MS δ:=jc K (λs m=>qH K s s.id m) s (fJ s.view.epoch vt.ballot)
def m6(s:MS δ)(vt:VoteT):MS δ:=if vt.putting then jM K s vt else lC K s vt
def e7(s:MS δ):BallotT:=⟨gr (s.round+1),s.id⟩
def nZ(s:MS δ)(c:ChangeT):MS δ:=lp (dz (vu (dw K s (gZ s.view.epoch (e7 s))) (bY s.acc s.view.epoch (e7 s)).1) (e7 s).round) (kU s.view (e7 s) c)
def cF(s:MS δ)(c:ChangeT):MS δ×Int:=
 if(bY s.acc s.view.epoch (e7 s)).2=false then(s,6)else if tK K s (gZ s.view.epoch (e7 s))≠0 then(dw K s (gZ s.view.epoch (e7 s)),tK K s (gZ s.view.epoch (e7 s)))else(nZ K s c,0)
def gy(s:MS δ)(c:ChangeT):Int:=if(ej s.view c).2=0∧s.vote.isSome=true then 8 else(ej s.view c).2
def dH(s:MS δ)(op:Int)(c:ChangeT):MS δ×Int:=
 if gy s c≠0 then(dI s op (gy s c) 0,gy s c)
 else if(cF K s c).2≠0 then(dI (cF K s c).1 op (cF K s c).2 0,(cF K s c).2)
 else(m6 K (dI (cF K s c).1 op 0 0) (kU s.view (e7 s) c),0)
def dm(s:MS δ)(o:OpT):RowT×Int×Int:=kF (s.rep .nil) o
def bP(s:MS δ):MS δ:= {s with ops:=gr (s.ops+1)}
def oT(s:MS δ)(o:OpT):MS δ×Int:=
 if(dm s o).2.2≠0∨o.kind=3 then(dI s s.ops (dm s o).2.2 (dm s o).2.1,(dm s o).2.2)
 else if(eW K s (dm s o).1 s.ops).2≠0 then(dI (eW K s (dm s o).1 s.ops).1 s.ops (eW K s (dm s o).1 s.ops).2 0,(eW K s (dm s o).1 s.ops).2)
 else((eW K s (dm s o).1 s.ops).1,0)
def ca(s:MS δ)(o:OpT):MS δ×Int:=if ju s.view s.id&&decide (o.kind=4)then dH K (bP s) (bP s).ops o.change else oT K (bP s) o
def gk(s:MS δ)(from':Int)(m:MsgT):MS δ:=
 if m.kind=0 then iB K s from' m else if m.kind=1 then dv K s from' m else if m.kind=2 then AN s m.whose m.row
 else if m.kind=7 then gN K s m.view else if m.kind=8 then jm K s from' m else if m.kind=9 then e8 K s from' m
 else if m.kind=3 then qH K s from' m else if m.kind=4 then pI K s from' m else if m.kind=5 then qG K s from' m else if m.kind=6 then pH K s from' m else s
def bT(s:MS δ):MS δ:=p4 K (lH K (if s.busy=true then fg K s else s))
def cd(s:MS δ):MS δ:=if 1<s.view.epoch then l4 K s s.view else s
def gj(s:MS δ):MS δ:=if 0< (bL s.book s.id).version then k8 K s (bL s.book s.id)else s
def o7(s:MS δ):MS δ:=match s.vote with
 |none=>s
 |some vt=>if(ej s.view vt.change).2=0 then(if(cF K s vt.change).2=0 then m6 K (cF K s vt.change).1 (kU s.view (e7 s) vt.change)else(cF K s vt.change).1)else s
def gU(s:MS δ):MS δ:=if ju (cd K (bT K s)).view (cd K (bT K s)).id then o7 K (gj K (cd K (bT K s)))else cd K (bT K s)
def iN(s:MS δ)(m:RecT):MS δ:=
 if m.kind=0 then {s with own:=m.row,busy:=true,kept:=0}
 else if m.kind=1 then hZ s m.whose m.row
 else if m.kind=2 then jY s m.whose
 else if m.kind=3 then {s with acc:= {s.acc with vow:=m.ballot},round:=max s.round m.ballot.round}
 else if m.kind=4 then {s with acc:= {s.acc with vow:=m.ballot,had:=m.ballot,change:=m.change},round:=max s.round m.ballot.round}
 else if m.kind=5 then lG s m.view
 else s
def iD:List (List UInt8)→MS δ→Option (MS δ)
 | [],s=>some s
 |b::bs,s=>if(cW b).2≠0 then none else iD bs (iN s (cW b).1)
def Gp(id:Int)(e:δ):MS δ:=⟨id, .zero, .zero, .zero, .zero,0,none, .zero,false,0,0,0,[], #v[0,0,0,0,0], #v[RowT.zero,RowT.zero,RowT.zero,RowT.zero,RowT.zero],e,[]⟩
def Bz(id:Int)(e:δ):MS δ:=lG (Gp id e) firstV
theorem HS{ls:List (List UInt8)}{k:Nat}{s:MS δ}(h:k<ls.length)(g:(cW ls[k]).2≠0):iD (ls.drop k) s=none:=by
 rw[dG h,iD,if_pos g]
theorem JD{ls:List (List UInt8)}{k:Nat}{s:MS δ}(h:k<ls.length)(g: ¬(cW ls[k]).2≠0):iD (ls.drop k) s=iD (ls.drop (k+1)) (iN s (cW ls[k]).1):=by
 rw[dG h,iD,if_neg g]
end Api
end

section
namespace Api
open Go Leg Codec Dsk Wal
theorem tY(m:RecT):(dF m).length≤3000:=by
 have h1:=iX m.row;have h2:=aV m.ballot.flat;have h4:=aV m.change.flat;have h5:=aV m.view.flat;have h6:=aV [m.kind,m.whose];have h8:=aV [m.kind,m.epoch];have h9:=aV [m.kind];simp only[BallotT.flat,ChangeT.flat,ViewT.flat,ax,aE,aC]at h2 h4 h5 h6 h8 h9;unfold dF
 repeat' split
 all_goals first|omega| (simp only[ai,BallotT.flat,ChangeT.flat,ViewT.flat,aE];omega)
abbrev wu(n:Int):Prop:= -9223372036854775808≤n∧n<9223372036854775808
theorem qy{n:Int}(h:wu n):(Lit.int .i64 n).wf=true:=by
 have m1:IntKind.i64.min= -9223372036854775808:=by decide
 have m2:IntKind.i64.max=9223372036854775807:=by decide
 simp only[Lit.wf,m1,m2,av,decide_eq_true_eq];omega
theorem ol(n:Int):wu (gr n):=by
 unfold gr wu;simp only[IntKind.wrap,IntKind.bits,IntKind.signed];simp;omega
structure CW(c:CellT):Prop where
 inn:wu c.inn
 out:wu c.out
 given: ∀(j:Nat) (h:j<5),wu c.given[j]
class OkRow(y:RowT):Prop where
 version:wu y.version
 cells: ∀(k:Nat) (h:k<4),CW y.cells[k]
 heir: ∀(i:Nat) (h:i<5),wu y.heir[i]
 left: ∀(i k:Nat) (h:i<5) (g:k<4),CW y.left[i][k]
theorem ti{α:Type}{n:Nat}{v:Vector α n}{x:α}(h:x∈v.toList): ∃(j:Nat) (h:j<n),x=v[j]:=by
 obtain⟨j,hj,rfl⟩:=fM h;rw[aC]at hj;exact⟨j,hj,by simp⟩
theorem GS{α:Type}{n:Nat}(v:Vector α n)(j:Nat)(h:j<n):v[j]∈v.toList:=by simp
theorem nB{m:Nat}{v:Vector CellT m}(h: ∀(k:Nat) (h:k<m),CW v[k]):WF (bN v.toList):=λn hn=>by
 obtain⟨c,hc,hn⟩:=kQ.1 hn;obtain⟨k,hk,rfl⟩:=ti hc;simp only[CellT.flat,cA]at hn;rcases hn with rfl|rfl|hn
 · exact qy (h k hk).inn
 · exact qy (h k hk).out
 · obtain⟨j,hj,rfl⟩:=ti hn
   exact qy ((h k hk).given j hj)
theorem OkRow.wf{x:RowT}(h:OkRow x):WF x.flat:=λn hn=>by
 simp only[RowT.flat,cA,bS]at hn;rcases hn with rfl|hn|hn|hn
 · exact qy h.version
 · exact nB h.cells n hn
 · obtain⟨j,hj,rfl⟩:=ti hn
   exact qy (h.heir j hj)
 · obtain⟨v,hv,hn⟩:=kQ.1 hn
   obtain⟨j,hj,rfl⟩:=ti hv;exact nB (λk hk=>h.left j k hj hk) n hn
abbrev Ew:= @OkRow.wf
theorem CW.of{m:Nat}{v:Vector CellT m}(h:WF (bN v.toList))(k:Nat)(hk:k<m):CW v[k]:=by
 have q: ∀n∈v[k].flat,wu n:=λn hn=>wZ (h n (kQ.2 ⟨_,GS v k hk,hn⟩))
 exact⟨q _ (by simp[CellT.flat]),q _ (by simp[CellT.flat]),λj hj=>q _ (by simp[CellT.flat])⟩
theorem OkRow.of{x:RowT}(h:WF x.flat):OkRow x:=
 ⟨wZ (h _ (by simp[RowT.flat])),CW.of λn hn=>h n (by simp[RowT.flat,hn]),λi hi=>wZ (h _ (by simp[RowT.flat])),
  λi k hi hk=>CW.of (λn hn=>h n (by simp only[RowT.flat,cA,bS,kQ];exact .inr (.inr (.inr ⟨_,GS x.left i hi,hn⟩)))) k hk⟩
class OkVw(v:ViewT):Prop where
 rng:Rng v
 wf:WF v.flat
class OkVt(v:VoteT):Prop where
 view:OkVw v.view
 ballot:WF v.ballot.flat
 change:WF v.change.flat
 best:WF v.best.flat
class OkMg(m:MsgT):Prop where
 row:OkRow m.row
 view:OkVw m.view
 ballot:WF m.ballot.flat
 had:WF m.had.flat
 change:WF m.change.flat
variable {δ:Type}
class OkR(K:outParam (Dk δ))(s:MS δ):Prop where
 e:K.ok s.e
 id:cH s.id=true
 view:OkVw s.view
 own:OkRow s.own
 mir: ∀(i:Nat) (h:i<5),OkRow s.mirror.rows[i]
 book: ∀(i:Nat) (h:i<5),OkRow s.book.rows[i]
 last: ∀(i:Nat) (h:i<5),OkRow s.last[i]
 acc:WF s.acc.flat
 vote: ∀vt,s.vote=some vt→OkVt vt
variable {K:Dk δ}
instance OkRow.zero:OkRow RowT.zero:=OkRow.of tame_rzero.wf
theorem CW.zero:CW .zero:=⟨by decide,by decide,λj hj=>by
 match j,hj with
 |0,_|1,_|2,_|3,_|4,_=>exact⟨(by decide:(-9223372036854775808:Int)≤0),(by decide:(0:Int)<9223372036854775808)⟩⟩
instance {s:MS δ}[h:OkR K s]:OkRow s.own:=h.own
instance {s:MS δ}[h:OkR K s]:OkVw s.view:=h.view
instance {m:MsgT}[h:OkMg m]:OkRow m.row:=h.row
instance {m:MsgT}[h:OkMg m]:OkVw m.view:=h.view
theorem na{α:Type}{n:Nat}{p:α→Prop}{v:Vector α n}{i:Nat}(hi:i<n){x:α}(h: ∀(j:Nat) (hj:j<n),p v[j])(hx:p x)(j:Nat)(hj:j<n):p (v.set i x hi)[j]:=by
 rw[Vector.getElem_set];split
 · exact hx
 · exact h j hj
instance {s:MS δ}[h:OkR K s](w:Int):OkRow (cb s.mirror w):=by unfold cb;split;exact h.mir _ _;exact .zero
instance {s:MS δ}[h:OkR K s](w:Int):OkRow (bL s.book w):=by unfold bL;split;exact h.book _ _;exact .zero
instance {s:MS δ}[h:OkR K s](w:Int):OkRow (kx s w):=by unfold kx;split;exact h.last _ _;exact .zero
theorem vm{x:RowT}[h:OkRow x](key:Int):CW (dX x key):=by unfold dX;split;exact h.cells _ _;exact .zero
theorem IH{x:RowT}[h:OkRow x](i:Int):wu (fh x i):=by unfold fh;split;exact h.heir _ _;exact⟨by decide,by decide⟩
theorem Ix{x:RowT}[h:OkRow x](i:Int)(k:Nat)(hk:k<4):CW (sz x i)[k]:=by unfold sz;split;exact h.left _ _ _ _;exact OkRow.zero.cells k hk
theorem xW{x:RowT}[h:OkRow x]{key n counts:Int}{c:CellT}(hc:CW c):OkRow (ld x key n counts c).1:=by
 unfold ld;split
 · exact .zero
 · refine⟨ol _,λk hk=>?_,λi hi=>?_,λi k hi hk=>?_⟩
   · show CW (mi x key c).cells[k]
     unfold mi;split
     · exact na (p:=CW) (BI (by assumption)) h.cells hc k hk
     · exact h.cells k hk
   · show wu (mi x key c).heir[i]
     unfold mi;split<;>exact h.heir i hi
   · show CW (mi x key c).left[i][k]
     unfold mi;split<;>exact h.left i k hi hk
instance {x:RowT}[OkRow x](key n:Int):OkRow (pL x key n).1:=by
 unfold pL;split
 · have:=vm (x:=x) key
   exact xW ⟨ol _,this.out,this.given⟩
 · exact .zero
instance {x:RowT}[OkRow x](key n:Int):OkRow (pM x key n).1:=by
 unfold pM;split
 · have:=vm (x:=x) key
   exact xW ⟨this.inn,ol _,this.given⟩
 · exact .zero
instance {x:RowT}[OkRow x](key n to':Int):OkRow (mh x key n to').1:=by
 unfold mh;split
 · have:=vm (x:=x) key
   refine xW ?_;unfold yk;split
   · exact⟨this.inn,this.out,na (p:=wu) (fm (by assumption)) this.given (ol _)⟩
   · exact this
 · exact .zero
theorem xo{x:RowT}(h:OkRow x){w v:Int}{l:Vector CellT 4}(hv:wu v)(hl: ∀(k:Nat) (h:k<4),CW l[k]):OkRow (lx x w v l):=by
 unfold lx;split
 · exact⟨h.version,h.cells,na (p:=wu) (fm (by assumption)) h.heir hv,λi k hi hk=>na (p:=λu:Vector CellT 4=>CW u[k]) (fm (by assumption)) (λj hj=>h.left j k hj hk) (hl k hk) i hi⟩
 · exact h
instance {x d:RowT}[h:OkRow x][g:OkRow d](who:Int):OkRow (cz x who d).1:=by
 have q: ∀k,OkRow (m7 x who d k):=λk=>by
  induction k with
  |zero=>exact xo h (ol _) g.cells
  |succ k ih=>
   have e:m7 x who d (k+1)=ml who d (m7 x who d k) k:=by unfold m7;rw[dd,fj];rfl
   rw[e];unfold ml;split
   · exact xo ih (IH _) (Ix _)
   · exact ih
 unfold cz;split
 · exact .zero
 split
 · exact .zero
 · exact⟨ol _,(q 5).cells,(q 5).heir,(q 5).left⟩
instance {s:MS δ}[h:OkR K s](l:List Int):OkRow (mQ s l):=by
 have: ∀(l:List Int) (x:RowT),OkRow x→OkRow (l.foldl (λx i=>if 0<fh x i then x else(cz x i (kx s i)).1) x):=λl=>by
  induction l with
  |nil=>exact λx hx=>hx
  |cons i l ih=>exact λx hx=>ih _ (by dsimp only;split;exact hx;exact inferInstance)
 exact this l _ h.own
instance {s:MS δ}[h:OkR K s](o:OpT):OkRow (dm s o).1:=by
 have:OkRow (gF (s.rep .nil) o).1:=by
  unfold gF
  repeat' split
  all_goals first|exact .zero|exact inferInstanceAs (OkRow (pL s.own _ _).1)|exact inferInstanceAs (OkRow (pM s.own _ _).1)|exact inferInstanceAs (OkRow (mh s.own _ _ _).1)
 unfold dm kF
 repeat' split
 all_goals first|exact .zero|exact this
theorem yh{l:List Int}{k:Nat}(h:k<l.length):(ints l)[k]?=some (.int .i64 (l.getD k 0)):=by simp[ints,h,List.getD_eq_getElem?_getD]
theorem pY(s:MS δ)(k:Nat):iH s (k+1)=iH s k++(if DZ s k then [((k:Nat):Int)]else []):=by
 unfold iH;rw[dd,List.filter_append,de]
 by_cases h:DZ s k=true<;>simp[h]
theorem xn(b:Int)(k:Nat):lV b (k+1)=lV b k++(if IW b ((k:Nat):Int)then [((k:Nat):Int)]else []):=by
 unfold lV;rw[dd,List.filter_append,de]
 by_cases h:IW b ((k:Nat):Int)=true<;>simp[h]
theorem uP(b:Int)(k:Nat):(lV b k).length≤k:=by
 unfold lV;rw[cf];exact zC (Cf _ _) (by simp)
theorem vf{v:ViewT}{w i:Int}(h:(jV v w).isSome=true)(g:(jV v w).getD 0=i):jV v w=some i:=by
 cases q:jV v w with
 |none=>rw[q]at h;cases h
 |some z=>rw[q]at g;rw[←g];rfl
theorem BO{s:MS δ}{k:Nat}(h:DZ s k=true):jV s.view ((k:Nat):Int)=some s.id∧fh s.own ((k:Nat):Int)≤0:=by
 unfold DZ at h;rw[av,decide_eq_true_iff,decide_eq_true_iff]at h;exact h
theorem N1{s:MS δ}{k:Nat}(h1:(jV s.view ((k:Nat):Int)).isSome=true)(h2:(jV s.view ((k:Nat):Int)).getD 0=s.id)(h3:fh s.own ((k:Nat):Int)≤0):DZ s k=true:=by
 unfold DZ;rw[av,decide_eq_true_iff,decide_eq_true_iff];refine⟨?_,h3⟩;cases q:jV s.view ((k:Nat):Int)with
 |none=>rw[q]at h1;cases h1
 |some z=>rw[q]at h2;rw[←h2];rfl
theorem Aw(s:MS δ)(k:Nat):(iH s k).length≤k:=by
 unfold iH;rw[cf];exact zC (Cf _ _) (by simp)
theorem NX{x d:RowT}{who:Int}(h:cH who=true)(h2: ¬0<fh x who):(cz x who d).2=0:=by
 rw[cz,h,if_neg (by decide),if_neg h2]
theorem Ee(K:Dk δ){l:List Int}{q:Nat}(h:q<l.length)(s:MS δ):gz K (l.take (q+1)) s=ma K (gz K (l.take q) s) (l.getD q 0):=by
 unfold gz;rw[cB h,fj,List.getD_eq_getElem?_getD,List.getElem?_eq_getElem h];rfl
theorem we(s:MS δ){l:List Int}{q:Nat}(h:q<l.length):mQ s (l.take (q+1))=(if 0<fh (mQ s (l.take q)) (l.getD q 0)then mQ s (l.take q)else(cz (mQ s (l.take q)) (l.getD q 0) (kx s (l.getD q 0))).1):=by
 unfold mQ;rw[cB h,fj,List.getD_eq_getElem?_getD,List.getElem?_eq_getElem h];rfl
theorem ub{s:MS δ}{i:Int}(h:i∈bE s):cH i=true∧jV s.view i=some s.id∧fh s.own i≤0:=by
 unfold bE iH at h;rw[dQ]at h;obtain⟨k,hk,rfl⟩:=h;rw[N7,fA]at hk;have h2:=hk.2;unfold DZ at h2;rw[av,decide_eq_true_iff,decide_eq_true_iff]at h2;exact⟨decide_eq_true ⟨by omega,by omega⟩,h2.1,h2.2⟩
theorem hO(x:RowT){k:Nat}(h:k<5):fh x ((k:Nat):Int)=x.heir[k]:=by
 rw[fh,dif_pos (show cH ((k:Nat):Int)=true from decide_eq_true ⟨by omega,by omega⟩)];rfl
theorem Ja(w:Int):(gJ w).length≤1000000:=by unfold gJ;split<;>simp
theorem GU{k:Nat}(h:k<5):cH ((k:Nat):Int)=true:=decide_eq_true ⟨by omega,by omega⟩
theorem Iy(x:RowT){k:Nat}(h:k<5):sz x ((k:Nat):Int)=x.left[k]:=by
 rw[sz,dif_pos (GU h)];rfl
theorem E6(x:RowT){k:Nat}(h:k<5)(v:Int)(l:Vector CellT 4):lx x ((k:Nat):Int) v l= {x with heir:=x.heir.set k v h,left:=x.left.set k l h}:=by
 rw[lx,dif_pos (GU h)];rfl
theorem l8(x:RowT)(who:Int)(dead:RowT)(k:Nat):m7 x who dead (k+1)=ml who dead (m7 x who dead k) k:=by unfold m7;rw[dd,fj];rfl
instance OkVw.first:OkVw firstV:=⟨Rng.first,λn hn=>by
 have h:n∈[(1:Int),7,0,0,0,0,0]:=hn;simp only[cA,List.not_mem_nil,or_false,or_self]at h
 rcases h with rfl|rfl|rfl<;>decide⟩
instance OkVw.zero:OkVw ViewT.zero:=⟨Rng.zero,λn hn=>by
 have h:n∈[(0:Int),0,0,0,0,0,0]:=hn;simp only[cA,List.not_mem_nil,or_false,or_self]at h
 rcases h with rfl;decide⟩
theorem EP{v:ViewT}(h1:wu v.epoch)(h2:wu v.members)(hr:Rng v):WF v.flat:=λn hn=>by
 simp only[ViewT.flat,cA]at hn;rcases hn with rfl|rfl|hn
 · exact qy h1
 · exact qy h2
 · obtain⟨j,hj,rfl⟩:=ti hn
   have:=hr j hj;exact qy ⟨by omega,by omega⟩
theorem sZ(n:Int):wu (IntKind.i64.wrap n):=ol n
instance OkVw.next{v:ViewT}[h:OkVw v](c:ChangeT):OkVw (ej v c).1:=by
 unfold ej;split
 · exact .zero
 split
 · split
   · exact .zero
   · exact⟨h.rng,EP (sZ _) (sZ _) h.rng⟩
 split
 · split
   · exact .zero
   · have hr:Rng ⟨IntKind.i64.wrap (v.epoch+1),nz .i64 v.members (2^c.who.toNat),sB v c⟩:=λi hi=>by
      show 0≤(sB v c)[i]∧(sB v c)[i]≤5;unfold sB;rw[Vector.getElem_mapIdx];unfold va;split
      · have hm:cH c.heir=true:=by
         rename_i q _ _ _ _;simp only[N9,Bool.not_eq_true',not_or,Bool.not_eq_false]at q;exact q.2
        have hm2:0≤c.heir∧c.heir<5:=of_decide_eq_true hm;omega
      · exact h.rng i hi
     exact⟨hr,EP (sZ _) (sZ _) hr⟩
 · exact .zero
theorem KP{b:BallotT}(h1:wu b.round)(h2:wu b.who):WF b.flat:=λn hn=>by
 have h:n∈[b.round,b.who]:=hn;simp only[cA,List.not_mem_nil,or_false]at h;rcases h with rfl|rfl
 · exact qy h1
 · exact qy h2
theorem iu:WF BallotT.zero.flat:=KP (by decide) (by decide)
theorem qi:WF ChangeT.zero.flat:=λn hn=>by
 have h:n∈[(0:Int),0,0]:=hn;simp only[cA,List.not_mem_nil,or_false,or_self]at h;rcases h with rfl;decide
instance OkMg.sealed(w:Int)(y:RowT)[h:OkRow y]:OkMg (fZ w y):=⟨h, .zero,iu,iu,qi⟩
instance OkMg.sealW(w:Int)(v:ViewT)[h:OkVw v]:OkMg (nf w v):=⟨.zero,h,iu,iu,qi⟩
section
variable {s:MS δ}
instance [h:OkR K s](l:List SaidT):OkR K (gE K s l):=⟨h.e,h.id,h.view,h.own,h.mir,h.book,h.last,h.acc,h.vote⟩
instance {p:Prop}[Decidable p]{a b:MS δ}[ha:OkR K a][hb:OkR K b]:OkR K (if p then a else b):=by split;exact ha;exact hb
instance {f:MS δ→MS δ}{t:Int}{m:MsgT}[h:OkR K s][hf:OkR K (f s)]:OkR K (mZ K f s t m):=by
 unfold mZ;split
 · exact hf
 · exact⟨h.e,h.id,h.view,h.own,h.mir,h.book,h.last,h.acc,h.vote⟩
instance [h:OkR K s](t:Int)(m:MsgT):OkR K (Bh K s t m):=inferInstanceAs (OkR K (gE K s _))
instance [h:OkR K s](r:RecT):OkR K (dw K s r):=⟨K.sure _ _ h.e (tY r),h.id,h.view,h.own,h.mir,h.book,h.last,h.acc,h.vote⟩
instance [h:OkR K s](a b c:Int):OkR K (dI s a b c):=⟨h.e,h.id,h.view,h.own,h.mir,h.book,h.last,h.acc,h.vote⟩
instance [h:OkR K s]:OkR K (bP s):=⟨h.e,h.id,h.view,h.own,h.mir,h.book,h.last,h.acc,h.vote⟩
instance [h:OkR K s](f:Int):OkR K (iO s f):=⟨h.e,h.id,h.view,h.own,h.mir,h.book,h.last,h.acc,h.vote⟩
instance [h:OkR K s]:OkR K (lS s):=⟨h.e,h.id,h.view,h.own,h.mir,h.book,h.last,h.acc,h.vote⟩
theorem zY{b:BookT}{w:Int}{x:RowT}(h: ∀(i:Nat) (h:i<5),OkRow b.rows[i])(hx:OkRow x): ∀(i:Nat) (h:i<5),OkRow (fz b w x).1.rows[i]:=by
 unfold fz;split
 · unfold uU
   split
   · exact na (p:=OkRow) (fm (by assumption)) h hx
   · exact h
 · exact h
instance OkR.merge[h:OkR K s](w:Int)(x:RowT)[hx:OkRow x]:OkR K (AN s w x):=⟨h.e,h.id,h.view,h.own,h.mir,zY h.book hx,h.last,h.acc,h.vote⟩
instance [h:OkR K s]:OkR K (gP s):=⟨h.e,h.id,h.view,h.own,h.mir,zY h.book h.own,h.last,h.acc,h.vote⟩
theorem Fw{b:MirT}{w:Int}{x:RowT}(h: ∀(i:Nat) (h:i<5),OkRow b.rows[i])(hx:OkRow x): ∀(i:Nat) (h:i<5),OkRow (kf b w x).1.rows[i]:=by
 unfold kf;split
 · unfold u7
   split
   · exact na (p:=OkRow) (fm (by assumption)) h hx
   · exact h
 · exact h
instance [h:OkR K s](w:Int)(x:RowT)[hx:OkRow x]:OkR K (hZ s w x):=⟨h.e,h.id,h.view,h.own,Fw h.mir hx,h.book,h.last,h.acc,h.vote⟩
instance [h:OkR K s](w:Int):OkR K (jY s w):=⟨h.e,h.id,h.view,h.own,λi hi=>by
 show OkRow (jR s.mirror w).rows[i]
 unfold jR;split<;>exact h.mir i hi,h.book,h.last,h.acc,h.vote⟩
instance [h:OkR K s](x:RowT)[hx:OkRow x](op:Int):OkR K (qT s x op):=⟨h.e,h.id,h.view,hx,h.mir,h.book,h.last,h.acc,h.vote⟩
instance [OkR K s]:OkR K (fg K s):=inferInstanceAs (OkR K (gE K s _))
instance [OkR K s](y:RowT):OkR K (k8 K s y):=inferInstanceAs (OkR K (gE K s _))
instance [OkR K s](v:ViewT):OkR K (l4 K s v):=inferInstanceAs (OkR K (gE K s _))
instance [OkR K s](m:MsgT):OkR K (jt K s m):=inferInstanceAs (OkR K (gE K s _))
instance [OkR K s](x:RowT)[OkRow x](op:Int):OkR K (eW K s x op).1:=by unfold eW;split<;>exact inferInstance
instance [h:OkR K s]:OkR K (lH K s):=by
 unfold lH;split
 · exact h
 split
 · exact inferInstance
 · exact h
instance [OkR K s]:OkR K (kL K s):=by unfold kL;exact inferInstance
instance [h:OkR K s](f:Int)(m:MsgT):OkR K (dv K s f m):=by
 unfold dv
 repeat' split
 all_goals exact inferInstance
instance [h:OkR K s](f:Int)(m:MsgT)[OkMg m]:OkR K (iB K s f m):=by
 unfold iB
 repeat' split
 all_goals exact inferInstance
theorem Ly{v:Vector RowT 5}{w:Int}{x:RowT}(h: ∀(i:Nat) (h:i<5),OkRow v[i])(hx:OkRow x): ∀(i:Nat) (h:i<5),OkRow (C3 v w x)[i]:=by
 unfold C3;split
 · exact na (p:=OkRow) (fm (by assumption)) h hx
 · exact h
instance [h:OkR K s](w:Int)(x:RowT)[hx:OkRow x]:OkR K (mB s w x):=⟨h.e,h.id,h.view,h.own,h.mir,h.book,by
 show ∀(i:Nat) (h:i<5),OkRow (if rW s w=0∨(kx s w).version<x.version then C3 s.last w x else s.last)[i];split
 · exact Ly h.last hx
 · exact h.last,h.acc,h.vote⟩
instance [OkR K s](f w:Int)(y:RowT)[OkRow y]:OkR K (vA s f w y):=by
 have h:OkR K (mB s w y):=inferInstance;exact⟨h.e,h.id,h.view,h.own,h.mir,h.book,h.last,h.acc,h.vote⟩
instance [h:OkR K s](f:Int)(m:MsgT)[OkMg m]:OkR K (e8 K s f m):=by unfold e8;split<;>exact inferInstance
theorem xt[OkR K s]{f:MS δ→MS δ}(hf:OkR K (f s))(t:Int)(m:MsgT):OkR K (mZ K f s t m):=by unfold mZ;split;exact hf;exact inferInstance
instance [h:OkR K s](f w:Int):OkR K (eR K s f w):=by
 unfold eR
 repeat' split
 · exact h
 · exact xt inferInstance _ _
 · exact inferInstance
 · exact xt inferInstance _ _
instance [h:OkR K s](i w:Int):OkR K (gG K s i w):=by
 unfold gG;split
 · exact h
 · exact xt inferInstance _ _
instance [OkR K s](i:Int):OkR K (ma K s i):=by unfold ma;exact inferInstance
theorem vl: ∀(l:List Int) (s:MS δ),OkR K s→OkR K (gz K l s)
 | [],_,h=>h
 |i::l,s,h=>vl l (ma K s i) inferInstance
instance [h:OkR K s]:OkR K (p4 K s):=vl _ _ h
theorem PJ(n:Int)(h:wu n):WF ({AccT.zero with epoch:=n}:AccT).flat:=λk hk=>by
 have q:k∈[n,0,0,0,0,0,0,0]:=hk;simp only[cA,List.not_mem_nil,or_false,or_self]at q;rcases q with rfl|rfl
 · exact qy h
 · decide
instance [h:OkR K s](v:ViewT)[hv:OkVw v]:OkR K (lG s v):=⟨h.e,h.id,hv,h.own,h.mir,h.book,h.last,PJ _ (wZ (hv.wf _ (by simp[ViewT.flat]))),λ_ e=>nomatch e⟩
instance [h:OkR K s](v:ViewT)[OkVw v]:OkR K (gN K s v):=by
 unfold gN
 repeat' split
 all_goals exact inferInstance
instance [h:OkR K s](f:Int)(m:MsgT)[OkMg m]:OkR K (jm K s f m):=by unfold jm;exact inferInstance
instance [h:OkR K s](c:ChangeT):OkR K (jy K s c):=by
 unfold jy
 repeat' split
 all_goals exact inferInstance
class OkAc(a:AccT):Prop where wf:WF a.flat
instance [h:OkR K s]:OkAc s.acc:=⟨h.acc⟩
theorem oV{a b:List Int}(h:WF (a++b)):WF a:=λn hn=>h n (List.mem_append_left _ hn)
theorem uE{a b:List Int}(h:WF (a++b)):WF b:=λn hn=>h n (Ce _ hn)
theorem OkAc.vow{a:AccT}(h:OkAc a):WF a.vow.flat:=uE (oV (oV h.wf))
theorem OkAc.had{a:AccT}(h:OkAc a):WF a.had.flat:=uE (oV h.wf)
theorem OkAc.change{a:AccT}(h:OkAc a):WF a.change.flat:=uE h.wf
theorem OkAc.epoch{a:AccT}(h:OkAc a):WF [a.epoch]:=oV (oV (oV h.wf))
theorem OkAc.ask{a:AccT}(h:OkAc a){ep:Int}{b:BallotT}(hb:WF b.flat):OkAc (bY a ep b).1:=by
 unfold bY;split
 · exact h
 · exact⟨mP (mP (mP h.epoch hb) h.had) h.change⟩
theorem OkAc.put{a:AccT}(h:OkAc a){ep:Int}{b:BallotT}{c:ChangeT}(hb:WF b.flat)(hc:WF c.flat):OkAc (g9 a ep b c).1:=by
 unfold g9;split
 · exact h
 · exact⟨mP (mP (mP h.epoch hb) hb) hc⟩
instance [h:OkR K s](n:Int):OkR K (dz s n):=⟨h.e,h.id,h.view,h.own,h.mir,h.book,h.last,h.acc,h.vote⟩
instance [h:OkR K s](v:VoteT)[hv:OkVt v]:OkR K (lp s v):=⟨h.e,h.id,h.view,h.own,h.mir,h.book,h.last,h.acc,λ_ e=>cw e▸hv⟩
instance [h:OkR K s](a:AccT)[ha:OkAc a]:OkR K (vu s a):=⟨h.e,h.id,h.view,h.own,h.mir,h.book,h.last,ha.wf,h.vote⟩
instance {v:VoteT}[h:OkVt v]{m:MsgT}[hm:OkMg m](w:Int):OkVt (ff v w m.ballot m.had m.change).1:=by
 unfold ff;split
 · exact h
 · unfold w7
   split
   · exact⟨h.view,h.ballot,hm.change,hm.had⟩
   · exact⟨h.view,h.ballot,h.change,h.best⟩
instance {v:VoteT}[h:OkVt v](w:Int)(b:BallotT):OkVt (g8 v w b).1:=by
 unfold g8;split
 · exact h
 · exact⟨h.view,h.ballot,h.change,h.best⟩
instance {m:MsgT}[hm:OkMg m][h:OkR K s](ep:Int):OkAc (bY s.acc ep m.ballot).1:=OkAc.ask ⟨h.acc⟩ hm.ballot
instance {m:MsgT}[hm:OkMg m][h:OkR K s](ep:Int):OkAc (g9 s.acc ep m.ballot m.change).1:=OkAc.put ⟨h.acc⟩ hm.ballot hm.change
instance tookF_ok[h:OkR K s](f:Int)(m:MsgT):OkR K (kC K f m s):=by
 unfold kC;split
 · exact h
 · rename_i vt hv
   have:=h.vote vt hv;split<;>exact inferInstance
theorem tg[h:OkR K s]{f:MS δ→MS δ}(hf: ∀s:MS δ,OkR K s→OkR K (f s))(w:Int)(m:MsgT):OkR K (eU K f s w m):=by
 unfold eU
 repeat' split
 · exact inferInstance
 · exact h
 · exact h
 · exact hf _ inferInstance
instance [OkR K s](w:Int)(m:MsgT):OkR K (pH K s w m):=tg (λ_ _=>inferInstance) w m
instance [h:OkR K s](w:Int)(m:MsgT):OkR K (kE K w m s):=by unfold kE;exact inferInstance
instance [h:OkR K s](w:Int)(m:MsgT)[OkMg m]:OkR K (m5 K w m s):=by
 unfold m5
 repeat' split
 all_goals exact inferInstance
instance [OkR K s](w:Int)(m:MsgT)[OkMg m]:OkR K (qG K s w m):=tg (λ_ _=>inferInstance) w m
instance OkMg.putM(ep:Int){vt:VoteT}[h:OkVt vt]:OkMg (iT ep vt.ballot vt.change):=⟨.zero, .zero,h.ballot,iu,h.change⟩
instance OkMg.askM(ep:Int){vt:VoteT}[h:OkVt vt]:OkMg (fJ ep vt.ballot):=⟨.zero, .zero,h.ballot,iu,qi⟩
instance OkMg.takenM(ep:Int){m:MsgT}[h:OkMg m]:OkMg (ja ep m.ballot):=⟨.zero, .zero,h.ballot,iu,qi⟩
theorem OkMg.promM(ep:Int){m:MsgT}[h:OkMg m]{a:AccT}(ha:OkAc a):OkMg (kd ep m.ballot a.had a.change):=⟨.zero, .zero,h.ballot,ha.had,ha.change⟩
theorem vO[h:OkR K s]{f:MS δ→MsgT→MS δ}{m:MsgT}(hf: ∀s:MS δ,OkR K s→OkR K (f s m)):OkR K (jc K f s m):=by
 unfold jc;split
 · exact hf _ inferInstance
 · exact inferInstance
instance [h:OkR K s](vt:VoteT)[OkVt vt]:OkR K (jM K s vt):=vO λ_ _=>inferInstance
instance [h:OkR K s](f:Int)(m:MsgT)[OkMg m]:OkR K (oJ K f m s):=by
 unfold oJ;split
 · exact h
 · rename_i vt hv
   have:=h.vote vt hv;split<;>exact inferInstance
instance [OkR K s](w:Int)(m:MsgT)[OkMg m]:OkR K (pI K s w m):=tg (λ_ _=>inferInstance) w m
theorem yL[h:OkR K s](w:Int)(m:MsgT)[OkMg m]{a:AccT}(ha:OkAc a):OkR K (mD K w m a s):=by
 have:=OkMg.promM m.epoch (m:=m) ha;unfold mD;exact inferInstance
instance [h:OkR K s](w:Int)(m:MsgT)[OkMg m]:OkR K (n4 K w m s):=by
 unfold n4
 repeat' split
 · exact h
 · exact inferInstance
 · exact yL w m inferInstance
 · exact yL w m inferInstance
instance [OkR K s](w:Int)(m:MsgT)[OkMg m]:OkR K (qH K s w m):=tg (λ_ _=>inferInstance) w m
instance [h:OkR K s](vt:VoteT)[OkVt vt]:OkR K (lC K s vt):=vO λ_ _=>inferInstance
instance [h:OkR K s](vt:VoteT)[OkVt vt]:OkR K (m6 K s vt):=by unfold m6;split<;>exact inferInstance
theorem EM{v:VoteT}{w:Int}{b had:BallotT}{c:ChangeT}(h:(ff v w b had c).2=true):(ff v w b had c).1.putting=true:=by
 unfold ff at h ⊢;split
 · rename_i q;rw[if_pos q]at h;cases h
 · rename_i q;rw[if_neg q]at h;exact h
theorem Jk(s:MS δ)[h:OkR K s]:WF (e7 s).flat:=KP (ol _) (by have:0≤s.id∧s.id<5:=of_decide_eq_true h.id;exact⟨by show _≤s.id;omega,by show s.id<_;omega⟩)
class OkCh(c:ChangeT):Prop where wf:WF c.flat
instance newVote_ok[h:OkR K s](c:ChangeT)[hc:OkCh c]:OkVt (kU s.view (e7 s) c):=⟨h.view,Jk s,hc.wf,iu⟩
instance {vt:VoteT}[h:OkVt vt]:OkCh vt.change:=⟨h.change⟩
instance [h:OkR K s](c:ChangeT)[OkCh c]:OkR K (nZ K s c):=by
 have:OkAc (bY s.acc s.view.epoch (e7 s)).1:=OkAc.ask ⟨h.acc⟩ (Jk s);unfold nZ;exact inferInstance
instance [h:OkR K s](c:ChangeT)[OkCh c]:OkR K (cF K s c).1:=by
 unfold cF
 repeat' split
 all_goals exact inferInstance
theorem sL{c:ChangeT}(h:(cF K s c).2=0):(cF K s c).1.vote=some (kU s.view (e7 s) c):=by
 unfold cF at h ⊢
 by_cases h1:(bY s.acc s.view.epoch (e7 s)).2=false
 · rw[if_pos h1]at h;cases h
 by_cases h2:tK K s (gZ s.view.epoch (e7 s))≠0
 · rw[if_neg h1,if_pos h2]at h;exact absurd h h2
 · rw[if_neg h1,if_neg h2];rfl
instance [h:OkR K s](op:Int)(c:ChangeT)[OkCh c]:OkR K (dH K s op c).1:=by
 unfold dH
 repeat' split
 all_goals exact inferInstance
instance [h:OkR K s](o:OpT):OkR K (oT K s o).1:=by
 unfold oT
 repeat' split
 all_goals exact inferInstance
instance [h:OkR K s](o:OpT)[OkCh o.change]:OkR K (ca K s o).1:=by unfold ca;split<;>exact inferInstance
instance [h:OkR K s]:OkR K (bT K s):=by unfold bT;exact inferInstance
instance [h:OkR K s]:OkR K (cd K s):=by unfold cd;exact inferInstance
instance [h:OkR K s]:OkR K (gj K s):=by unfold gj;exact inferInstance
instance [h:OkR K s]:OkR K (o7 K s):=by
 unfold o7;split
 · exact h
 · rename_i vt hv
   have:=h.vote vt hv
   repeat' split
   all_goals exact inferInstance
instance [h:OkR K s]:OkR K (gU K s):=by unfold gU;exact inferInstance
instance [h:OkR K s](f:Int)(m:MsgT)[OkMg m]:OkR K (gk K s f m):=by
 unfold gk
 repeat' split
 all_goals exact inferInstance
theorem jq(s:MS δ)(c:ChangeT):(cF K s c).1.replies=s.replies:=by
 unfold cF;split
 · rfl
 · split<;>rfl
theorem kg(s:MS δ)(x:RowT)(op:Int):(eW K s x op).1.replies=s.replies:=by unfold eW;split<;>rfl
end
end Api
end

section
namespace Leg
open Go Codec Api Go.Conc
section
variable {P:Program} {w0:World} {F:Hl} {n:Nat} {ops:Array Oper} {Q:QQ} {is:List Nat} {D:List Deferred} {L:List (Nat×Value)} {H:List HP} {i d:Nat} {o:Oper}
theorem TX.recv1{x:Operand}{t e:TypeId}{dir:ChanDir}{c cap s r:Nat}{z v:Value}{vs vs0:List Value}(k:Nat)(ho:ops[i]?=some o)(hw:Want n D ops o L)(hop:o.op= .recv t x false)(hd:o.dst=some d)(hn:Nat.blt d n=true)(ht:P.underlying t=some (.chan dir e))(hz:(P.info? e).map (·.zero)=some (some z))
 (hx:cR L x=some (.chan (some c))) (hk:Nat.blt k H.length=true) (hH:H.getD k (λ_=>True)=eA c cap vs0 s r) (he:vs0=v::vs)
 (h:TX P w0 F n ops Q is D ((d,v)::L) (H.set k (eA c cap vs s (r+1)))):TX P w0 F n ops Q (i::is) D L H:=λa w f sm m=>by
 subst he;have hc:=m.chan k hk hH
 have hr:(execOp a.eval o).run P w= .ok (.comm #[{chan:= .chan (some c),send:=none,zero:=z}] true (.recv false)) w:=by
  simp[execOp,hop,f.eval hx,Sem.run_bind,run_underlying ht,pd hz]
 refine Oe (v:=v) (w2:=w.setChan c cap vs.toArray false s (r+1) false) ho (hw a f) hr (λfr cs es hs=>?_) ?_
 · have:=step_lone_recv_buf false hs hc (by simp)
   rw[this];simp[got]
 · rw[hd]
   exact h _ _ (f.put (lb hn) _) (sm.setChan ..) (m.setChan k hk hH)
theorem TX.send1{x y:Operand}{c cap s r:Nat}{v:Value}{vs:List Value}(k:Nat)(ho:ops[i]?=some o)(hw:Want n D ops o L)(hop:o.op= .send x y)(hd:o.dst=none)
 (hx:cR L x=some (.chan (some c))) (hy:cR L y=some v) (hk:Nat.blt k H.length=true) (hH:H.getD k (λ_=>True)=eA c cap vs s r) (hroom:vs.length<cap)
 (h:TX P w0 F n ops Q is D L (H.set k (eA c cap (vs++[v]) (s+1) r))):TX P w0 F n ops Q (i::is) D L H:=λa w f sm m=>by
 have hc:=m.chan k hk hH
 have hr:(execOp a.eval o).run P w= .ok (.comm #[{chan:= .chan (some c),send:=some v,zero:= .tuple #[]}] true .send) w:=by
  simp[execOp,hop,f.eval hx,f.eval hy,Sem.run]
 refine Oe (v:=undef) (w2:=w.setChan c cap (vs++[v]).toArray false (s+1) r false) ho (hw a f) hr (λfr cs es hs=>?_) ?_
 · have:=step_lone_send_room hs hc (by simpa using hroom)
   rw[this];simp
 · rw[hd]
   exact h _ _ f (sm.setChan ..) (m.setChan k hk hH)
end
def DM(k:Nat)(u:Value):Value:=if k=0 then .slice none 0 0 else u
theorem JC{α:Type}{l:List α}{k:Nat}(h:k<l.length):l.drop k++l.take k=l[k]::(l.drop (k+1)++l.take k):=by rw[dG h];rfl
theorem Dd{α:Type}{l:List α}{k:Nat}(h:k<l.length):(l.drop (k+1)++l.take k)++[l[k]]=l.drop (k+1)++l.take (k+1):=by rw[aG,cB h]
end Leg
namespace Leg
open Go
theorem Kv{us:List Value}{k:Nat}(h:k=0)(hk:k<us.length):us[k]=DM (k+1) (us.getD 0 undef):=by
 subst h;unfold DM;rw[if_neg (by omega)];simp[List.getD_eq_getElem?_getD,hk]
theorem Kt{u:Value}{k:Nat}(h: ¬k=0):DM k u=DM (k+1) u:=by unfold DM;rw[if_neg h,if_neg (by omega)]
theorem Ku{u:Value}{k:Nat}(h: ¬k=0):DM k u=u:=if_neg h
end Leg
namespace Leg
open Go
def tr{α:Type}:List α→List α
 | []=>[]
 |a::l=>l++[a]
def Jh{α:Type}(l:List α):Bool:=decide (l.length≠0∧l.length≠8)
def EC{α:Type}[Inhabited α](l:List α):List α:=if l.length≠0∧l.length≠8 then l++[l.getD 0 default]else l
end Leg
namespace Leg
open Go
def l3{α:Type}:Nat→List α→List α
 |0,l=>l
 |n+1,l=>tr (l3 n l)
theorem Hq{α:Type}(l:List α):(tr l).length=l.length:=by cases l<;>simp[tr]
theorem jI{α:Type}: ∀(n:Nat) (l:List α),(l3 n l).length=l.length
 |0,_=>rfl
 |n+1,l=>by rw[l3,Hq,jI n l]
theorem Hp{α:Type}{l:List α}{x:α}:x∈tr l↔x∈l:=by
 cases l with
 |nil=>rfl
 |cons a l=>simp[tr,or_comm]
theorem nK{α:Type}{x:α}: ∀(n:Nat) (l:List α),x∈l3 n l↔x∈l
 |0,_=>Iff.rfl
 |n+1,l=>by rw[l3,Hp,nK n l]
theorem zK{α β:Type}(f:α→β)(l:List α):tr (l.map f)=(tr l).map f:=by cases l<;>simp[tr]
theorem Lq{α β:Type}[Inhabited α][Inhabited β](f:α→β)(l:List α):EC (l.map f)=(EC l).map f:=by
 unfold EC;rw[cf];split
 · rename_i h
   cases l with
   |nil=>exact absurd rfl h.1
   |cons a l=>simp
 · rfl
theorem Lr{α β:Type}(f:α→β)(l:List α):Jh (l.map f)=Jh l:=by unfold Jh;rw[cf]
end Leg
end

section
namespace Api
open Go Leg Codec Dsk Wal
instance :Inhabited MsgT:=⟨.zero⟩
structure LD where
 cnt:Nat
 used:Int
 D:DS
structure DkOk(D:DS):Prop where
 ok:D.Ok
 inn:Wal.DS.In D
 ws:D.ws.length≤2048
 up:D.dn=false→D.ws=[]
def Wrote(D:DS)(n:Nat)(r:Int×DS):Prop:=r.2.Ok∧Wal.DS.In r.2∧((D.dn=true∧r.2=D)∨(D.dn=false∧r.2.ws.length≤D.ws.length+n∧(r.1=0→r.2.dn=false)∧(r.1≠0→r.2.dn=true)))
theorem Wrote.none{D:DS}(h:D.Ok)(hi:Wal.DS.In D):Wrote D 0 (0,D):=⟨h,hi,by
 cases hd:D.dn
 · exact .inr ⟨rfl,aI _,λ_=>by first|exact hd|rfl,λq=>absurd rfl q⟩
 · exact .inl ⟨rfl,rfl⟩⟩
theorem Wrote.more{D:DS}{n m:Nat}{r:Int×DS}(h:Wrote D n r)(hm:n≤m):Wrote D m r:=⟨h.1,h.2.1,h.2.2.imp id λ⟨a,b,c⟩=>⟨a,by omega,c⟩⟩
theorem Wrote.one{D:DS}(h:D.Ok)(hi:Wal.DS.In D){at':Int}{bs:List UInt8}(h1:0≤at'∧at'<2048)(h2:bs.length≤64):Wrote D 1 (D.write at' bs):=by
 cases hd:D.dn
 · by_cases hc:D.ar=true∧D.lf=0
   · rw[rU h1 h2 hc]
     exact⟨⟨h.s,h.ws,h.lf⟩,hi, .inr ⟨hd,Nat.le_succ _,(λq=>absurd q (by show ¬(4:Int)=0;decide)),λ_=>rfl⟩⟩
   · have h4:D.ar=false∨0<D.lf:=by
      have:=h.lf;cases q:D.ar
      · exact .inl rfl
      · right
        have:D.lf≠0:=λe=>hc ⟨q,e⟩
        omega
     rw[lZ h1 h2 hd h4];exact⟨wL h h2 h4,wM hi h1, .inr ⟨hd,by simp[uW],λ_=>rfl,λq=>absurd rfl q⟩⟩
 · have e:D.write at' bs=(4,D):=by
    rw[DS.write,if_neg (by omega),if_pos (.inl hd)];cases D;simp only at hd;rw[hd]
   rw[e];exact⟨h,hi, .inl ⟨hd,rfl⟩⟩
theorem Wrote.then{D:DS}{n m:Nat}{r q:Int×DS}(h:Wrote D n r)(h0:r.1=0)(g:Wrote r.2 m q):Wrote D (n+m) q:=by
 obtain⟨_,_,h⟩:=h;refine⟨g.1,g.2.1,?_⟩;rcases h with⟨hd,e⟩| ⟨hd,hl,hz,_⟩
 · rw[e]at g
   rcases g.2.2 with⟨_,e2⟩| ⟨hd2,_⟩
   · exact .inl ⟨hd,e2⟩
   · rw[hd]at hd2;cases hd2
 · rcases g.2.2 with⟨hd2,_⟩| ⟨_,hl2,h3⟩
   · rw[hz h0]at hd2;cases hd2
   · exact .inr ⟨hd,by omega,h3⟩
theorem Wrote.writes: ∀(ss:List ix) (at':Int) (D:DS),D.Ok→Wal.DS.In D→0≤at'→at'+ss.length≤2048→(∀s∈ss,s.length=64)→Wrote D ss.length (gf ss at' D)
 | [],_,D,h,hi,_,_,_=>Wrote.none h hi
 |s::ss,at',D,h,hi,h0,h1,hs=>by
  simp only[ax]at h1;have h2:=hs s (by simp);have o:=Wrote.one h hi (at':=at') (bs:=s) (by omega) (by omega);rw[gf];split
  · rename_i hz
    have:=o.then hz (Wrote.writes ss (at'+1) _ o.1 o.2.1 (by omega) (by omega) λx hx=>hs x (by simp[hx]))
    rwa [mV]at this
  · exact o.more (by simp)
abbrev Rs:= @Wrote.writes
theorem Wrote.wipes: ∀(n:Nat) (at':Int) (D:DS),D.Ok→Wal.DS.In D→0≤at'→at'+n≤2048→Wrote D n (gK n at' D)
 |0,_,D,h,hi,_,_=>Wrote.none h hi
 |n+1,at',D,h,hi,h0,h1=>by
  rw[gK];split
  · exact(Wrote.wipes n (at'+1) D h hi (by omega) (by omega)).more (by omega)
  · have o:=Wrote.one h hi (at':=at') (bs:=[]) (by omega) (by simp)
    split
    · rename_i hz
      have:=o.then hz (Wrote.wipes n (at'+1) _ o.1 o.2.1 (by omega) (by omega))
      rwa [mV]at this
    · exact o.more (by omega)
theorem DkOk.wrote{D:DS}(h:DkOk D){n:Nat}{r:Int×DS}(g:Wrote D n r)(hn:n≤2048):(r.1≠0→DkOk r.2)∧DkOk r.2.sync.2:=by
 obtain⟨ho,hi,hr⟩:=g;rcases hr with⟨hd,e⟩| ⟨hd,hl,h0,h1⟩
 · rw[e]
   refine⟨λ_=>h,?_⟩;rw[DS.sync,if_pos hd];exact h
 · rw[h.up hd]at hl
   simp only[aE,bn]at hl;refine⟨λq=>⟨ho,hi,by omega,λz=>by rw[h1 q]at z;cases z⟩,?_⟩
   by_cases q:r.1=0
   · obtain⟨_,s2,_⟩:=l5 (h0 q)
     exact⟨PY ho,wJ hi,by rw[s2];exact aN _,λ_=>s2⟩
   · rw[DS.sync,if_pos (h1 q)]
     exact⟨ho,hi,by show r.2.ws.length≤2048;omega,λz=>by rw[show r.2.dn=true from h1 q]at z;cases z⟩
theorem xy{D:DS}(hI:Wal.DS.In D)(hD:D.Ok): ∀(f:Nat) (cnt used:Int),0≤used→used≤2048→0≤(gm D.read f cnt used).2∧(gm D.read f cnt used).2≤2048∧(gm D.read f cnt used).1.length≤f
 |0,_,_,h0,h1=>⟨h0,h1,aI _⟩
 |f+1,cnt,used,h0,h1=>by
  rw[gm];split
  · exact⟨h0,h1,aN _⟩
  · rename_i b all h
    have h2:=pK hI hD h0 h;have h3:=(kD (mN hD _) h).1;obtain⟨a,b',c⟩:=xy hI hD f (cnt+1) (used+all) (by omega) h2;exact⟨a,b',by simp only[ax];omega⟩
theorem DkOk.open{D:DS}(h:DkOk D):DkOk (bJ D).D∧0≤(bJ D).used∧(bJ D).used≤2048∧(bJ D).recs.length≤2049:=by
 obtain⟨a,b,c⟩:=xy h.inn h.ok iF 0 0 (by omega) (by omega);rw[qU]at c;have w:=h.wrote (Wrote.wipes (2048- (gm D.read iF 0 0).2).toNat _ D h.ok h.inn a (by omega)) (by omega);unfold bJ;simp only;split
 · rename_i q;exact⟨w.1 q,by show(0:Int)≤0;omega,by show(0:Int)≤2048;omega,aN _⟩
 · split
   · exact⟨w.2,by show(0:Int)≤0;omega,by show(0:Int)≤2048;omega,aN _⟩
   · exact⟨w.2,a,b,by rw[←qU]at c;exact c⟩
theorem DkOk.arm{D:DS}(h:DkOk D)(n:Int)(hn:n≤9223372036854775807):DkOk (D.arm n):=⟨⟨h.ok.s,h.ok.ws,by show 0≤max n 0∧max n 0≤9223372036854775807;omega⟩,h.inn,h.ws,h.up⟩
theorem DkOk.crash{D:DS}(h:DkOk D)(mask torn cut:Int):DkOk (D.crash mask torn cut):=by
 have c:=P6 h.ok h.inn mask torn cut;exact⟨c.ok,c.inn,aN _,λ_=>rfl⟩
theorem DkOk.new:DkOk .new:=⟨⟨nA,nA,by simp[DS.new],by simp[DS.new]⟩,⟨Mz,Mz⟩,aN _,λ_=>rfl⟩
structure LD.Ok(e:LD):Prop where
 dk:DkOk e.D
 used:0≤e.used∧e.used≤2048
 cnt:(e.cnt:Int)≤4100+e.used
def LD.put(e:LD)(bs:List UInt8):LD×Int:=(⟨(lQ e.D e.cnt e.used bs).cnt,(lQ e.D e.cnt e.used bs).used,(lQ e.D e.cnt e.used bs).D⟩,(lQ e.D e.cnt e.used bs).err)
theorem LD.put_ok(e:LD)(bs:List UInt8)(h:e.Ok)(hb:bs.length≤3000):(e.put bs).1.Ok:=by
 obtain⟨⟨ho,hi,hw,hu⟩,h1,h2⟩:=h;unfold LD.put lQ;rw[if_neg (by omega)]
 by_cases hf:(be bs.length:Int)>2048-e.used
 · rw[if_pos hf];exact⟨⟨ho,hi,hw,hu⟩,h1,h2⟩
 rw[if_neg hf];have hp:0<be bs.length:=mu _;have hl:(bl ((e.cnt+1:Nat):Int) bs).length=be bs.length:=cE _ _;have w:=DkOk.wrote ⟨ho,hi,hw,hu⟩ (Rs (bl ((e.cnt+1:Nat):Int) bs) e.used e.D ho hi h1.1 (by omega) (nd _ _)) (by omega);simp only;split
 · rename_i q;exact⟨w.1 q,h1,h2⟩
 · split
   · exact⟨w.2,h1,h2⟩
   · exact⟨w.2,(by show 0≤e.used+(be bs.length:Int)∧e.used+(be bs.length:Int)≤2048;omega),by show((e.cnt+1:Nat):Int)≤4100+(e.used+be bs.length);omega⟩
def KD:Dk LD:=⟨LD.put,λe=>e.D.dn,LD.Ok,LD.put_ok⟩
structure Slot where
 run:Option (MS LD)
 D:DS
 past:List ReplyT
structure CL where
 ms:List Slot
 W:List (List MsgT)
def Slot.nil:Slot:=⟨none, .new,[]⟩
def CL.at'(a:CL)(i:Nat):Slot:=a.ms.getD i .nil
def Slot.dk(x:Slot):DS:=match x.run with
 |some s=>s.e.D
 |none=>x.D
def Slot.reps(x:Slot):List ReplyT:=x.past++(match x.run with
 |some s=>s.replies
 |none=>[])
def Slot.up(x:Slot):Bool:=match x.run with
 |some s=> !s.e.D.dn
 |none=>false
def CL.set(a:CL)(i:Nat)(x:Slot):CL:= {a with ms:=a.ms.set i x}
def qP(W:List (List MsgT))(f:Nat)(s:SaidT):List (List MsgT):=if dx ((f:Nat):Int) s.to' then W.set (bC ((f:Nat):Int) s.to') (if(W.getD (bC ((f:Nat):Int) s.to') []).length<8 then W.getD (bC ((f:Nat):Int) s.to') []++[s.msg]else W.getD (bC ((f:Nat):Int) s.to') [])else W
def it(W:List (List MsgT))(f:Nat)(l:List SaidT):List (List MsgT):=l.foldl (λW s=>qP W f s) W
def MS.hush{δ:Type}(s:MS δ):MS δ:= {s with o:=[]}
def CL.did(a:CL)(i:Nat)(s:MS LD):CL:=⟨a.ms.set i {a.at' i with run:=some s.hush},it a.W i s.o⟩
def MS.dsk(s:MS LD)(D:DS):MS LD:= {s with e:= {s.e with D:=D}}
def uo(x:Slot)(n:Int):Slot:=match x.run with
 |some s=> {x with run:=some (s.dsk (s.e.D.arm n))}
 |none=> {x with D:=x.D.arm n}
def oP(x:Slot)(mask torn cut:Int):Slot:=⟨none,x.dk.crash mask torn cut,x.reps⟩
def cD(i:Nat)(D:DS):Option (MS LD)×Int:=
 if(bJ D).err≠0 then(none,(bJ D).err)
 else match iD (bJ D).recs (Bz ((i:Nat):Int) (⟨(bJ D).recs.length,(bJ D).used,(bJ D).D⟩:LD))with
  |none=>(none,1)
  |some s=>(some s,0)
def il(i:Nat)(x:Slot):Slot×Int:=match x.run with
 |some _=>(x,5)
 |none=>({x with run:=(cD i x.D).1,D:=(bJ x.D).D},(cD i x.D).2)
def uh(a:CL)(f t:Nat)(m:MsgT):CL×Int:=match(a.at' t).run with
 |none=>(a,0)
 |some s=>if s.e.D.dn then(a,0)else if(eT (cq m)).2=0 then(a.did t (gk KD s ((f:Nat):Int) (eT (cq m)).1),0)else(a,(eT (cq m)).2)
def CL.way(a:CL)(k:Nat)(l:List MsgT):CL:= {a with W:=a.W.set k l}
def pE(a:CL)(o:OpT):CL×Int:=
 if dx o.at' o.to'=false then(a,5)
 else match a.W.getD (bC o.at' o.to') []with
  | []=>(a,10)
  |m::l=>
   if o.kind=7 then(if Jh (m::l)then(a.way (bC o.at' o.to') (EC (m::l)),0)else(a,3))
   else match l3 (max o.n 0% ((m::l).length:Int)).toNat (m::l)with
    | []=>(a,0)
    |m::l=>if o.kind=6 then(a.way (bC o.at' o.to') l,0)else uh (a.way (bC o.at' o.to') l) o.at'.toNat o.to'.toNat m
def F7(a:CL)(i:Nat)(o:OpT):CL×Int:=match(a.at' i).run with
 |none=>(a,4)
 |some s=>if s.e.D.dn then(a,4)else(a.did i (ca KD s o).1,(ca KD s o).2)
def ES(a:CL)(i:Nat):CL×Int:=match(a.at' i).run with
 |none=>(a,4)
 |some s=>if s.e.D.dn then(a,4)else(a.did i (gU KD s),0)
def Cg(a:CL)(o:OpT):CL×Int:=
 if je o.at'=false then(a,5)
 else if 0≤o.kind∧o.kind≤4 then F7 a o.at'.toNat o
 else if o.kind=5∨o.kind=6∨o.kind=7 then pE a o
 else if o.kind=8 then ES a o.at'.toNat
 else if o.kind=9 then(a.set o.at'.toNat (uo (a.at' o.at'.toNat) o.n),0)
 else if o.kind=10 then(a.set o.at'.toNat (oP (a.at' o.at'.toNat) o.mask o.torn o.cut),0)
 else if o.kind=11 then(a.set o.at'.toNat (il o.at'.toNat (a.at' o.at'.toNat)).1,(il o.at'.toNat (a.at' o.at'.toNat)).2)
 else(a,5)
def eC(a:CL)(l:List OpT):CL:=l.foldl (λa o=>(Cg a o).1) a
def pT(i:Nat):Slot:=(il i .nil).1
def CL.new:CL:=⟨(List.range 5).map pT,List.replicate 25 []⟩
structure Fresh{δ:Type}(i:Int)(e:δ)(s:MS δ):Prop where
 id:s.id=i
 vote:s.vote=none
 replies:s.replies=[]
 e:s.e=e
 o:s.o=[]
 waits:s.waits=0
 ops:s.ops=0
theorem Fresh.rest{δ:Type}{i:Int}{e:δ}{s:MS δ}(h:Fresh i e s)(m:RecT):Fresh i e (iN s m):=by
 obtain⟨h1,h2,h3,h4,h5,h6,h7⟩:=h;unfold iN
 repeat' split
 all_goals exact⟨h1,by first|exact h2|rfl,h3,h4,h5,h6,h7⟩
theorem Fresh.new{δ:Type}(i:Int)(e:δ):Fresh i e (Bz i e):=⟨rfl,rfl,rfl,rfl,rfl,rfl,rfl⟩
abbrev Ro:= @Fresh.new
theorem Fresh.read{δ:Type}{i:Int}{e:δ}: ∀(l:List (List UInt8)) {s s':MS δ},Fresh i e s→iD l s=some s'→Fresh i e s'
 | [],s,s',h,q=>by
  obtain rfl:=cw q;exact h
 |b::l,s,s',h,q=>by
  rw[iD]at q;split at q
  · cases q
  · exact Fresh.read l (h.rest _) q
abbrev I7:= @Fresh.read
theorem oq{i:Nat}{D:DS}{s:MS LD}(h:(cD i D).1=some s):(bJ D).err=0∧iD (bJ D).recs (Bz ((i:Nat):Int) (⟨(bJ D).recs.length,(bJ D).used,(bJ D).D⟩:LD))=some s:=by
 unfold cD at h;split at h
 · cases h
 · rename_i h0
   refine⟨Decidable.not_not.1 h0,?_⟩;split at h
   · cases h
   · rename_i h2;rw[h2];exact h
theorem A1{v:ViewT}{bs r:List UInt8}(h:lT bs=some (v,r)):OkVw v:=by
 obtain⟨⟨h1,h2,_⟩,_⟩:=oZ h;have hr:=th h;exact⟨hr,EP ⟨by omega,by omega⟩ ⟨by omega,by omega⟩ hr⟩
theorem rC{b:BallotT}{bs r:List UInt8}(h:jz bs=some (b,r)):WF b.flat:=by
 obtain⟨⟨h1,h2⟩,_⟩:=j0 h;exact OkB.wf ⟨h1,h2⟩
theorem F9{c:ChangeT}{bs r:List UInt8}(h:kV bs=some (c,r)):WF c.flat:=by
 obtain⟨⟨h1,h2,h3⟩,_⟩:=oD h;exact OkC.wf ⟨h1,h2,h3⟩
theorem Fb{x:RowT}{bs r:List UInt8}(h:tG bs=some (x,r)):OkRow x:=OkRow.of (Bi h)
theorem NS{m:MsgT}{g:Bool}{bs r:List UInt8}(h:cM bs=some ((m,g),r)):OkMg m:=by
 obtain⟨k,r1,_,h⟩:=aY h
 have fin: ∀{m':MsgT} {g':Bool} {b r:List UInt8},pr (m',g') b=some ((m,g),r)→OkMg m'→OkMg m:=λh q=>by
  obtain⟨e,_⟩:=fQ h;injection e with e1 e2
  exact e1▸q
 split at h
 · obtain⟨_,_,_,h⟩:=aY h;obtain⟨x,_,hx,h⟩:=aY h;exact fin h ⟨Fb hx, .zero,iu,iu,qi⟩
 split at h
 · obtain⟨_,_,_,h⟩:=aY h;exact fin h ⟨.zero, .zero,iu,iu,qi⟩
 split at h
 · obtain⟨_,_,_,h⟩:=aY h;obtain⟨b,_,hb,h⟩:=aY h;exact fin h ⟨.zero, .zero,rC hb,iu,qi⟩
 split at h
 · obtain⟨_,_,_,h⟩:=aY h;obtain⟨b,_,hb,h⟩:=aY h;obtain⟨d,_,hd,h⟩:=aY h;obtain⟨c,_,hc,h⟩:=aY h;exact fin h ⟨.zero, .zero,rC hb,rC hd,F9 hc⟩
 split at h
 · obtain⟨_,_,_,h⟩:=aY h;obtain⟨b,_,hb,h⟩:=aY h;obtain⟨c,_,hc,h⟩:=aY h;exact fin h ⟨.zero, .zero,rC hb,iu,F9 hc⟩
 split at h
 · obtain⟨v,_,hv,h⟩:=aY h;exact fin h ⟨.zero,A1 hv,iu,iu,qi⟩
 split at h
 · obtain⟨_,_,_,h⟩:=aY h;obtain⟨v,_,hv,h⟩:=aY h;exact fin h ⟨.zero,A1 hv,iu,iu,qi⟩
 · exact fin h ⟨.zero, .zero,iu,iu,qi⟩
class OkRd(m:RecT):Prop where
 row:OkRow m.row
 view:OkVw m.view
 ballot:WF m.ballot.flat
 change:WF m.change.flat
theorem Nu{m:RecT}{g:Bool}{bs r:List UInt8}(h:di bs=some ((m,g),r)):OkRd m:=by
 obtain⟨k,r1,_,h⟩:=aY h
 have fin: ∀{m':RecT} {g':Bool} {b r:List UInt8},pr (m',g') b=some ((m,g),r)→OkRd m'→OkRd m:=λh q=>by
  obtain⟨e,_⟩:=fQ h;injection e with e1 e2
  exact e1▸q
 split at h
 · obtain⟨x,_,hx,h⟩:=aY h;exact fin h ⟨Fb hx, .zero,iu,qi⟩
 split at h
 · obtain⟨_,_,_,h⟩:=aY h;obtain⟨x,_,hx,h⟩:=aY h;exact fin h ⟨Fb hx, .zero,iu,qi⟩
 split at h
 · obtain⟨_,_,_,h⟩:=aY h;exact fin h ⟨.zero, .zero,iu,qi⟩
 split at h
 · obtain⟨_,_,_,h⟩:=aY h;obtain⟨b,_,hb,h⟩:=aY h;exact fin h ⟨.zero, .zero,rC hb,qi⟩
 split at h
 · obtain⟨_,_,_,h⟩:=aY h;obtain⟨b,_,hb,h⟩:=aY h;obtain⟨c,_,hc,h⟩:=aY h;exact fin h ⟨.zero, .zero,rC hb,F9 hc⟩
 split at h
 · obtain⟨v,_,hv,h⟩:=aY h;exact fin h ⟨.zero,A1 hv,iu,qi⟩
 · exact fin h ⟨.zero, .zero,iu,qi⟩
theorem BW(bs:List UInt8):OkMg (eT bs).1:=by
 unfold eT;split
 · rename_i m h;exact NS h
 · exact⟨.zero, .zero,iu,iu,qi⟩
theorem Mh(bs:List UInt8):OkRd (cW bs).1:=by
 unfold cW;split
 · rename_i m h;exact Nu h
 · exact⟨.zero, .zero,iu,qi⟩
section
variable {δ:Type} {K:Dk δ} {s:MS δ}
theorem LJ(h:OkR K s)(m:RecT)(hm:OkRd m):OkR K (iN s m):=by
 have ha:OkAc s.acc:=⟨h.acc⟩;unfold iN;split
 · exact⟨h.e,h.id,h.view,hm.row,h.mir,h.book,h.last,h.acc,h.vote⟩
 split
 · have:=hm.row;exact inferInstance
 split
 · exact inferInstance
 split
 · exact⟨h.e,h.id,h.view,h.own,h.mir,h.book,h.last,mP (mP (mP ha.epoch hm.ballot) ha.had) ha.change,h.vote⟩
 split
 · exact⟨h.e,h.id,h.view,h.own,h.mir,h.book,h.last,mP (mP (mP ha.epoch hm.ballot) hm.ballot) hm.change,h.vote⟩
 split
 · have:=hm.view;exact inferInstance
 · exact h
theorem A2{v:Vector RowT 5}(h:v= #v[.zero, .zero, .zero, .zero, .zero])(i:Nat)(hi:i<5):OkRow v[i]:=by
 subst h
 match i,hi with
 |0,_|1,_|2,_|3,_|4,_=>exact OkRow.zero
theorem L4{i:Int}{e:δ}(he:K.ok e)(hi:cH i=true):OkR K (Bz i e):=
 ⟨he,hi, .first, .zero,A2 rfl,A2 rfl,A2 rfl,PJ _ (by decide),λ_ q=>nomatch q⟩
theorem Df: ∀(l:List (List UInt8)) {s s':MS δ},OkR K s→iD l s=some s'→OkR K s'
 | [],s,s',h,q=>by
  obtain rfl:=cw q;exact h
 |b::l,s,s',h,q=>by
  rw[iD]at q;split at q
  · cases q
  · exact Df l (LJ h _ (Mh b)) q
theorem uN{i:Nat}(hi:i<5){D:DS}(hD:DkOk D){s:MS LD}(h:(cD i D).1=some s):OkR KD s∧Fresh ((i:Nat):Int) (⟨(bJ D).recs.length,(bJ D).used,(bJ D).D⟩:LD) s:=by
 obtain⟨_,h2⟩:=oq h;obtain⟨o1,o2,o3,o4⟩:=hD.open;exact⟨Df _ (L4 (K:=KD) ⟨o1,⟨o2,o3⟩,by show(((bJ D).recs.length:Nat):Int)≤4100+(bJ D).used;omega⟩ (decide_eq_true ⟨by omega,by omega⟩)) h2,I7 _ (Ro _ _) h2⟩
end
end Api
end

section
namespace Go.Proofs.YtjblgopghhgflaaGreat
open Go Leg Codec Api Dsk Wal
theorem B7(b c s r:Nat)(us:List Value)(x:Value)(bs:List UInt8)(hb:bs.length≤1000000)(hroom:us.length<8):
 DT 138 #[(.pointer (some ⟨b,0,none⟩)),x] (IsW x bs) [am b [(.chan (some c))] 208,eA c 8 (us) (s) (r)] (dB (λv H=>v= .bool true∧∃u,H=[am b [(.chan (some c))] 208,eA c 8 (us++[u]) (s+1) r,ee u bs 5])):=by
 refine Leg.Does.body (vs:=[(.pointer (some ⟨b,0,none⟩)),x]) (n:=15) Tryz.func138 rfl rfl rfl (λw0 F hF=>?_);refine sr λ_ J1=>?_
 refine qq ?_;refine nx J1 ?_;refine aa λ_ J2=>?_
 refine sr λ_ J3=>?_
 refine mv ?_;refine tp (gH rfl rfl) ?_;refine tp (bc (r:=0) rfl Er rfl vB rfl rfl) ?_;refine tp (iI (v:=(.chan (some c))) rfl wA rfl rfl (fE 0 rfl rfl) rfl) ?_;refine nx J3 ?_;refine ae ?_;refine Et (ab rfl) rfl rfl rfl ic mg (λv9=>?_);change TL _ _ _ _ _ _ _ _ _ [ee v9 ([]) 5,am b [(.chan (some c))] 208,eA c 8 (us) (s) (r)];refine mv ?_;refine cS (k:=0) (news:=eB (bs)) (nn':=(bs:List UInt8).length) (xs':=eB (bs)) (ab rfl) rfl rfl rfl ic Ao rfl rfl rfl rfl rfl rfl (λ_ _=>hF.src (λ_ h=>fN h)) (fk _) (by simp only[maxLen,aE];omega) (by simp only[aE];omega) (by simp) (bb _) (λv11 ov11=>?_);change TL _ _ _ _ _ _ _ _ _ [ee v11 (bs) 5,am b [(.chan (some c))] 208,eA c 8 (us) (s) (r)];refine nx J2 ?_;refine aa λ_ J4=>?_
 refine zr ?_;change TX _ _ _ _ _ _ [0,1,2] _ _ _;refine TX.sendRoom 2 rfl (ab rfl) rfl rfl rfl Oa rfl rfl rfl rfl hroom ?_;change TX _ _ _ _ _ _ _ _ _ [ee v11 (bs) 5,am b [(.chan (some c))] 208,eA c 8 (us++[v11]) (s+1) (r)];refine uu rfl (ab rfl) rfl rfl (mJ (vs:=[(.int .i64 0),(.bool false)]) rfl rfl rfl) ?_;refine uu rfl (ab rfl) rfl rfl (PN rfl rfl rfl) ?_;refine Mv ?_;refine ac J4 ?_;refine aq ?_;refine oh rfl ?_;refine sr λ_ J5=>?_
 refine qq ?_;refine nx J5 ?_;refine aj ?_;refine aL ?_;refine aF (dE _) (λ_ s=>ak [1,1,0] rfl s) ?_;refine aw rfl rfl ?_;exact⟨rfl,_,rfl⟩
theorem yG(b c s r:Nat)(us:List Value)(ls:List (List UInt8))(h8:ls.length≤8)(hb: ∀x∈ls,x.length≤1000000):
    DT 101 #[(.pointer (some ⟨b,0,none⟩))] T0 [am b [(.chan (some c))] 208,eA c 8 (us) (s) (r),eQ (us) (ls) 5] (dB (λv H=>((ls.length=0∨ls.length=8)∧v= .bool false∧H=[am b [(.chan (some c))] 208,eA c 8 us s r,eQ us ls 5])∨(ls.length≠0∧ls.length≠8∧v= .bool true∧∃un,H=[am b [(.chan (some c))] 208,eA c 8 (us++[un]) (s+us.length+1) (r+us.length),eQ us ls 5,ee un (ls.getD 0 []) 5]))):=by
 refine BD 41 Tryz.func101 rfl rfl rfl λw0 F hF=>sr λ_ J1=>PS ?_
 refine nx J1 (sr λ_ J2=>PS ?_);refine CE vT (uk b c s r us ls) ID ?_;change TL _ _ _ _ _ _ _ _ _ [am b [(.chan (some c))] 208,eA c 8 (us) (s) (r),eQ (us) (ls) 5];refine zp (p:=us.length=ls.length) (λw m=>(rA 2 rfl rfl m).1) (λhul=>PS ?_);refine nx J2 (aa λ_ J3=>sr λ_ J4=>P2 ?_);refine ao ?_ ?_<;>intro h10;refine PS ?_
 iterate 7 refine UT ?_
 refine PS ?_;refine nx J4 (CY (sr λ_ J5=>PS ?_));refine nx J5 (aj (af (WK [0,0,0] (aw rfl rfl ?_))));exact .inl ⟨by omega,rfl,rfl⟩;refine P4 ?_;refine FA 0 Er vB ?_;refine LA 0 wA ?_;refine tq (PV.capChan 1 rfl wA rfl rfl rfl) ?_;refine PS ?_;refine ao ?_ ?_<;>intro h18;refine PS ?_;refine nx J4 (CY (sr λ_ J6=>PS ?_));refine nx J6 (aj (af (WK [0,0,0] (aw rfl rfl ?_))));exact .inl ⟨by omega,rfl,rfl⟩;refine PS ?_;refine nx J4 (CN (qx J3 (sr λ_ J7=>PS ?_)));refine nx J7 (aa λ_ J8=>sr λ_ J9=>P2 ?_);refine nx J9 (aq ?_)
 refine bA (α:=(Nat)) (λk=>k≤us.length) (λk=>[(0,(.pointer (some ⟨b,0,none⟩))),(2,(.bool false)),(4,(DM k (us.getD 0 undef))),(20,(.int .i64 (((ls.length:Nat):Int)))),(21,(.int .i64 (((k:Nat):Int))))]) (λk=>[am b [(.chan (some c))] 208,eA c 8 (us.drop k++us.take k) (s+k) (r+k),eQ (us) (ls) 5]) (λk=>us.length-k) 0
     (aN _) SB
     (λ_ q=>by simpa using q) (λk hinv=>?_)
 obtain hk:=hinv;refine sr λ_ J10=>PS ?_
 refine ao ?_ ?_<;>intro h22;have hku:k<us.length:=by omega
 refine nx J10 (aa λ_ J11=>CY (qx J11 (aa λ_ J12=>aq (sr λ_ J13=>P2 ?_))));refine nx J13 (aa λ_ J14=>zr (uu rfl (ab rfl) rfl rfl (kA rfl rfl) (uu rfl (ab rfl) rfl rfl (gH rfl rfl) (uu rfl (ab rfl) rfl rfl (bc (r:=0) rfl Er rfl vB rfl rfl) (uu rfl (ab rfl) rfl rfl (iI (v:=(.chan (some c))) rfl wA rfl rfl (RO 0) rfl) (TX.recv1 1 rfl (ab rfl) rfl rfl rfl wA Oa rfl rfl rfl (JC hku) (uu rfl (ab rfl) rfl rfl (Rn rfl rfl) (Mv (ac J14 (aa λ_ J15=>?_))))))))));refine sr λ_ J16=>P2 ?_
 refine ao ?_ ?_<;>intro h30;refine nx J16 (CY (ae (P2 ?_)));refine nx J15 (zr (uu rfl (ab rfl) rfl rfl (kA rfl rfl) (uu rfl (ab rfl) rfl rfl (gH rfl rfl) (uu rfl (ab rfl) rfl rfl (bc (r:=0) rfl Er rfl vB rfl rfl) (uu rfl (ab rfl) rfl rfl (iI (v:=(.chan (some c))) rfl wA rfl rfl (RO 0) rfl) (uu rfl (ab rfl) rfl rfl (kA rfl rfl) (TX.send1 1 rfl (ab rfl) rfl rfl rfl rfl rfl rfl (by simp only[ai,eu,bq];omega) (Mv (ag (ac J12 (ae ?_)))))))))));refine AD ?_;refine PS ?_;refine au ?_
 exact aK ((k+1):(Nat)) (by omega) (by show us.length- (k+1)<us.length-k;omega)
   (aS (aS (bv rfl (by first|exact Kv (by omega) hku|exact Kt (by omega)) SB)))
   (λ_ q=>by
      rw[Dd hku]at q
      exact q)
 refine nx J16 (CN (qx J15 (zr (uu rfl (ab rfl) rfl rfl (kA rfl rfl) (uu rfl (ab rfl) rfl rfl (gH rfl rfl) (uu rfl (ab rfl) rfl rfl (bc (r:=0) rfl Er rfl vB rfl rfl) (uu rfl (ab rfl) rfl rfl (iI (v:=(.chan (some c))) rfl wA rfl rfl (RO 0) rfl) (uu rfl (ab rfl) rfl rfl (kA rfl rfl) (TX.send1 1 rfl (ab rfl) rfl rfl rfl rfl rfl rfl (by simp only[ai,eu,bq];omega) (Mv (ag ?_)))))))))));refine ac J12 (ae (AD ?_));refine PS ?_;refine au ?_
 exact aK ((k+1):(Nat)) (by omega) (by show us.length- (k+1)<us.length-k;omega)
   (aS (aS (bv rfl (by first|exact Kv (by omega) hku|exact Kt (by omega)) SB)))
   (λ_ q=>by
      rw[Dd hku]at q
      exact q)
 obtain rfl:k=us.length:=by omega
 have hpos:0<ls.length:=by omega
 have hg:ls.getD 0 []=ls[0]:=by simp[List.getD_eq_getElem?_getD,hpos]
 refine cJ (H':=[am b [(.chan (some c))] 208,eA c 8 us (s+us.length) (r+us.length),eQ us ls 5]) (λ_ q=>by simpa using q) (nx J10 (aa λ_ J17=>CN (aX (aA (aA (bu (ac J8 (sr λ_ J18=>P2 ?_))))))))
 refine lL (ab rfl) rfl rfl rfl JW rfl (B7 b c (s+us.length) (r+us.length) us (DM us.length (us.getD 0 undef)) (ls.getD 0 []) (hb _ (hg▸ey hpos)) (by omega)) (λ_ s=>s) (λg d s=>by
          rw[Ku (by omega),hg]
          exact K7 (vd 0 hpos rfl rfl g d s)) (λvR HR hR=>?_)
 obtain⟨rfl,un,rfl⟩:=hR;refine PS ?_;refine nx J18 (aj (WK [0,0,1,0] (aw rfl rfl ?_)));exact .inr ⟨by omega,by omega,rfl,un,rfl⟩
theorem zj(b:Nat)(ls:List (List UInt8))(h8:ls.length≤8)(hb: ∀x∈ls,x.length≤1000000):DT 101 #[.pointer (some ⟨b,0,none⟩)] T0 [ir 208 5 b ls] (RI (.bool (Jh ls)) [ir 208 5 b (EC ls)]):=
 Leg.Does.pack (B:=[]) λq=>Leg.Does.fold (yG b q.1 q.2.2.1 q.2.2.2 q.2.1 ls h8 hb) λe H hp=>by
  cases e with
  |returned v=>
   unfold Jh EC;rcases hp with⟨h,rfl,rfl⟩| ⟨h1,h2,rfl,un,rfl⟩
   · exact⟨[ir 208 5 b ls],λ_ s=>br (p:=λq:Nat×List Value×Nat×Nat=>[am b [.chan (some q.1)] 208,eA q.1 8 q.2.1 q.2.2.1 q.2.2.2,eQ q.2.1 ls 5]) (H:=[]) q s,by rw[decide_eq_false (by omega)],by rw[if_neg (by omega)]⟩
   · refine⟨[ir 208 5 b (ls++[ls.getD 0 []])],λ_ s=>?_,by rw[decide_eq_true (by omega)],by rw[if_pos (by omega)];rfl⟩
     have s1:=Bc 3 rfl rfl s;have s2:=aD [2,2] rfl s1;have s3:=vn s2;exact br (p:=λq:Nat×List Value×Nat×Nat=>[am b [.chan (some q.1)] 208,eA q.1 8 q.2.1 q.2.2.1 q.2.2.2,eQ q.2.1 (ls++[ls.getD 0 []]) 5]) (H:=[]) (q.1,q.2.1++[un],q.2.2.1+q.2.1.length+1,q.2.2.2+q.2.1.length) (aD [1,1,0] rfl s3)
  |panicked c=>exact hp.elim
  |outgrown=>exact hp.elim
theorem ui(b:Nat)(ls:List (List UInt8))(h8:ls.length≤8)(hb: ∀x∈ls,x.length≤1000000):
 DT 102 #[(.pointer (some ⟨b,0,none⟩))] T0 [ir 208 5 b (ls)] (dB (λv H=>H=[ir 208 5 b (tr ls)])):=by
 refine BD 16 Tryz.func102 rfl rfl rfl λw0 F hF=>sr λ_ J1=>PS ?_
 refine nx J1 (sr λ_ J2=>PS ?_);refine CR MZ (uj b ls) ID λvR HR hR=>?_
 rcases hR with⟨rfl,rfl,rfl⟩| ⟨u,f,lt,rfl,rfl,rfl⟩
 refine P4 ?_;refine PS ?_;refine nx J2 (sr λ_ J3=>P2 ?_)
 iterate 3 refine UF ?_
 refine P2 ?_;exact nx J3 (aj (WK [0] (aw rfl rfl rfl)));refine P4 ?_;refine PS ?_;refine nx J2 (sr λ_ J4=>P4 ?_);refine CF JW (wl b lt u f (hb f (cC ..))) ID (λg d s=>K7 (BJ 0 rfl rfl g d s)) ?_;refine P2 ?_;refine nx J4 (aj (WK [0] (aw rfl rfl ?_)));exact congrArg (λq=>[ir 208 5 b q]) (if_pos (show lt.length<8 by have:=h8;rw[ax]at this;omega))
end Go.Proofs.YtjblgopghhgflaaGreat
end

section
namespace Leg
open Go
def RdG(S:World→Prop)(b:Nat){α:Type}(c:α→List Value)(T:TypeId):Prop:=∀w,S w→∃a,w.heap[b]?=some (.cells (c a).toArray T (0,0))
abbrev hid{α:Type}(b:Nat)(c:α→List Value)(T:TypeId)(R:α→List HP):HP:=pack (λa=>am b (c a) T::R a)
section
variable {P:Program} {w0:World} {F:Hl} {n:Nat} {ops:Array Oper} {Q:QQ} {D:List Deferred} {L:List (Nat×Value)} {H:List HP} {o:Oper} {l:List Oper} {d:Nat} {S:World→Prop} {α:Type} {b j:Nat} {c c':α→List Value} {T:TypeId} {R R':α→List HP}
theorem Sat.packOpen{p:α→List HP}{w:World}(i:Nat)(s:Sat H F w)(hi:i<H.length)(hH:H.getD i (λ_=>True)=pack p): ∃a,Sat (p a++H.eraseIdx i) F w:=by
 obtain⟨h,d,e,x⟩:=s;have y:=fl i hi x;rw[hH]at y;obtain⟨a,z⟩:=fT (p:=p) (H:=H.eraseIdx i) (h:=h) y;exact⟨a,h,d,e,z⟩
theorem Sat.packShut{p:α→List HP}{w:World}(i:Nat)(hi:i<H.length)(a:α)(s:Sat (p a++H.eraseIdx i) F w):Sat (H.set i (pack p)) F w:=by
 obtain⟨h,d,e,x⟩:=s;exact⟨h,d,e,ly i hi (br a x)⟩
theorem RdG.own(i:Nat)(hi:Nat.blt i H.length=true)(hH:H.getD i (λ_=>True)=hid b c T R):RdG (Sat H F) b c T:=λw s=>by
 obtain⟨a,t⟩:=s.packOpen i (lb hi) hH;exact⟨a,t.block 0 (by simp) rfl⟩
abbrev c9:= @RdG.own
theorem PV.load1G{t:TypeId}{x:Operand}{dt:TypeDesc}{v:Value}(ho:o.op= .load t x)(ht:P.underlying t=some dt)(hp:eI dt=true)(hx:cR L x=some (.pointer (some ⟨b,j,none⟩)))(hR:RdG S b c T)(hc: ∀a,(c a)[j]?=some v):PV P n D L S o v:=
 λa w f m=>by
  obtain⟨y,hy⟩:=hR w m;exact iI (S:=λw'=>w'=w) ho ht hp hx (λ_ e=>e▸hy) (hc y) a w f rfl
abbrev dy:= @PV.load1G
theorem PV.loadNG{t:TypeId}{x:Operand}{dt:TypeDesc}{m:Nat}{vs:List Value}(ho:o.op= .load t x)(ht:P.underlying t=some dt)(hp:eI dt=false)(hm:(P.info? t).map (·.size)=some m)(hx:cR L x=some (.pointer (some ⟨b,j,none⟩)))(hR:RdG S b c T)(hl:vs.length=m)(hc: ∀a,((c a).drop j).take m=vs):PV P n D L S o (.agg vs.toArray):=
 λa w f s=>by
  obtain⟨y,hy⟩:=hR w s;exact aO (S:=λw'=>w'=w) ho ht hp hm hx (λ_ e=>e▸hy) hl (hc y) a w f rfl
abbrev gD:= @PV.loadNG
theorem TL.storeG{i:Nat}{t:TypeId}{x y:Operand}{v:Value}{vs:List Value}(hw:Want n D ops o L)(ho:o.op= .store t x y)(hd:o.dst=none)
 (hx:cR L x=some (.pointer (some ⟨b,j,none⟩))) (hy:cR L y=some v) (hv:v.cells=vs.toArray) (hs:(P.info? t).map (·.size)=some vs.length) (h1: ∀u∈vs,u.oneCell'=true)
 (hi:Nat.blt i H.length=true) (hH:H.getD i (λ_=>True)=hid b c T R) (hl: ∀a,j+vs.length≤(c a).length) (hcs: ∀a,wr (c a) j vs=c' a)
 (h:TL P w0 F n ops Q l D L (H.set i (hid b c' T R))):TL P w0 F n ops Q (o::l) D L H:=
 TL.eff hw hd (λa w f _ m=>by
  obtain⟨q,m1⟩:=m.packOpen i (lb hi) hH;have hb:=m1.block 0 (by simp) rfl;refine⟨w.setRow b (wr (c q) j vs).toArray,by simp[execOp,ho,f.eval hx,f.eval hy,xA hv hs h1 hb (hl q)],⟨rfl,rfl,rfl,by simp⟩,?_⟩;rw[hcs q]
  exact Sat.packShut (p:=λa=>am b (c' a) T::R a) i (lb hi) q (m1.write 0 (by simp) rfl (setRow_heap w b (c q).toArray _ T _ hb) (λk hk=>setRow_other w b k _ hk))) h
abbrev iw:= @TL.storeG
theorem TL.store1G{i:Nat}{t:TypeId}{x y:Operand}{v:Value}(hw:Want n D ops o L)(ho:o.op= .store t x y)(hd:o.dst=none)
 (hx:cR L x=some (.pointer (some ⟨b,j,none⟩))) (hy:cR L y=some v) (h1:v.oneCell'=true) (hs:(P.info? t).map (·.size)=some 1)
 (hi:Nat.blt i H.length=true) (hH:H.getD i (λ_=>True)=hid b c T R) (hl: ∀a,j< (c a).length) (hcs: ∀a,(c a).set j v=c' a)
 (h:TL P w0 F n ops Q l D L (H.set i (hid b c' T R))):TL P w0 F n ops Q (o::l) D L H:=
 iw (vs:=[v]) hw ho hd hx hy (by cases v<;>simp[Value.cells,Value.oneCell']at h1 ⊢) hs (by simpa using h1) hi hH (λa=>by have:=hl a;simp;omega)
  (λa=>by rw[←hcs a,wr,oS,if_pos (hl a)];simp) h
theorem Hw{p p' a b c d:HP}{h:Hl}(e: ∀h,p h→p' h)(s:bH (a::b::c::d::p::H) h):bH (a::b::c::d::p'::H) h:=
 cO s (λ_ x=>x) λ_ s=>cO s (λ_ x=>x) λ_ s=>cO s (λ_ x=>x) λ_ s=>cO s (λ_ x=>x) λ_ s=>cO s e λ_ x=>x
theorem Does.hid{f:FuncId}{args:Array Value}{A:List HP}{q:Value→Prop}(h: ∀a,Does P f args (λ_=>True) (am b (c a) T::A) (dB λv H=>q v∧H=am b (c' a) T::A)):Does P f args (λ_=>True) (Leg.hid b c T R::A) (dB λv H=>q v∧H=Leg.hid b c' T R::A):=
 Does.pack λa=>Does.withinR (B:=R a) (h a) (λ_ _ _ _=>trivial) (λ_ s=>eG (List.Perm.cons (am b (c a) T) (List.perm_append_comm (l₁:=R a) (l₂:=A))) s) λv H hp=>by
  obtain⟨h1,rfl⟩:=hp;exact⟨_,λ_ s=>br (p:=λa=>am b (c' a) T::R a) a (eG (List.Perm.cons (am b (c' a) T) (List.perm_append_comm (l₁:=A) (l₂:=R a))) s),h1,rfl⟩
end
open Api
variable {P:Program} {w0:World} {F:Hl} {n:Nat} {ops:Array Oper} {Q:QQ} {D:List Deferred} {L:List (Nat×Value)} {H:List HP} {d:Nat} {o:Oper} {l:List Oper}
section
variable {A:Type} {b:Nat} {c:A→List Value} {T:TypeId} {R:A→List HP}
theorem LG{t:TypeId}{x:Operand}{dt:TypeDesc}{j:Nat}(k:Nat)(ht:P.underlying t=some dt)(v:Value)(h:TL P w0 F n ops Q l D ((d,v)::L) H)(hw:Want n D ops o L:=by first|exact ab rfl|exact cm rfl rfl rfl)(hd:o.dst=some d:=by exact rfl)(hn:Nat.blt d n=true:=by exact rfl)(ho:o.op= .load t x:=by exact rfl)(hp:eI dt=true:=by exact rfl)(hx:cR L x=some (.pointer (some ⟨b,j,none⟩)):=by exact rfl)(hk:Nat.blt k H.length=true:=by exact rfl)(hH:H.getD k (λ_=>True)=hid b c T R:=by exact rfl)(hc: ∀a,(c a)[j]?=some v):TL P w0 F n ops Q (o::l) D L H:=mF hw hd hn (dy ho ht hp hx (c9 k hk hH) hc) h
theorem LZ{α:Type}{f:α→List Int}{t:TypeId}{x:Operand}{dt:TypeDesc}{j m:Nat}(k:Nat)(ht:P.underlying t=some dt)(hs:(P.info? t).map (·.size)=some m)(hf: ∀x,(ints (f x)).length=m)(y:α)(h:TL P w0 F n ops Q l D ((d, .agg (ints (f y)).toArray)::L) H)(hw:Want n D ops o L:=by first|exact ab rfl|exact cm rfl rfl rfl)(hd:o.dst=some d:=by exact rfl)(hn:Nat.blt d n=true:=by exact rfl)(ho:o.op= .load t x:=by exact rfl)(hp:eI dt=false:=by exact rfl)(hx:cR L x=some (.pointer (some ⟨b,j,none⟩)):=by exact rfl)(hk:Nat.blt k H.length=true:=by exact rfl)(hH:H.getD k (λ_=>True)=hid b c T R:=by exact rfl)(hc: ∀a,((c a).drop j).take m=ints (f y)):TL P w0 F n ops Q (o::l) D L H:=mF hw hd hn (gD ho ht hp hs hx (c9 k hk hH) (hf y) hc) h
theorem SK{o:Oper}{l:List Oper}{t:TypeId}{x y:Operand}{j m:Nat}{v:Value}{c':A→List Value}(k:Nat)(hs:(P.info? t).map (·.size)=some 1)(hl: ∀a,(c a).length=m)(h:TL P w0 F n ops Q l D L (H.set k (hid b c' T R)))(hw:Want n D ops o L:=by first|exact ab rfl|exact cm rfl rfl rfl)(hd:o.dst=none:=by exact rfl)(ho:o.op= .store t x y:=by exact rfl)(hx:cR L x=some (.pointer (some ⟨b,j,none⟩)):=by exact rfl)(hy:cR L y=some v:=by exact rfl)(h1:v.oneCell'=true:=by exact rfl)(hk:Nat.blt k H.length=true:=by exact rfl)(hH:H.getD k (λ_=>True)=hid b c T R:=by exact rfl)(hj:Nat.blt j m=true:=by first|exact rfl|exact Nat.ble_eq_true_of_le (by omega))(hc: ∀a,(c a).set j v=c' a):TL P w0 F n ops Q (o::l) D L H:=TL.store1G hw ho hd hx hy h1 hs hk hH (λa=>(hl a)▸lb hj) hc h
end
end Leg
end

section
namespace Go.Proofs.YtjblgopghhgflaaGreat
open Go Leg Codec Api Dsk Wal
structure Env(δ:Type) extends Dk δ where
 T:Nat
 ov:Value
 sf:Nat
 E:δ→List SaidT→HP
 lg:Nat→δ→HP
 me : yT Tryz.prog T ov "Send" sf
 nm:Named Tryz.prog sf
 say: ∀(e:δ) (l:List SaidT) (to':Int) (m:MsgT),ok e→Leg.Does Tryz.prog sf #[ov, .int .i64 to', .agg (ints m.flat).toArray] (λ_=>True) [E e l] (dB (λ_ H=>H=[E e (if dn e then l else l++[SaidT.mk to' m])]))
 put: ∀(g:Nat) (x:Value) (bs:List UInt8) (e:δ) (l:List SaidT),ok e→bs.length≤3000→Leg.Does Tryz.prog 166 #[.pointer (some ⟨g,0,none⟩),x] (IsW x bs) [lg g e,E e l] (dB (λv H=>v= .int .i64 (pt e bs).2∧H=[lg g (pt e bs).1,E (pt e bs).1 l]))
def Gr(vo:Value):Option VoteT→HP
 |none=>λ_=>vo= .pointer none
 |some vt=>λh=>∃b,vo= .pointer (some ⟨b,0,none⟩)∧am b (VoteT.cells vt) 227 h
abbrev cQ{δ:Type}(V:Env δ)(r:Nat)(s:MS δ):HP:=hid r (λa:Adr=>RepT.cells (s.rep a)) 123 (λa=>[V.lg a.lg s.e,own a.rs s.replies.length (ints (s.replies.flatMap ReplyT.flat)) 37 3,Gr a.vo s.vote,V.E s.e s.o])
abbrev wS{δ:Type}(V:Env δ)(r:Nat)(s:MS δ)(vo:Value):HP:=hid r (λa:Nat×Value=>RepT.cells (s.rep ⟨a.1,vo,a.2⟩)) 123 (λa=>[V.lg a.1 s.e,own a.2 s.replies.length (ints (s.replies.flatMap ReplyT.flat)) 37 3,V.E s.e s.o])
theorem kn{δ:Type}{V:Env δ}{r:Nat}{f:MS δ×Int}{X:MS δ}{y:Int}(e:f=(X,y)):Value.int .i64 y= .int .i64 f.2∧[cQ V r X]=[cQ V r f.1]:=by
 subst e;exact⟨rfl,rfl⟩
theorem HF{δ:Type}(V:Env δ)(r:Nat)(s:MS δ)(to':Int)(m:MsgT)[hs:OkR V.toDk s]:DT V.sf #[V.ov, .int .i64 to', .agg (ints m.flat).toArray] T0 [cQ V r s] (dB (λ_ H=>H=[cQ V r (Bh V.toDk s to' m)])):=
 Leg.Does.pack λa=>Leg.Does.withinR (V.say s.e s.o to' m hs.e) (λ_ _ _ _=>trivial) (λ_ q=>aD [4] rfl q) λv H hp=>by
  subst hp;refine⟨_,λ_ q=>?_,rfl⟩;have q2:=aD [1,1,1,1,0] rfl q;exact br (p:=λa:Adr=>[am r (RepT.cells (s.rep a)) 123,V.lg a.lg s.e,own a.rs s.replies.length (ints (s.replies.flatMap ReplyT.flat)) 37 3,Gr a.vo s.vote,V.E s.e (if V.dn s.e then s.o else s.o++[SaidT.mk to' m])]) a q2
theorem gL{δ:Type}(V:Env δ)(r:Nat)(s:MS δ)(to':Int)(m:MsgT)(f:MS δ→MS δ)(hT:to'=s.id→DT 105 #[.pointer (some ⟨r,0,none⟩), .iface V.T V.ov, .int .i64 s.id, .agg (ints m.flat).toArray] T0 [cQ V r s] (dB (λ_ H=>H=[cQ V r (f s)])))[OkR V.toDk s]:
 DT 149 #[(.pointer (some ⟨r,0,none⟩)),(.iface V.T V.ov),(.int .i64 (to')),(.agg (ints m.flat).toArray)] T0 [cQ V r s] (dB (λ_ H=>H=[cQ V r (mZ V.toDk f s to' m)])):=by
 refine Leg.Does.body (vs:=[(.pointer (some ⟨r,0,none⟩)),(.iface V.T V.ov),(.int .i64 (to')),(.agg (ints m.flat).toArray)]) (n:=28) Tryz.func149 rfl rfl rfl (λw0 F hF=>?_);refine sr λ_ J1=>?_
 refine TL.box (ab rfl) rfl rfl rfl rfl (λb7=>?_);change TL _ _ _ _ _ _ _ _ _ [am b7 (ints m.flat) 178,cQ V r s];refine nx J1 ?_;refine aa λ_ J2=>?_
 refine sr λ_ J3=>?_
 refine mv ?_;refine mv ?_;refine tp (gH rfl rfl) ?_;refine tp (bc (r:=0) rfl bo rfl aQ rfl rfl) ?_;refine tp (dy (v:=(.int .i64 (s.id))) rfl Y3 rfl rfl (c9 1 rfl rfl) (λa_=>(cN (s.rep a_) rfl))) ?_;refine tp (PN rfl rfl rfl) ?_;refine ao (λh13=>?_) (λh13=>?_);refine nx J3 ?_;refine oh rfl ?_;refine aa λ_ J4=>?_
 refine sO (λw=>Frm F w∧w.heap[b7]?=some (.cells (ints m.flat).toArray 178 (0,0))∧True) bp rfl (λ_ s=>⟨fN s,s.block 0 (lb rfl) rfl,trivial⟩) ?_;refine ta 0 rfl (kA rfl rfl) ?_;refine ta 1 rfl (kA rfl rfl) ?_;refine ta 2 rfl (kA rfl rfl) ?_;refine ta 3 rfl (gH rfl rfl) ?_;refine ta 4 rfl (bc (r:=0) rfl bo rfl aQ rfl rfl) ?_;refine ta 6 rfl (aO (vs:=ints m.flat) rfl bk rfl cj rfl (λ_ h=>h.2.1) (aJ m) (whole (aJ m))) ?_;refine cX [5] (by kernel_rfl) rfl ?_;refine aH rfl ?_ ?_;refine tp (dy (v:=(.int .i64 (s.id))) rfl Y3 rfl rfl (c9 1 rfl rfl) (λa_=>(cN (s.rep a_) rfl))) ?_;refine au ?_;refine wo (λ_ s=>⟨fN s,s.block 0 (lb rfl) rfl,trivial⟩) ?_;refine cX [7] (by kernel_rfl) rfl ?_;refine aH rfl ?_ ?_;refine lL (ab rfl) rfl rfl rfl M5 rfl ((by have h:=hT h13;exact h)) (λ_ s=>aD [1] rfl s) (λ_ _ _=>trivial) (λvR HR hR=>?_);obtain rfl:=hR;refine au ?_;refine wo (λ_ s=>⟨fN s,s.block 1 (lb rfl) rfl,trivial⟩) ?_;refine TD.done (by kernel_rfl) ?_;refine ac J4 ?_;refine aj ?_;refine af ?_;refine aF (dE _) (λ_ s=>ak [0] rfl s) ?_;refine dW rfl ?_;exact(congrArg (λq=>[cQ V r q]) (if_pos h13)).symm;exact bM;exact bM;refine nx J3 ?_;refine Hb rfl ?_;refine aU ?_;refine ac J2 ?_;refine sr λ_ J5=>?_
 refine mv ?_;refine tp (PV.ifaceNotNil rfl Tryz.underlying168 rfl) ?_;refine nx J5 ?_;refine oh rfl ?_;refine ae ?_;refine mv ?_;refine mv ?_;refine tp (aO (vs:=ints m.flat) rfl bk rfl cj rfl (fE 0 rfl rfl) (aJ m) (whole (aJ m))) ?_;refine TL.callI (ab rfl) rfl rfl rfl rfl V.me V.nm rfl (HF V r s to' m) (λ_ s=>aD [1] rfl s) (λ_ _ _=>trivial) (λvR HR hR=>?_);obtain rfl:=hR;refine au ?_;refine aF (dE _) (λ_ s=>ak [0] rfl s) ?_;refine bG rfl ?_;exact(congrArg (λq=>[cQ V r q]) (if_neg h13)).symm
theorem kb{δ:Type}(V:Env δ)(r:Nat)(s:MS δ)(to':Int)(m:MsgT)(hto:to'≠s.id)[OkR V.toDk s]:DT 149 #[.pointer (some ⟨r,0,none⟩), .iface V.T V.ov, .int .i64 to', .agg (ints m.flat).toArray] T0 [cQ V r s] (dB (λ_ H=>H=[cQ V r (gE V.toDk s [⟨to',m⟩])])):=by
 have h:=gL V r s to' m id (λe=>absurd e hto)
 rwa [show mZ V.toDk id s to' m=gE V.toDk s [⟨to',m⟩]from if_neg hto]at h
theorem pc{δ:Type}(V:Env δ)(r:Nat)(s:MS δ)(l:List SaidT)(to':Int)(m:MsgT)(hto:to'≠s.id)[OkR V.toDk s]:DT 149 #[.pointer (some ⟨r,0,none⟩), .iface V.T V.ov, .int .i64 to', .agg (ints m.flat).toArray] T0 [cQ V r (gE V.toDk s l)] (dB (λ_ H=>H=[cQ V r (gE V.toDk s (l++[⟨to',m⟩]))])):=by
 have h:=kb V r (gE V.toDk s l) to' m hto
 rwa [Jw]at h
theorem MQ{δ:Type}{V:Env δ}{r:Nat}{a b:MS δ}(h:a=b):[cQ V r a]=[cQ V r b]:=by rw[h]
theorem oL{δ:Type}(V:Env δ)(r:Nat)(s:MS δ)[OkR V.toDk s]:
 DT 106 #[(.pointer (some ⟨r,0,none⟩)),(.iface V.T V.ov)] T0 [cQ V r s] (dB (λ_ H=>H=[cQ V r (fg V.toDk s)])):=by
 refine BD 40 Tryz.func106 rfl rfl rfl λw0 F hF=>?_
 have hid:cH s.id=true:=OkR.id;have hid2:0≤s.id∧s.id<5:=of_decide_eq_true hid;refine aa λ_ J1=>DB bp (c9 0 rfl rfl) ?_
 refine PD 0 ?_;refine PD 1 ?_;refine FD 2 0 bo aQ ?_;refine ta 3 rfl (dy (v:=(.int .i64 (s.id))) rfl Y3 rfl rfl (λ_ h=>h.2.1) (λa_=>(cN _ rfl))) ?_;refine PD 4 ?_;refine PD 5 ?_;refine FD 6 9 bo bg ?_;refine ta 7 rfl (gD (vs:=ints s.own.flat) rfl dV rfl bg rfl (λ_ h=>h.2.1) (ah s.own) (λa_=>(zu (s.rep a_) 0 rfl (by decide) (whole (ah ((s.rep a_).own)))))) ?_;refine ta 8 rfl (lY MsgT.zero (MsgT.mk 0 s.id s.own 0 0 BallotT.zero BallotT.zero ChangeT.zero ViewT.zero) [(0,[Value.int .i64 0]),(1,[Value.int .i64 s.id]),(2,ints s.own.flat)] bk bB (g:=MsgT.sg)) ?_;refine AL 9 ?_;refine XZ m9 (ints MsgT.zero.flat) λb4=>?_
 refine EN (AL 10 ?_);refine SW 0 cj aJ ?_;refine EN (DN (ac J1 (sr λ_ J2=>P2 ?_)));refine FA 0 bo aQ ?_;refine LG 1 Y3 (.int .i64 (s.id)) ?_ (hc:=by exact λa_=>(cN _ rfl));refine CR Io (oU s.id hid) ID λvR HR hR=>?_
 obtain⟨_,rfl,rfl⟩:=hR;revert vR;intro uw;refine kO 0 rfl rfl (λhluw _=>j5 0 rfl rfl (by omega) (λgw capw hvw hcapw=>tp (ef rfl kM rfl hluw) ?_));refine PS ?_;refine nx J2 (aq (sW 2 (sr λ_ J3=>PS ?_)));refine nx J3 (aa λ_ J4=>CY (qx J4 (aa λ_ J5=>aq (sr λ_ J6=>tp (bU (r:=0) hvw rfl kM aQ rfl rfl (by omega) (by omega) rfl) ?_))));refine tp (dr (v:=(.int .i64 (((s.id+1)%5)))) rfl Y3 rfl rfl (gC 0 rfl hvw rfl) rfl) ?_;refine PS ?_;refine nx J6 (sr λ_ J7=>P2 ?_);refine FA 1939 bo aQ ?_;refine LG 2 Y3 (.int .i64 (s.kept)) ?_ (hc:=by exact λa_=>(sQ _ rfl));refine PS ?_;refine tp (mI (r:=(s.kept.fdiv (2^min (((s.id+1)%5)).toNat IntKind.i64.bits))) rfl rfl rfl (by omega) rfl) ?_;refine tp (wF (r:=((s.kept.fdiv (2^min (((s.id+1)%5)).toNat IntKind.i64.bits))%2)) rfl rfl rfl (mask (k:=1) (by decide) _)) ?_;refine PS ?_;refine ao ?_ ?_<;>intro h33;refine nx J7 (CY (ae (P3 ?_)));refine LW 1 bk cj aJ ?_;refine CZ jP (kb V r s ((s.id+1)%5) (MsgT.mk 0 s.id s.own 0 0 BallotT.zero BallotT.zero ChangeT.zero ViewT.zero) (by omega)) (SM [2]) λvR=>?_
 refine au (ag (ac J5 (ae (tp (cL (r:=1) rfl rfl rfl (by decide)) ?_))));refine PS ?_;refine au (eL (sr λ_ J8=>PS ?_));refine nx J8 (aa λ_ J9=>CY (qx J9 (aa λ_ J10=>aq (sr λ_ J11=>tp (bU (r:=1) hvw rfl kM aQ rfl rfl (by omega) (by omega) rfl) ?_))));refine tp (dr (v:=(.int .i64 (((s.id+2)%5)))) rfl Y3 rfl rfl (gC 1 rfl hvw rfl) rfl) ?_;refine PS ?_;refine nx J11 (sr λ_ J12=>P2 ?_);refine FA 1939 bo aQ ?_;refine LG 0 Y3 (.int .i64 (s.kept)) ?_ (hc:=by exact λa_=>(sQ _ rfl));refine PS ?_;refine tp (mI (r:=(s.kept.fdiv (2^min (((s.id+2)%5)).toNat IntKind.i64.bits))) rfl rfl rfl (by omega) rfl) ?_;refine tp (wF (r:=((s.kept.fdiv (2^min (((s.id+2)%5)).toNat IntKind.i64.bits))%2)) rfl rfl rfl (mask (k:=1) (by decide) _)) ?_;refine PS ?_;refine ao ?_ ?_<;>intro h33;refine nx J12 (CY (ae (P3 ?_)));refine LW 2 bk cj aJ ?_;refine CZ jP (pc V r s ([SaidT.mk ((s.id+1)%5) (MsgT.mk 0 s.id s.own 0 0 BallotT.zero BallotT.zero ChangeT.zero ViewT.zero)]) ((s.id+2)%5) (MsgT.mk 0 s.id s.own 0 0 BallotT.zero BallotT.zero ChangeT.zero ViewT.zero) (by omega)) ID λvR=>?_
 refine au (ag (ac J10 (ae (tp (cL (r:=2) rfl rfl rfl (by decide)) ?_))));refine PS ?_;refine au (eL (sr λ_ J13=>PS ?_));refine nx J13 (aa λ_ J14=>CN (aX (aA (aA (bu (WK [0] (bG rfl ?_)))))));exact MQ (by rw[fg,show oo (s.rep .nil)=[SaidT.mk ((s.id+1)%5) (MsgT.mk 0 s.id s.own 0 0 BallotT.zero BallotT.zero ChangeT.zero ViewT.zero)]++[SaidT.mk ((s.id+2)%5) (MsgT.mk 0 s.id s.own 0 0 BallotT.zero BallotT.zero ChangeT.zero ViewT.zero)]by rw[oo,gJ,if_pos hid];simp[Ca,xD,MsgT.zero,Adr.nil, *]]);refine nx J12 (CN (aU (ag (ac J10 (ae (tp (cL (r:=2) rfl rfl rfl (by decide)) ?_))))));refine PS ?_;refine au (eL (sr λ_ J15=>PS ?_));refine nx J15 (aa λ_ J16=>CN (aX (aA (aA (bu (WK [0] (bG rfl ?_)))))));exact MQ (by rw[fg,show oo (s.rep .nil)=[SaidT.mk ((s.id+1)%5) (MsgT.mk 0 s.id s.own 0 0 BallotT.zero BallotT.zero ChangeT.zero ViewT.zero)]by rw[oo,gJ,if_pos hid];simp[Ca,xD,MsgT.zero,Adr.nil, *]]);refine nx J7 (CN (aU (ag (ac J5 (ae (tp (cL (r:=1) rfl rfl rfl (by decide)) ?_))))));refine PS ?_;refine au (eL (sr λ_ J17=>PS ?_));refine nx J17 (aa λ_ J18=>CY (qx J18 (aa λ_ J19=>aq (sr λ_ J20=>tp (bU (r:=1) hvw rfl kM aQ rfl rfl (by omega) (by omega) rfl) ?_))));refine tp (dr (v:=(.int .i64 (((s.id+2)%5)))) rfl Y3 rfl rfl (gC 0 rfl hvw rfl) rfl) ?_;refine PS ?_;refine nx J20 (sr λ_ J21=>P2 ?_);refine FA 1939 bo aQ ?_;refine LG 2 Y3 (.int .i64 (s.kept)) ?_ (hc:=by exact λa_=>(sQ _ rfl))
 refine PS ?_;refine tp (mI (r:=(s.kept.fdiv (2^min (((s.id+2)%5)).toNat IntKind.i64.bits))) rfl rfl rfl (by omega) rfl) ?_;refine tp (wF (r:=((s.kept.fdiv (2^min (((s.id+2)%5)).toNat IntKind.i64.bits))%2)) rfl rfl rfl (mask (k:=1) (by decide) _)) ?_;refine PS ?_;refine ao ?_ ?_<;>intro h33;refine nx J21 (CY (ae (P3 ?_)));refine LW 1 bk cj aJ ?_;refine CZ jP (kb V r s ((s.id+2)%5) (MsgT.mk 0 s.id s.own 0 0 BallotT.zero BallotT.zero ChangeT.zero ViewT.zero) (by omega)) (SM [2]) λvR=>?_
 refine au (ag (ac J19 (ae (tp (cL (r:=2) rfl rfl rfl (by decide)) ?_))));refine PS ?_;refine au (eL (sr λ_ J22=>PS ?_));refine nx J22 (aa λ_ J23=>CN (aX (aA (aA (bu (WK [0] (bG rfl ?_)))))));exact MQ (by rw[fg,show oo (s.rep .nil)=[SaidT.mk ((s.id+2)%5) (MsgT.mk 0 s.id s.own 0 0 BallotT.zero BallotT.zero ChangeT.zero ViewT.zero)]by rw[oo,gJ,if_pos hid];simp[Ca,xD,MsgT.zero,Adr.nil, *]]);refine nx J21 (CN (aU (ag (ac J19 (ae (tp (cL (r:=2) rfl rfl rfl (by decide)) ?_))))));refine PS ?_;refine au (eL (sr λ_ J24=>PS ?_));refine nx J24 (aa λ_ J25=>CN (aX (aA (aA (bu (WK [2] (bG rfl ?_)))))));exact MQ (by rw[fg,show oo (s.rep .nil)=[]by rw[oo,gJ,if_pos hid];simp[Ca,xD,MsgT.zero,Adr.nil, *]];exact(qN _ _).symm)
theorem nM{δ:Type}(V:Env δ)(r:Nat)(s:MS δ)(y:RowT)[OkR V.toDk s]:
 DT 110 #[(.pointer (some ⟨r,0,none⟩)),(.iface V.T V.ov),(.agg (ints y.flat).toArray)] T0 [cQ V r s] (dB (λ_ H=>H=[cQ V r (k8 V.toDk s y)])):=by
 refine BD 27 Tryz.func110 rfl rfl rfl λw0 F hF=>sr λ_ J1=>XY (ints y.flat) λb5=>?_
 refine nx J1 (sr λ_ J2=>PS ?_);refine nx J2 (aq ?_)
 refine bA (α:=(Nat)) (λk=>k≤5) (λk=>[(0,(.pointer (some ⟨r,0,none⟩))),(1,(.iface V.T V.ov)),(5,(.pointer (some ⟨b5,0,none⟩))),(7,(.int .i64 (((k:Nat):Int))))]) (λk=>[am b5 (ints y.flat) 60,cQ V r (gE V.toDk s (nj s.id (pS s.id y) (λ_=>true) k))]) (λk=>5-k) 0
  (aN _) SB
  (λ_ q=>by
  rw[show nj s.id (pS s.id y) (λ_=>true) 0=[]from rfl,qN]
  exact q) (λk hinv=>?_)
 obtain hk:=hinv;refine sr λ_ J3=>PS ?_
 refine ao ?_ ?_<;>intro h8;refine nx J3 (aa λ_ J4=>CY (qx J4 (aa λ_ J5=>aq (sr λ_ J6=>P2 ?_))));refine nx J6 (sr λ_ J7=>P3 ?_);refine FA 0 bo aQ ?_;refine LG 1 Y3 (.int .i64 (s.id)) ?_ (hc:=by exact λa_=>(cN _ rfl));refine PS ?_;refine ao ?_ ?_<;>intro h15;refine nx J7 (CY (DC bp (c9 1 rfl rfl) (BL 0) ?_));refine PD 0 ?_;refine PD 1 ?_;refine PD 2 ?_;refine PD 3 ?_;refine PD 4 ?_;refine FD 5 0 bo aQ ?_;refine ta 6 rfl (dy (v:=(.int .i64 (s.id))) rfl Y3 rfl rfl (λ_ h=>h.2.1) (λa_=>(cN _ rfl))) ?_;refine LY 7 dV bg ah ?_;refine ta 8 rfl (lY MsgT.zero (MsgT.mk 2 s.id y 0 0 BallotT.zero BallotT.zero ChangeT.zero ViewT.zero) [(0,[Value.int .i64 2]),(1,[Value.int .i64 s.id]),(2,ints y.flat)] bk bB (g:=MsgT.sg)) ?_;refine AL 9 ?_;refine CZ jP (pc V r s (nj s.id (pS s.id y) (λ_=>true) k) ((k:Nat):Int) (MsgT.mk 2 s.id y 0 0 BallotT.zero BallotT.zero ChangeT.zero ViewT.zero) h15) (SM [1]) λvR=>?_
 refine EN (DN (ag (ac J5 (ae (AD ?_)))));refine PS ?_;refine au ?_
 exact aK ((k+1):(Nat)) (by omega) (by show 5- (k+1)<5-k;omega)
  SB
  (λ_ q=>by
   rw[jp,if_pos ⟨h15,rfl⟩]
   exact ak [1,0] rfl q)
 refine nx J7 (CN (aU (ag (ac J5 (ae (AD ?_))))));refine PS ?_;refine au ?_
 exact aK ((k+1):(Nat)) (by omega) (by show 5- (k+1)<5-k;omega)
  SB
  (λ_ q=>by
   rw[jp,if_neg (by omega)];rw[aR]
   exact ak [0,0] rfl q)
 refine nx J3 (aa λ_ J8=>CN (aX (aA (aA (bu (WK [1] (bG rfl ?_)))))));obtain rfl:k=5:=by omega
 exact rfl
theorem nL{δ:Type}(V:Env δ)(r:Nat)(s:MS δ)(v:ViewT)[OkR V.toDk s]:
 DT 109 #[(.pointer (some ⟨r,0,none⟩)),(.iface V.T V.ov),(.agg (ints v.flat).toArray)] T0 [cQ V r s] (dB (λ_ H=>H=[cQ V r (l4 V.toDk s v)])):=by
 refine BD 23 Tryz.func109 rfl rfl rfl λw0 F hF=>sr λ_ J1=>XY (ints v.flat) λb5=>?_
 refine nx J1 (sr λ_ J2=>PS ?_);refine nx J2 (aq ?_)
 refine bA (α:=(Nat)) (λk=>k≤5) (λk=>[(0,(.pointer (some ⟨r,0,none⟩))),(1,(.iface V.T V.ov)),(5,(.pointer (some ⟨b5,0,none⟩))),(7,(.int .i64 (((k:Nat):Int))))]) (λk=>[am b5 (ints v.flat) 44,cQ V r (gE V.toDk s (nj s.id (jx v) (λ_=>true) k))]) (λk=>5-k) 0
  (aN _) SB
  (λ_ q=>by
  rw[show nj s.id (jx v) (λ_=>true) 0=[]from rfl,qN]
  exact q) (λk hinv=>?_)
 obtain hk:=hinv;refine sr λ_ J3=>PS ?_
 refine ao ?_ ?_<;>intro h8;refine nx J3 (aa λ_ J4=>CY (qx J4 (aa λ_ J5=>aq (sr λ_ J6=>P2 ?_))));refine nx J6 (sr λ_ J7=>P3 ?_);refine FA 0 bo aQ ?_;refine LG 1 Y3 (.int .i64 (s.id)) ?_ (hc:=by exact λa_=>(cN _ rfl));refine PS ?_;refine ao ?_ ?_<;>intro h15;refine nx J7 (CY (ae (P3 ?_)));refine LW 0 eX bm an ?_;refine tp (lY MsgT.zero (MsgT.mk 7 0 RowT.zero 0 0 BallotT.zero BallotT.zero ChangeT.zero v) [(0,[Value.int .i64 7]),(8,ints v.flat)] bk bB (g:=MsgT.sg)) ?_;refine CZ jP (pc V r s (nj s.id (jx v) (λ_=>true) k) ((k:Nat):Int) (MsgT.mk 7 0 RowT.zero 0 0 BallotT.zero BallotT.zero ChangeT.zero v) h15) (SM [1]) λvR=>?_
 refine au (ag (ac J5 (ae (AD ?_))));refine PS ?_;refine au ?_
 exact aK ((k+1):(Nat)) (by omega) (by show 5- (k+1)<5-k;omega)
  SB
  (λ_ q=>by
   rw[jp,if_pos ⟨h15,rfl⟩]
   exact ak [1,0] rfl q)
 refine nx J7 (CN (aU (ag (ac J5 (ae (AD ?_))))));refine PS ?_;refine au ?_
 exact aK ((k+1):(Nat)) (by omega) (by show 5- (k+1)<5-k;omega)
  SB
  (λ_ q=>by
   rw[jp,if_neg (by omega)];rw[aR]
   exact ak [0,0] rfl q)
 refine nx J3 (aa λ_ J8=>CN (aX (aA (aA (bu (WK [1] (bG rfl ?_)))))));obtain rfl:k=5:=by omega
 exact rfl
end Go.Proofs.YtjblgopghhgflaaGreat
end
