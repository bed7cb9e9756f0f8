/-
  Joined texts:what a statement's proof reaches.
-/
import Derived.Conc.LoneCalls
import Derived.Conc.LoneSelectN
import Derived.Test.YtjblgopghhgflaaGreatPAO4
set_option maxHeartbeats 8000000
set_option maxRecDepth 100000
set_option linter.unusedSimpArgs false
set_option linter.unusedVariables false
section
namespace Go.Proofs.YtjblgopghhgflaaGreat
open Go Leg Codec Api
theorem zn(rb:Nat)(v:Value)(bs:List UInt8):
 DT 142 #[(.pointer (some ⟨rb,0,none⟩))] (IsB v bs) [ah rb [v] 197] (nz 197 hZ (λmb:MsgT×Bool=> .tuple #[.agg (ints mb.1.flat).toArray, .bool mb.2]) cL v bs rb):=by
 refine BD 85 Tryz.func142 rfl rfl rfl λw0 F hF=>sr λ_ J1=>XZ l9 (ints MsgT.zero.flat) λb2=>?_
 refine PS ?_;refine nx J1 (sr λ_ J2=>PS ?_);refine CP jc (cK rb v bs (10)) (SM [1]) (λ_ d _=>(hF).more d) (λcP HP hP=>?_) (λvR HR hR=>?_);obtain⟨vP,rfl,rfl,hpP⟩:=hP;refine ax (WK [0] (aS ?_));exact⟨_,rfl,rfl,by simp[cL,bP hpP, *]⟩;obtain⟨a1,r1,v1,rfl,rfl,hp1,ht1⟩:=hR;have hf1:=ht1 _ hF;refine tp (kI MsgT.zero (MsgT.mk a1 0 RowT.zero 0 0 BallotT.zero BallotT.zero ChangeT.zero ViewT.zero) [(0,[Value.int .i64 a1])] bb bq (g:=MsgT.sg)) ?_;refine XZ l9 (ints MsgT.zero.flat) λb4=>?_
 refine SW 0 bW aG ?_;refine nx J2 (ab λ_ J3=>sr λ_ J4=>FA 0 bb aQ ?_);refine LT 0 Y3 (.int .i64 (a1)) ?_ (hc:=by exact eR _ rfl);refine nx J4 (aq (ab λ_ J5=>e7 (α:=Unit) (λ_u=>True) (λ_u=>[(0,(.pointer (some ⟨rb,0,none⟩))),(2,(.pointer (some ⟨b2,0,none⟩))),(3,(.bool false)),(4,(.pointer (some ⟨b4,0,none⟩))),(9,(.int .i64 (a1))),(10,(.bool ((fa a1))))]) (λ_u=>[ah b4 (ints (MsgT.mk a1 0 RowT.zero 0 0 BallotT.zero BallotT.zero ChangeT.zero ViewT.zero).flat) 178,ah rb [v1] 197,ah b2 (ints MsgT.zero.flat) 178]) (λ_u hinv=>?_) (λtl5=>?_)));have _:=hinv;refine ac J5 (TC.cond rfl (λh10=>?_) (λh10=>?_));refine sr λ_ J6=>PS ?_
 refine CP jc (cK rb v1 r1 (5)) (SM [1]) (λ_ d _=>(hf1).more d) (λcP HP hP=>?_) (λvR HR hR=>?_);obtain⟨vP,rfl,rfl,hpP⟩:=hP;refine ax (aP (ax (WK [0] (aS ?_))));exact⟨_,rfl,rfl,by simp[cL,aw hp1,bP hpP,h10, *]⟩;obtain⟨a2,r2,v2,rfl,rfl,hp2,ht2⟩:=hR;have hf2:=ht2 _ hf1;refine FA 1 bb aQ ?_;refine SS 1 aQ (aG _) (MsgT.set_whose _ rfl _) ?_;refine nx J6 (sr λ_ J7=>PS ?_);refine CP HA (tf rb v2 r2) ID (λ_ d _=>(hf2).more d) (λcP HP hP=>?_) (λvR HR hR=>?_);obtain⟨vP,rfl,rfl,hpP⟩:=hP;refine ax (aP (ax (WK [0] (aS ?_))));exact⟨_,rfl,rfl,by simp[cL,aw hp1,aw hp2,bP hpP,h10, *]⟩;obtain⟨a3,r3,v3,rfl,rfl,hp3,ht3⟩:=hR;have hf3:=ht3 _ hf2;refine FA 2 bb aZ ?_;refine SP 1 aZ ag aG MsgT.wp_row ?_;refine nx J7 (ab λ_ J8=>D1 1 bh ?_);refine LY 0 bb bW aG ?_;refine FD 1 2 bb aZ ?_;refine ta 2 rfl (aN (vs:=ints a3.flat) rfl dD rfl aZ rfl (λ_ h=>h.2.1) (ag a3) (l3 (MsgT.mk a1 a2 a3 0 0 BallotT.zero BallotT.zero ChangeT.zero ViewT.zero) 0 rfl (by decide) (whole (ag a3)))) ?_;refine AL 3 ?_;refine CE Bj (fW a3 (zi hp3)) ID ?_;refine EN (AL 4 ?_);refine SW 2 bW aG ?_;refine EN (PD 5 ?_);refine DN (ac J8 (ai (aH (ae (RT 2 [0] bb bW (aG _) ?_)))));exact⟨((MsgT.mk a1 a2 a3 0 0 BallotT.zero BallotT.zero ChangeT.zero ViewT.zero),(fL a3)),_,_,rfl,rfl,by simp[cL,pr,aw hp1,aw hp2,aw hp3,h10,MsgT.zero,RecT.zero, *],(ht1.trans (ht2.trans ht3))⟩;refine sr λ_ J9=>PS ?_
 refine an ?_ ?_<;>intro h25;refine PS ?_;refine nx J9 (CY (ad (PS ?_)));refine CP pJ (ja rb v1 r1) (SM [1]) (λ_ d _=>(hf1).more d) (λcP HP hP=>?_) (λvR HR hR=>?_);obtain⟨vP,rfl,rfl,hpP⟩:=hP;refine aP (ax (WK [0] (aS ?_)));exact⟨_,rfl,rfl,by simp[cL,fa,fj,aw hp1,bP hpP,h10,h25, *]⟩;obtain⟨a2,r2,v2,rfl,rfl,hp2,ht2⟩:=hR;have hf2:=ht2 _ hf1;refine FA 176 bb aQ ?_;refine SS 1 aQ (aG _) (MsgT.set_version _ rfl _) ?_;refine ap (af (ac J3 (sr λ_ J10=>LW 1 bb bW aG ?_)));refine SW 2 bW aG ?_;refine PS ?_;refine nx J10 (ai (RT 2 [0] bb bW (aG _) ?_));exact⟨((MsgT.mk a1 0 RowT.zero a2 0 BallotT.zero BallotT.zero ChangeT.zero ViewT.zero),true),_,_,rfl,rfl,by simp[cL,fa,fj,pr,aw hp1,aw hp2,h10,h25,MsgT.zero,RecT.zero, *],(ht1.trans ht2)⟩;refine PS ?_;refine nx J9 (CN (ab λ_ J11=>e7 (α:=Unit) (λ_u=>True) (λ_u=>[(0,(.pointer (some ⟨rb,0,none⟩))),(2,(.pointer (some ⟨b2,0,none⟩))),(3,(.bool false)),(4,(.pointer (some ⟨b4,0,none⟩))),(9,(.int .i64 (a1))),(29,(.bool ((fj a1))))]) (λ_u=>[ah b4 (ints (MsgT.mk a1 0 RowT.zero 0 0 BallotT.zero BallotT.zero ChangeT.zero ViewT.zero).flat) 178,ah rb [v1] 197,ah b2 (ints MsgT.zero.flat) 178]) (λ_u hinv=>?_) (λtl11=>?_)));have _:=hinv;refine ac J11 (TC.cond rfl (λh29=>?_) (λh29=>?_));refine sr λ_ J12=>PS ?_
 refine CP pJ (ja rb v1 r1) (SM [1]) (λ_ d _=>(hf1).more d) (λcP HP hP=>?_) (λvR HR hR=>?_);obtain⟨vP,rfl,rfl,hpP⟩:=hP;refine ax (aP (ax (WK [0] (aS ?_))));exact⟨_,rfl,rfl,by simp[cL,aw hp1,bP hpP,h10,h25,h29, *]⟩;obtain⟨a2,r2,v2,rfl,rfl,hp2,ht2⟩:=hR;have hf2:=ht2 _ hf1;refine FA 177 bb aQ ?_;refine SS 1 aQ (aG _) (Nc _ rfl _) ?_;refine nx J12 (ad (PS ?_));refine CP yl (jr rb v2 r2) ID (λ_ d _=>(hf2).more d) (λcP HP hP=>?_) (λvR HR hR=>?_);obtain⟨vP,rfl,rfl,hpP⟩:=hP;refine aP (ax (WK [0] (aS ?_)));exact⟨_,rfl,rfl,by simp[cL,aw hp1,aw hp2,bP hpP,h10,h25,h29, *]⟩;obtain⟨a3,r3,v3,rfl,rfl,hp3,ht3⟩:=hR;have hf3:=ht3 _ hf2;refine FA 178 bb cq ?_;refine SP 1 cq ao aG Nb ?_;refine ap (af (ac J3 (sr λ_ J13=>LW 1 bb bW aG ?_)));refine SW 2 bW aG ?_;refine PS ?_;refine nx J13 (ai (RT 2 [0] bb bW (aG _) ?_));exact⟨((MsgT.mk a1 0 RowT.zero 0 a2 a3 BallotT.zero ChangeT.zero ViewT.zero),true),_,_,rfl,rfl,by simp[cL,pr,aw hp1,aw hp2,aw hp3,h10,h25,h29,MsgT.zero,RecT.zero, *],(ht1.trans (ht2.trans ht3))⟩;refine sr λ_ J14=>PS ?_
 refine an ?_ ?_<;>intro h39;refine PS ?_;refine nx J14 (CY (sr λ_ J15=>PS ?_));refine CP pJ (ja rb v1 r1) (SM [1]) (λ_ d _=>(hf1).more d) (λcP HP hP=>?_) (λvR HR hR=>?_);obtain⟨vP,rfl,rfl,hpP⟩:=hP;refine ax (aP (ax (WK [0] (aS ?_))));exact⟨_,rfl,rfl,by simp[cL,fa,fj,aw hp1,bP hpP,h10,h25,h29,h39, *]⟩;obtain⟨a2,r2,v2,rfl,rfl,hp2,ht2⟩:=hR;have hf2:=ht2 _ hf1;refine FA 177 bb aQ ?_;refine SS 1 aQ (aG _) (Nc _ rfl _) ?_;refine nx J15 (sr λ_ J16=>PS ?_);refine CP yl (jr rb v2 r2) ID (λ_ d _=>(hf2).more d) (λcP HP hP=>?_) (λvR HR hR=>?_);obtain⟨vP,rfl,rfl,hpP⟩:=hP;refine ax (aP (ax (WK [0] (aS ?_))));exact⟨_,rfl,rfl,by simp[cL,fa,fj,aw hp1,aw hp2,bP hpP,h10,h25,h29,h39, *]⟩;obtain⟨a3,r3,v3,rfl,rfl,hp3,ht3⟩:=hR;have hf3:=ht3 _ hf2;refine FA 178 bb cq ?_;refine SP 1 cq ao aG Nb ?_;refine nx J16 (sr λ_ J17=>PS ?_);refine CP yl (jr rb v3 r3) ID (λ_ d _=>(hf3).more d) (λcP HP hP=>?_) (λvR HR hR=>?_);obtain⟨vP,rfl,rfl,hpP⟩:=hP;refine ax (aP (ax (WK [0] (aS ?_))));exact⟨_,rfl,rfl,by simp[cL,fa,fj,aw hp1,aw hp2,aw hp3,bP hpP,h10,h25,h29,h39, *]⟩;obtain⟨a4,r4,v4,rfl,rfl,hp4,ht4⟩:=hR;have hf4:=ht4 _ hf3;refine FA 180 bb cq ?_;refine SP 1 cq ao aG MsgT.wp_had ?_;refine nx J17 (ad (PS ?_));refine CP Hz (ox rb v4 r4) ID (λ_ d _=>(hf4).more d) (λcP HP hP=>?_) (λvR HR hR=>?_);obtain⟨vP,rfl,rfl,hpP⟩:=hP
 refine aP (ax (WK [0] (aS ?_)));exact⟨_,rfl,rfl,by simp[cL,fa,fj,aw hp1,aw hp2,aw hp3,aw hp4,bP hpP,h10,h25,h29,h39, *]⟩;obtain⟨a5,r5,v5,rfl,rfl,hp5,ht5⟩:=hR;have hf5:=ht5 _ hf4;refine FA 182 bb fB ?_;refine SP 1 fB aJ aG Na ?_;refine ap (af (ac J3 (sr λ_ J18=>LW 1 bb bW aG ?_)));refine SW 2 bW aG ?_;refine PS ?_;refine nx J18 (ai (RT 2 [0] bb bW (aG _) ?_));exact⟨((MsgT.mk a1 0 RowT.zero 0 a2 a3 a4 a5 ViewT.zero),true),_,_,rfl,rfl,by simp[cL,fa,fj,pr,aw hp1,aw hp2,aw hp3,aw hp4,aw hp5,h10,h25,h29,h39,MsgT.zero,RecT.zero, *],(ht1.trans (ht2.trans (ht3.trans (ht4.trans ht5))))⟩;refine PS ?_;refine nx J14 (CN (sr λ_ J19=>PS ?_));refine an ?_ ?_<;>intro h53;refine PS ?_;refine nx J19 (CY (sr λ_ J20=>PS ?_));refine CP pJ (ja rb v1 r1) (SM [1]) (λ_ d _=>(hf1).more d) (λcP HP hP=>?_) (λvR HR hR=>?_);obtain⟨vP,rfl,rfl,hpP⟩:=hP;refine ax (aP (ax (WK [0] (aS ?_))));exact⟨_,rfl,rfl,by simp[cL,fa,fj,aw hp1,bP hpP,h10,h25,h29,h39,h53, *]⟩;obtain⟨a2,r2,v2,rfl,rfl,hp2,ht2⟩:=hR;have hf2:=ht2 _ hf1;refine FA 177 bb aQ ?_;refine SS 1 aQ (aG _) (Nc _ rfl _) ?_;refine nx J20 (sr λ_ J21=>PS ?_);refine CP yl (jr rb v2 r2) ID (λ_ d _=>(hf2).more d) (λcP HP hP=>?_) (λvR HR hR=>?_);obtain⟨vP,rfl,rfl,hpP⟩:=hP;refine ax (aP (ax (WK [0] (aS ?_))));exact⟨_,rfl,rfl,by simp[cL,fa,fj,aw hp1,aw hp2,bP hpP,h10,h25,h29,h39,h53, *]⟩
 obtain⟨a3,r3,v3,rfl,rfl,hp3,ht3⟩:=hR;have hf3:=ht3 _ hf2;refine FA 178 bb cq ?_;refine SP 1 cq ao aG Nb ?_;refine nx J21 (ad (PS ?_));refine CP Hz (ox rb v3 r3) ID (λ_ d _=>(hf3).more d) (λcP HP hP=>?_) (λvR HR hR=>?_);obtain⟨vP,rfl,rfl,hpP⟩:=hP;refine aP (ax (WK [0] (aS ?_)));exact⟨_,rfl,rfl,by simp[cL,fa,fj,aw hp1,aw hp2,aw hp3,bP hpP,h10,h25,h29,h39,h53, *]⟩;obtain⟨a4,r4,v4,rfl,rfl,hp4,ht4⟩:=hR;have hf4:=ht4 _ hf3;refine FA 182 bb fB ?_;refine SP 1 fB aJ aG Na ?_;refine ap (af (ac J3 (sr λ_ J22=>LW 1 bb bW aG ?_)));refine SW 2 bW aG ?_;refine PS ?_;refine nx J22 (ai (RT 2 [0] bb bW (aG _) ?_));exact⟨((MsgT.mk a1 0 RowT.zero 0 a2 a3 BallotT.zero a4 ViewT.zero),true),_,_,rfl,rfl,by simp[cL,fa,fj,pr,aw hp1,aw hp2,aw hp3,aw hp4,h10,h25,h29,h39,h53,MsgT.zero,RecT.zero, *],(ht1.trans (ht2.trans (ht3.trans ht4)))⟩;refine PS ?_;refine nx J19 (CN (sr λ_ J23=>PS ?_));refine an ?_ ?_<;>intro h64;refine PS ?_;refine nx J23 (CY (sr λ_ J24=>PS ?_));refine CP Hy (qM rb v1 r1) (SM [1]) (λ_ d _=>(hf1).more d) (λcP HP hP=>?_) (λvR HR hR=>?_);obtain⟨vP,rfl,rfl,hpP⟩:=hP;refine ax (aP (ax (WK [0] (aS ?_))));exact⟨_,rfl,rfl,by simp[cL,fa,fj,aw hp1,bP hpP,h10,h25,h29,h39,h53,h64, *]⟩;obtain⟨a2,r2,v2,rfl,rfl,hp2,ht2⟩:=hR;have hf2:=ht2 _ hf1;refine FA 185 bb bc ?_;refine SP 1 bc am aG MsgT.wp_view ?_;refine nx J24 (ab λ_ J25=>D1 1 bh ?_)
 refine LY 0 bb bW aG ?_;refine FD 1 185 bb bc ?_;refine ta 2 rfl (aN (vs:=ints a2.flat) rfl eD rfl bc rfl (λ_ h=>h.2.1) (am a2) (uM (MsgT.mk a1 0 RowT.zero 0 0 BallotT.zero BallotT.zero ChangeT.zero a2) 0 rfl (by decide) (whole (am a2)))) ?_;refine AL 3 ?_;refine CE KV (mE a2 (rF hp2)) ID ?_;refine EN (AL 4 ?_);refine SW 2 bW aG ?_;refine EN (PD 5 ?_);refine DN (ac J25 (ai (aH (ae (RT 2 [0] bb bW (aG _) ?_)))));exact⟨((MsgT.mk a1 0 RowT.zero 0 0 BallotT.zero BallotT.zero ChangeT.zero a2),(ku a2)),_,_,rfl,rfl,by simp[cL,fa,fj,pr,aw hp1,aw hp2,h10,h25,h29,h39,h53,h64,MsgT.zero,RecT.zero, *],(ht1.trans ht2)⟩;refine PS ?_;refine nx J23 (CN (sr λ_ J26=>PS ?_));refine an ?_ ?_<;>intro h73;refine PS ?_;refine nx J26 (CY (sr λ_ J27=>PS ?_));refine CP jc (cK rb v1 r1 (5)) (SM [1]) (λ_ d _=>(hf1).more d) (λcP HP hP=>?_) (λvR HR hR=>?_);obtain⟨vP,rfl,rfl,hpP⟩:=hP;refine ax (aP (ax (WK [0] (aS ?_))));exact⟨_,rfl,rfl,by simp[cL,fa,fj,aw hp1,bP hpP,h10,h25,h29,h39,h53,h64,h73, *]⟩;obtain⟨a2,r2,v2,rfl,rfl,hp2,ht2⟩:=hR;have hf2:=ht2 _ hf1;refine FA 1 bb aQ ?_;refine SS 1 aQ (aG _) (MsgT.set_whose _ rfl _) ?_;refine nx J27 (sr λ_ J28=>PS ?_);refine CP Hy (qM rb v2 r2) ID (λ_ d _=>(hf2).more d) (λcP HP hP=>?_) (λvR HR hR=>?_);obtain⟨vP,rfl,rfl,hpP⟩:=hP;refine ax (aP (ax (WK [0] (aS ?_))))
 exact⟨_,rfl,rfl,by simp[cL,fa,fj,aw hp1,aw hp2,bP hpP,h10,h25,h29,h39,h53,h64,h73, *]⟩;obtain⟨a3,r3,v3,rfl,rfl,hp3,ht3⟩:=hR;have hf3:=ht3 _ hf2;refine FA 185 bb bc ?_;refine SP 1 bc am aG MsgT.wp_view ?_;refine nx J28 (ab λ_ J29=>D1 1 bh ?_);refine LY 0 bb bW aG ?_;refine FD 1 185 bb bc ?_;refine ta 2 rfl (aN (vs:=ints a3.flat) rfl eD rfl bc rfl (λ_ h=>h.2.1) (am a3) (uM (MsgT.mk a1 a2 RowT.zero 0 0 BallotT.zero BallotT.zero ChangeT.zero a3) 0 rfl (by decide) (whole (am a3)))) ?_;refine AL 3 ?_;refine CE KV (mE a3 (rF hp3)) ID ?_;refine EN (AL 4 ?_);refine SW 2 bW aG ?_;refine EN (PD 5 ?_);refine DN (ac J29 (ai (aH (ae (RT 2 [0] bb bW (aG _) ?_)))));exact⟨((MsgT.mk a1 a2 RowT.zero 0 0 BallotT.zero BallotT.zero ChangeT.zero a3),(ku a3)),_,_,rfl,rfl,by simp[cL,fa,fj,pr,aw hp1,aw hp2,aw hp3,h10,h25,h29,h39,h53,h64,h73,MsgT.zero,RecT.zero, *],(ht1.trans (ht2.trans ht3))⟩;refine PS ?_;refine nx J26 (CN (aR (af (ac J3 (sr λ_ J30=>LW 0 bb bW aG ?_)))));refine SW 2 bW aG ?_;refine PS ?_;refine nx J30 (ai (RT 2 [1] bb bW (aG _) ?_));exact⟨((MsgT.mk a1 0 RowT.zero 0 0 BallotT.zero BallotT.zero ChangeT.zero ViewT.zero),true),_,_,rfl,rfl,by simp[cL,pr,aw hp1,h10,h25,h29,h39,h53,h64,h73,MsgT.zero,RecT.zero, *],ht1⟩;refine sr λ_ J31=>P2 ?_
 refine an ?_ ?_<;>intro h29;refine nx J31 (CY (aR ?_))
 exact aF
  (aM (aM (aM (aM (aM (bg rfl (by simp[fj, *]) SB))))))
  (λ_ s=>s)
  (tl11 (():Unit) trivial)
 refine nx J31 (CN (ad (PS ?_)));refine an ?_ ?_<;>intro h31;refine PS ?_;refine ap ?_
 exact aF
  (aM (aM (aM (aM (aM (bg rfl (by simp[fj, *]) SB))))))
  (λ_ s=>s)
  (tl11 (():Unit) trivial)
 refine PS ?_;refine ap ?_
 exact aF
  (aM (aM (aM (aM (aM (bg rfl (by simp[fj, *]) SB))))))
  (λ_ s=>s)
  (tl11 (():Unit) trivial)
 refine sr λ_ J32=>P2 ?_
 refine an ?_ ?_<;>intro h10;refine nx J32 (CY (aR ?_))
 exact aF
  (aM (aM (aM (aM (aM (bg rfl (by simp[fa, *]) SB))))))
  (λ_ s=>s)
  (tl5 (():Unit) trivial)
 refine nx J32 (CN (sr λ_ J33=>P2 ?_));refine an ?_ ?_<;>intro h10;refine nx J33 (CY (aR ?_))
 exact aF
  (aM (aM (aM (aM (aM (bg rfl (by simp[fa, *]) SB))))))
  (λ_ s=>s)
  (tl5 (():Unit) trivial)
 refine nx J33 (CN (ad (PS ?_)));refine an ?_ ?_<;>intro h13;refine PS ?_;refine ap ?_
 exact aF
  (aM (aM (aM (aM (aM (bg rfl (by simp[fa, *]) SB))))))
  (λ_ s=>s)
  (tl5 (():Unit) trivial)
 refine PS ?_;refine ap ?_
 exact aF
  (aM (aM (aM (aM (aM (bg rfl (by simp[fa, *]) SB))))))
  (λ_ s=>s)
  (tl5 (():Unit) trivial)
theorem zm(rb:Nat)(v:Value)(bs:List UInt8):
 DT 83 #[(.pointer (some ⟨rb,0,none⟩))] (IsB v bs) [ah rb [v] 197] (nz 197 hZ (λmb:RecT×Bool=> .tuple #[.agg (ints mb.1.flat).toArray, .bool mb.2]) cZ v bs rb):=by
 refine BD 65 Tryz.func83 rfl rfl rfl λw0 F hF=>sr λ_ J1=>XZ Lq (ints RecT.zero.flat) λb2=>?_
 refine PS ?_;refine nx J1 (sr λ_ J2=>PS ?_);refine CP jc (cK rb v bs (6)) (SM [1]) (λ_ d _=>(hF).more d) (λcP HP hP=>?_) (λvR HR hR=>?_);obtain⟨vP,rfl,rfl,hpP⟩:=hP;refine ax (WK [0] (aS ?_));exact⟨_,rfl,rfl,by simp[cZ,fa,fj,bP hpP, *]⟩;obtain⟨a1,r1,v1,rfl,rfl,hp1,ht1⟩:=hR;have hf1:=ht1 _ hF;refine tp (kI RecT.zero (RecT.mk a1 0 RowT.zero 0 BallotT.zero ChangeT.zero ViewT.zero) [(0,[Value.int .i64 a1])] iv eF (g:=RecT.sg)) ?_;refine XZ Lq (ints RecT.zero.flat) λb4=>?_
 refine SW 0 iI bk ?_;refine nx J2 (ab λ_ J3=>sr λ_ J4=>FA 0 iv aQ ?_);refine LT 0 Y3 (.int .i64 (a1)) ?_ (hc:=by exact kh _ rfl);refine nx J4 (aq (sr λ_ J5=>PS ?_));refine an ?_ ?_<;>intro h11;refine PS ?_;refine nx J5 (CY (sr λ_ J6=>PS ?_));refine CP HA (tf rb v1 r1) (SM [1]) (λ_ d _=>(hf1).more d) (λcP HP hP=>?_) (λvR HR hR=>?_);obtain⟨vP,rfl,rfl,hpP⟩:=hP;refine ax (aP (ax (WK [0] (aS ?_))));exact⟨_,rfl,rfl,by simp[cZ,fa,fj,aw hp1,bP hpP,h11, *]⟩;obtain⟨a2,r2,v2,rfl,rfl,hp2,ht2⟩:=hR;have hf2:=ht2 _ hf1;refine FA 2 iv aZ ?_;refine SP 1 aZ ag bk RecT.wp_row ?_;refine nx J6 (ab λ_ J7=>D1 1 bh ?_);refine LY 0 iv iI bk ?_;refine FD 1 2 iv aZ ?_;refine ta 2 rfl (aN (vs:=ints a2.flat) rfl dD rfl aZ rfl (λ_ h=>h.2.1) (ag a2) (rk (RecT.mk a1 0 a2 0 BallotT.zero ChangeT.zero ViewT.zero) 0 rfl (by decide) (whole (ag a2)))) ?_;refine AL 3 ?_;refine CE Bj (fW a2 (zi hp2)) ID ?_;refine EN (AL 4 ?_);refine SW 2 iI bk ?_;refine EN (PD 5 ?_);refine DN (ac J7 (ai (aH (ae (RT 2 [0] iv iI (bk _) ?_)))));exact⟨((RecT.mk a1 0 a2 0 BallotT.zero ChangeT.zero ViewT.zero),(fL a2)),_,_,rfl,rfl,by simp[cZ,fa,fj,pr,aw hp1,aw hp2,h11,MsgT.zero,RecT.zero, *],(ht1.trans ht2)⟩;refine PS ?_;refine nx J5 (CN (sr λ_ J8=>PS ?_));refine an ?_ ?_<;>intro h20;refine PS ?_;refine nx J8 (CY (sr λ_ J9=>PS ?_))
 refine CP jc (cK rb v1 r1 (5)) (SM [1]) (λ_ d _=>(hf1).more d) (λcP HP hP=>?_) (λvR HR hR=>?_);obtain⟨vP,rfl,rfl,hpP⟩:=hP;refine ax (aP (ax (WK [0] (aS ?_))));exact⟨_,rfl,rfl,by simp[cZ,fa,fj,aw hp1,bP hpP,h11,h20, *]⟩;obtain⟨a2,r2,v2,rfl,rfl,hp2,ht2⟩:=hR;have hf2:=ht2 _ hf1;refine FA 1 iv aQ ?_;refine SS 1 aQ (bk _) (RecT.set_whose _ rfl _) ?_;refine nx J9 (sr λ_ J10=>PS ?_);refine CP HA (tf rb v2 r2) ID (λ_ d _=>(hf2).more d) (λcP HP hP=>?_) (λvR HR hR=>?_);obtain⟨vP,rfl,rfl,hpP⟩:=hP;refine ax (aP (ax (WK [0] (aS ?_))));exact⟨_,rfl,rfl,by simp[cZ,fa,fj,aw hp1,aw hp2,bP hpP,h11,h20, *]⟩;obtain⟨a3,r3,v3,rfl,rfl,hp3,ht3⟩:=hR;have hf3:=ht3 _ hf2;refine FA 2 iv aZ ?_;refine SP 1 aZ ag bk RecT.wp_row ?_;refine nx J10 (ab λ_ J11=>D1 1 bh ?_);refine LY 0 iv iI bk ?_;refine FD 1 2 iv aZ ?_;refine ta 2 rfl (aN (vs:=ints a3.flat) rfl dD rfl aZ rfl (λ_ h=>h.2.1) (ag a3) (rk (RecT.mk a1 a2 a3 0 BallotT.zero ChangeT.zero ViewT.zero) 0 rfl (by decide) (whole (ag a3)))) ?_;refine AL 3 ?_;refine CE Bj (fW a3 (zi hp3)) ID ?_;refine EN (AL 4 ?_);refine SW 2 iI bk ?_;refine EN (PD 5 ?_);refine DN (ac J11 (ai (aH (ae (RT 2 [0] iv iI (bk _) ?_)))));exact⟨((RecT.mk a1 a2 a3 0 BallotT.zero ChangeT.zero ViewT.zero),(fL a3)),_,_,rfl,rfl,by simp[cZ,fa,fj,pr,aw hp1,aw hp2,aw hp3,h11,h20,MsgT.zero,RecT.zero, *],(ht1.trans (ht2.trans ht3))⟩;refine PS ?_
 refine nx J8 (CN (sr λ_ J12=>PS ?_));refine an ?_ ?_<;>intro h32;refine PS ?_;refine nx J12 (CY (ad (PS ?_)));refine CP jc (cK rb v1 r1 (5)) (SM [1]) (λ_ d _=>(hf1).more d) (λcP HP hP=>?_) (λvR HR hR=>?_);obtain⟨vP,rfl,rfl,hpP⟩:=hP;refine aP (ax (WK [0] (aS ?_)));exact⟨_,rfl,rfl,by simp[cZ,fa,fj,aw hp1,bP hpP,h11,h20,h32, *]⟩;obtain⟨a2,r2,v2,rfl,rfl,hp2,ht2⟩:=hR;have hf2:=ht2 _ hf1;refine FA 1 iv aQ ?_;refine SS 1 aQ (bk _) (RecT.set_whose _ rfl _) ?_;refine ap (af (ac J3 (sr λ_ J13=>LW 1 iv iI bk ?_)));refine SW 2 iI bk ?_;refine PS ?_;refine nx J13 (ai (RT 2 [0] iv iI (bk _) ?_));exact⟨((RecT.mk a1 a2 RowT.zero 0 BallotT.zero ChangeT.zero ViewT.zero),true),_,_,rfl,rfl,by simp[cZ,fa,fj,pr,aw hp1,aw hp2,h11,h20,h32,MsgT.zero,RecT.zero, *],(ht1.trans ht2)⟩;refine PS ?_;refine nx J12 (CN (sr λ_ J14=>PS ?_));refine an ?_ ?_<;>intro h37;refine PS ?_;refine nx J14 (CY (sr λ_ J15=>PS ?_));refine CP pJ (ja rb v1 r1) (SM [1]) (λ_ d _=>(hf1).more d) (λcP HP hP=>?_) (λvR HR hR=>?_);obtain⟨vP,rfl,rfl,hpP⟩:=hP;refine ax (aP (ax (WK [0] (aS ?_))));exact⟨_,rfl,rfl,by simp[cZ,fa,fj,aw hp1,bP hpP,h11,h20,h32,h37, *]⟩;obtain⟨a2,r2,v2,rfl,rfl,hp2,ht2⟩:=hR;have hf2:=ht2 _ hf1;refine FA 176 iv aQ ?_;refine SS 1 aQ (bk _) (RecT.set_epoch _ rfl _) ?_;refine nx J15 (ad (PS ?_))
 refine CP yl (jr rb v2 r2) ID (λ_ d _=>(hf2).more d) (λcP HP hP=>?_) (λvR HR hR=>?_);obtain⟨vP,rfl,rfl,hpP⟩:=hP;refine aP (ax (WK [0] (aS ?_)));exact⟨_,rfl,rfl,by simp[cZ,fa,fj,aw hp1,aw hp2,bP hpP,h11,h20,h32,h37, *]⟩;obtain⟨a3,r3,v3,rfl,rfl,hp3,ht3⟩:=hR;have hf3:=ht3 _ hf2;refine FA 177 iv cq ?_;refine SP 1 cq ao bk RecT.wp_ballot ?_;refine ap (af (ac J3 (sr λ_ J16=>LW 1 iv iI bk ?_)));refine SW 2 iI bk ?_;refine PS ?_;refine nx J16 (ai (RT 2 [0] iv iI (bk _) ?_));exact⟨((RecT.mk a1 0 RowT.zero a2 a3 ChangeT.zero ViewT.zero),true),_,_,rfl,rfl,by simp[cZ,fa,fj,pr,aw hp1,aw hp2,aw hp3,h11,h20,h32,h37,MsgT.zero,RecT.zero, *],(ht1.trans (ht2.trans ht3))⟩;refine PS ?_;refine nx J14 (CN (sr λ_ J17=>PS ?_));refine an ?_ ?_<;>intro h45;refine PS ?_;refine nx J17 (CY (sr λ_ J18=>PS ?_));refine CP pJ (ja rb v1 r1) (SM [1]) (λ_ d _=>(hf1).more d) (λcP HP hP=>?_) (λvR HR hR=>?_);obtain⟨vP,rfl,rfl,hpP⟩:=hP;refine ax (aP (ax (WK [0] (aS ?_))));exact⟨_,rfl,rfl,by simp[cZ,fa,fj,aw hp1,bP hpP,h11,h20,h32,h37,h45, *]⟩;obtain⟨a2,r2,v2,rfl,rfl,hp2,ht2⟩:=hR;have hf2:=ht2 _ hf1;refine FA 176 iv aQ ?_;refine SS 1 aQ (bk _) (RecT.set_epoch _ rfl _) ?_;refine nx J18 (sr λ_ J19=>PS ?_);refine CP yl (jr rb v2 r2) ID (λ_ d _=>(hf2).more d) (λcP HP hP=>?_) (λvR HR hR=>?_);obtain⟨vP,rfl,rfl,hpP⟩:=hP;refine ax (aP (ax (WK [0] (aS ?_))))
 exact⟨_,rfl,rfl,by simp[cZ,fa,fj,aw hp1,aw hp2,bP hpP,h11,h20,h32,h37,h45, *]⟩;obtain⟨a3,r3,v3,rfl,rfl,hp3,ht3⟩:=hR;have hf3:=ht3 _ hf2;refine FA 177 iv cq ?_;refine SP 1 cq ao bk RecT.wp_ballot ?_;refine nx J19 (ad (PS ?_));refine CP Hz (ox rb v3 r3) ID (λ_ d _=>(hf3).more d) (λcP HP hP=>?_) (λvR HR hR=>?_);obtain⟨vP,rfl,rfl,hpP⟩:=hP;refine aP (ax (WK [0] (aS ?_)));exact⟨_,rfl,rfl,by simp[cZ,fa,fj,aw hp1,aw hp2,aw hp3,bP hpP,h11,h20,h32,h37,h45, *]⟩;obtain⟨a4,r4,v4,rfl,rfl,hp4,ht4⟩:=hR;have hf4:=ht4 _ hf3;refine FA 179 iv fB ?_;refine SP 1 fB aJ bk RecT.wp_change ?_;refine ap (af (ac J3 (sr λ_ J20=>LW 1 iv iI bk ?_)));refine SW 2 iI bk ?_;refine PS ?_;refine nx J20 (ai (RT 2 [0] iv iI (bk _) ?_));exact⟨((RecT.mk a1 0 RowT.zero a2 a3 a4 ViewT.zero),true),_,_,rfl,rfl,by simp[cZ,fa,fj,pr,aw hp1,aw hp2,aw hp3,aw hp4,h11,h20,h32,h37,h45,MsgT.zero,RecT.zero, *],(ht1.trans (ht2.trans (ht3.trans ht4)))⟩;refine PS ?_;refine nx J17 (CN (sr λ_ J21=>PS ?_));refine an ?_ ?_<;>intro h56;refine PS ?_;refine nx J21 (CY (sr λ_ J22=>PS ?_));refine CP Hy (qM rb v1 r1) (SM [1]) (λ_ d _=>(hf1).more d) (λcP HP hP=>?_) (λvR HR hR=>?_);obtain⟨vP,rfl,rfl,hpP⟩:=hP;refine ax (aP (ax (WK [0] (aS ?_))));exact⟨_,rfl,rfl,by simp[cZ,fa,fj,aw hp1,bP hpP,h11,h20,h32,h37,h45,h56, *]⟩;obtain⟨a2,r2,v2,rfl,rfl,hp2,ht2⟩:=hR;have hf2:=ht2 _ hf1
 refine FA 182 iv bc ?_;refine SP 1 bc am bk RecT.wp_view ?_;refine nx J22 (ab λ_ J23=>D1 1 bh ?_);refine LY 0 iv iI bk ?_;refine FD 1 182 iv bc ?_;refine ta 2 rfl (aN (vs:=ints a2.flat) rfl eD rfl bc rfl (λ_ h=>h.2.1) (am a2) (Oq (RecT.mk a1 0 RowT.zero 0 BallotT.zero ChangeT.zero a2) 0 rfl (by decide) (whole (am a2)))) ?_;refine AL 3 ?_;refine CE KV (mE a2 (rF hp2)) ID ?_;refine EN (AL 4 ?_);refine SW 2 iI bk ?_;refine EN (PD 5 ?_);refine DN (ac J23 (ai (aH (ae (RT 2 [0] iv iI (bk _) ?_)))));exact⟨((RecT.mk a1 0 RowT.zero 0 BallotT.zero ChangeT.zero a2),(ku a2)),_,_,rfl,rfl,by simp[cZ,fa,fj,pr,aw hp1,aw hp2,h11,h20,h32,h37,h45,h56,MsgT.zero,RecT.zero, *],(ht1.trans ht2)⟩;refine PS ?_;refine nx J21 (CN (aR (af (ac J3 (sr λ_ J24=>LW 0 iv iI bk ?_)))));refine SW 2 iI bk ?_;refine PS ?_;refine nx J24 (ai (RT 2 [1] iv iI (bk _) ?_));exact⟨((RecT.mk a1 0 RowT.zero 0 BallotT.zero ChangeT.zero ViewT.zero),true),_,_,rfl,rfl,by simp[cZ,fa,fj,pr,aw hp1,h11,h20,h32,h37,h45,h56,MsgT.zero,RecT.zero, *],ht1⟩
theorem Dl(rb mb gb:Nat)(v:Value)(bs:List UInt8)(m0:MsgT)(g0:Bool):
 DT 141 #[(.pointer (some ⟨rb,0,none⟩)),(.pointer (some ⟨mb,0,none⟩)),(.pointer (some ⟨gb,0,none⟩))] (IsB v bs) [ah rb [v] 197,ah mb (ints m0.flat) 178,ah gb [(.bool (g0))] 4] (uI (λ_ H=>∃x' r a,H=ah rb [x'] 197::[ah mb (ints a.1.flat) 178,ah gb [.bool a.2] 4]∧Tail v bs x' r∧cL bs=some (a,r)) (λc H=>c=hZ∧∃(x':Value) (_:Unit),H=ah rb [x'] 197::[ah mb (ints m0.flat) 178,ah gb [.bool g0] 4]∧cL bs=none)):=by
 refine BD 9 Tryz.func141 rfl rfl rfl λw0 F hF=>ad (PS ?_)
 refine CP MC (zn rb v bs) ID (λ_ d _=>(hF).more d) (λcP HP hP=>?_) (λvR HR hR=>?_);obtain⟨vP,rfl,rfl,hpP⟩:=hP;exact WK [0,0,0] (aS ⟨rfl,_,(),rfl,hpP⟩);obtain⟨a1,r1,v1,rfl,rfl,hp1,ht1⟩:=hR;refine P3 ?_;refine SW 1 bW aG ?_;refine S0 2 kM ?_;exact ap (WK [0,0,0] (bA rfl ⟨_,_,_,rfl,ht1,hp1⟩))
theorem BZ(x:Value)(bs:List UInt8):
 DT 104 #[x] (IsB x bs) [] (RI (.tuple #[.agg (ints (jF bs).1.flat).toArray, .int .i64 (jF bs).2]) []):=by
 refine Leg.Does.body (vs:=[x]) (n:=18) Tryz.func104 rfl rfl rfl (λw0 F hF=>?_);refine sr λ_ J1=>?_
 refine lG (aa rfl) rfl rfl rfl l9 (λb2=>?_);change TL _ _ _ _ _ _ _ _ _ [ah b2 (ints MsgT.zero.flat) 178];refine pa ?_;refine nx J1 ?_;clear J1;refine sr λ_ J2=>?_
 refine lG (aa rfl) rfl rfl rfl l9 (λb4=>?_);change TL _ _ _ _ _ _ _ _ _ [ah b4 (ints MsgT.zero.flat) 178,ah b2 (ints MsgT.zero.flat) 178];refine nx J2 ?_;clear J2;refine sr λ_ J3=>?_
 refine lG (aa rfl) rfl rfl rfl z4 (λb5=>?_);refine bD (i:=0) (aa rfl) rfl rfl rfl rfl rfl kM rfl rfl (lb rfl) rfl rfl ?_;refine nx J3 ?_;clear J3;refine sr λ_ J4=>?_
 refine mv ?_;refine tp (OA rfl rfl) ?_;refine gV (aa rfl) rfl rfl rfl L2 rfl (ye (bs:=bs) (C:=[ah b4 (ints MsgT.zero.flat) 178,ah b5 [(.bool false)] 4]) (caps:=[(.pointer (some ⟨b4,0,none⟩)),(.pointer (some ⟨b5,0,none⟩))]) (A:=λa:MsgT×Bool=>[ah b4 (ints a.1.flat) 178,ah b5 [.bool a.2] 4]) (G:=λ_:Unit=>[ah b4 (ints MsgT.zero.flat) 178,ah b5 [(.bool false)] 4]) (φ:=λa r=>cL bs=some (a,r)) (ψ:=λ_=>cL bs=none) (λ_ h=>h) (λ_ _ h d=>h.more d) MD (λrb=>Dl rb b4 b5 x bs MsgT.zero false)) (λ_ s=>aC [1,0] rfl s) (λ_ d _=>(hF).more d) (λvR HR hR=>?_);rcases hR with⟨r,⟨m,g⟩,rfl,rfl,hs⟩| ⟨_,rfl,rfl,hs⟩
 refine an (λh9=>?_) (λh9=>?_);refine pa ?_;refine nx J4 ?_;clear J4;refine ab λ_ J5=>?_
 refine sr λ_ J6=>?_
 refine mv ?_;refine tp (n9 (r:=false) rfl rfl rfl) ?_;refine mv ?_;refine tq (fc (v:=(.bool (g))) rfl Y4 rfl rfl (dN 1 rfl rfl) rfl) ?_;refine aX (λh13=>?_) (λh13=>?_);refine tq (n9 (r:=false) rfl rfl rfl) ?_;refine tp (lY rfl rfl rfl) ?_;refine nx J6 ?_;clear J6;refine sO rfl ?_;refine aR ?_;refine ac J5 ?_;clear J5;refine sr λ_ J7=>?_
 refine tp (aN (vs:=ints m.flat) rfl bb rfl bW rfl (dN 0 rfl rfl) (aG m) (whole (aG m))) ?_;refine bJ (vs:=ints m.flat) (i:=2) (aa rfl) rfl rfl rfl rfl rfl (by rw[(aG m)];exact bW) (bw _) rfl rfl (by have h0:=(aG MsgT.zero);have h1:=(aG m);omega) (cn ((aG MsgT.zero).trans (aG m).symm)) rfl ?_;refine pa ?_;refine nx J7 ?_;clear J7;refine ai ?_;refine lH (H':=[]) rfl rfl rfl bb rfl bW (dN 2 rfl rfl) (aG m) (λ_ s=>ak [] rfl s) ?_;exact⟨by simp[jF, *],rfl⟩;refine tq (n9 (r:=true) rfl rfl rfl) ?_;refine tp (lY rfl rfl rfl) ?_;refine nx J6 ?_;clear J6;refine iO rfl ?_;refine sr λ_ J8=>?_
 refine tp (jR (cells:=(ints MsgT.zero.flat).toArray) rfl rfl (by as_aux_lemma=>kernel_rfl)) ?_;refine bJ (vs:=ints MsgT.zero.flat) (i:=2) (aa rfl) rfl rfl rfl rfl rfl (by rw[(aG MsgT.zero)];exact bW) (bw _) rfl rfl (by have h0:=(aG MsgT.zero);have h1:=(aG MsgT.zero);omega) (cn ((aG MsgT.zero).trans (aG MsgT.zero).symm)) rfl ?_;refine pa ?_;refine nx J8 ?_;clear J8;refine ai ?_;refine ae ?_;clear J5;refine lH (H':=[]) rfl rfl rfl bb rfl bW (dN 2 rfl rfl) (aG MsgT.zero) (λ_ s=>ak [] rfl s) ?_;exact⟨by simp[jF, *],rfl⟩;refine pa ?_;refine nx J4 ?_;clear J4;refine ab λ_ J9=>?_
 refine sr λ_ J10=>?_
 refine mv ?_;refine tp (n9 (r:=true) rfl rfl rfl) ?_;refine mv ?_;refine kH (b:=true) rfl rfl rfl rfl (lb rfl) ?_;refine kH (b:=true) rfl rfl rfl rfl (lb rfl) ?_;refine tp (lY rfl rfl rfl) ?_;refine nx J10 ?_;clear J10;refine iO rfl ?_;refine sr λ_ J11=>?_
 refine tp (jR (cells:=(ints MsgT.zero.flat).toArray) rfl rfl (by as_aux_lemma=>kernel_rfl)) ?_;refine bJ (vs:=ints MsgT.zero.flat) (i:=2) (aa rfl) rfl rfl rfl rfl rfl (by rw[(aG MsgT.zero)];exact bW) (bw _) rfl rfl (by have h0:=(aG MsgT.zero);have h1:=(aG MsgT.zero);omega) (cn ((aG MsgT.zero).trans (aG MsgT.zero).symm)) rfl ?_;refine pa ?_;refine nx J11 ?_;clear J11;refine ai ?_;refine ae ?_;clear J9;refine lH (H':=[]) rfl rfl rfl bb rfl bW (dN 2 rfl rfl) (aG MsgT.zero) (λ_ s=>ak [] rfl s) ?_;exact⟨by simp[jF, *],rfl⟩;refine pa ?_;refine nx J4 ?_;clear J4;refine ab λ_ J12=>?_
 refine sr λ_ J13=>?_
 refine mv ?_;refine tp (n9 (r:=true) rfl rfl rfl) ?_;refine mv ?_;refine kH (b:=true) rfl rfl rfl rfl (lb rfl) ?_;refine kH (b:=true) rfl rfl rfl rfl (lb rfl) ?_;refine tp (lY rfl rfl rfl) ?_;refine nx J13 ?_;clear J13;refine iO rfl ?_;refine sr λ_ J14=>?_
 refine tp (jR (cells:=(ints MsgT.zero.flat).toArray) rfl rfl (by as_aux_lemma=>kernel_rfl)) ?_;refine bJ (vs:=ints MsgT.zero.flat) (i:=2) (aa rfl) rfl rfl rfl rfl rfl (by rw[(aG MsgT.zero)];exact bW) (bw _) rfl rfl (by have h0:=(aG MsgT.zero);have h1:=(aG MsgT.zero);omega) (cn ((aG MsgT.zero).trans (aG MsgT.zero).symm)) rfl ?_;refine pa ?_;refine nx J14 ?_;clear J14;refine ai ?_;refine ae ?_;clear J12;refine lH (H':=[]) rfl rfl rfl bb rfl bW (dN 2 rfl rfl) (aG MsgT.zero) (λ_ s=>ak [] rfl s) ?_;exact⟨by simp[jF, *],rfl⟩
theorem FH(rb mb gb:Nat)(v:Value)(bs:List UInt8)(m0:RecT)(g0:Bool):
 DT 82 #[(.pointer (some ⟨rb,0,none⟩)),(.pointer (some ⟨mb,0,none⟩)),(.pointer (some ⟨gb,0,none⟩))] (IsB v bs) [ah rb [v] 197,ah mb (ints m0.flat) 90,ah gb [(.bool (g0))] 4] (uI (λ_ H=>∃x' r a,H=ah rb [x'] 197::[ah mb (ints a.1.flat) 90,ah gb [.bool a.2] 4]∧Tail v bs x' r∧cZ bs=some (a,r)) (λc H=>c=hZ∧∃(x':Value) (_:Unit),H=ah rb [x'] 197::[ah mb (ints m0.flat) 90,ah gb [.bool g0] 4]∧cZ bs=none)):=by
 refine BD 9 Tryz.func82 rfl rfl rfl λw0 F hF=>ad (PS ?_)
 refine CP NQ (zm rb v bs) ID (λ_ d _=>(hF).more d) (λcP HP hP=>?_) (λvR HR hR=>?_);obtain⟨vP,rfl,rfl,hpP⟩:=hP;exact WK [0,0,0] (aS ⟨rfl,_,(),rfl,hpP⟩);obtain⟨a1,r1,v1,rfl,rfl,hp1,ht1⟩:=hR;refine P3 ?_;refine SW 1 iI bk ?_;refine S0 2 kM ?_;exact ap (WK [0,0,0] (bA rfl ⟨_,_,_,rfl,ht1,hp1⟩))
theorem oP(x:Value)(bs:List UInt8):
 DT 49 #[x] (IsB x bs) [] (RI (.tuple #[.agg (ints (mn bs).1.flat).toArray, .int .i64 (mn bs).2]) []):=by
 refine Leg.Does.body (vs:=[x]) (n:=18) Tryz.func49 rfl rfl rfl (λw0 F hF=>?_);refine sr λ_ J1=>?_
 refine lG (aa rfl) rfl rfl rfl Lq (λb2=>?_);change TL _ _ _ _ _ _ _ _ _ [ah b2 (ints RecT.zero.flat) 90];refine pa ?_;refine nx J1 ?_;clear J1;refine sr λ_ J2=>?_
 refine lG (aa rfl) rfl rfl rfl Lq (λb4=>?_);change TL _ _ _ _ _ _ _ _ _ [ah b4 (ints RecT.zero.flat) 90,ah b2 (ints RecT.zero.flat) 90];refine nx J2 ?_;clear J2;refine sr λ_ J3=>?_
 refine lG (aa rfl) rfl rfl rfl z4 (λb5=>?_);refine bD (i:=0) (aa rfl) rfl rfl rfl rfl rfl kM rfl rfl (lb rfl) rfl rfl ?_;refine nx J3 ?_;clear J3;refine sr λ_ J4=>?_
 refine mv ?_;refine tp (OA rfl rfl) ?_;refine gV (aa rfl) rfl rfl rfl L2 rfl (ye (bs:=bs) (C:=[ah b4 (ints RecT.zero.flat) 90,ah b5 [(.bool false)] 4]) (caps:=[(.pointer (some ⟨b4,0,none⟩)),(.pointer (some ⟨b5,0,none⟩))]) (A:=λa:RecT×Bool=>[ah b4 (ints a.1.flat) 90,ah b5 [.bool a.2] 4]) (G:=λ_:Unit=>[ah b4 (ints RecT.zero.flat) 90,ah b5 [(.bool false)] 4]) (φ:=λa r=>cZ bs=some (a,r)) (ψ:=λ_=>cZ bs=none) (λ_ h=>h) (λ_ _ h d=>h.more d) NR (λrb=>FH rb b4 b5 x bs RecT.zero false)) (λ_ s=>aC [1,0] rfl s) (λ_ d _=>(hF).more d) (λvR HR hR=>?_);rcases hR with⟨r,⟨m,g⟩,rfl,rfl,hs⟩| ⟨_,rfl,rfl,hs⟩
 refine an (λh9=>?_) (λh9=>?_);refine pa ?_;refine nx J4 ?_;clear J4;refine ab λ_ J5=>?_
 refine sr λ_ J6=>?_
 refine mv ?_;refine tp (n9 (r:=false) rfl rfl rfl) ?_;refine mv ?_;refine tq (fc (v:=(.bool (g))) rfl Y4 rfl rfl (dN 1 rfl rfl) rfl) ?_;refine aX (λh13=>?_) (λh13=>?_);refine tq (n9 (r:=false) rfl rfl rfl) ?_;refine tp (lY rfl rfl rfl) ?_;refine nx J6 ?_;clear J6;refine sO rfl ?_;refine aR ?_;refine ac J5 ?_;clear J5;refine sr λ_ J7=>?_
 refine tp (aN (vs:=ints m.flat) rfl iv rfl iI rfl (dN 0 rfl rfl) (bk m) (whole (bk m))) ?_;refine bJ (vs:=ints m.flat) (i:=2) (aa rfl) rfl rfl rfl rfl rfl (by rw[(bk m)];exact iI) (bw _) rfl rfl (by have h0:=(bk RecT.zero);have h1:=(bk m);omega) (cn ((bk RecT.zero).trans (bk m).symm)) rfl ?_;refine pa ?_;refine nx J7 ?_;clear J7;refine ai ?_;refine lH (H':=[]) rfl rfl rfl iv rfl iI (dN 2 rfl rfl) (bk m) (λ_ s=>ak [] rfl s) ?_;exact⟨by simp[mn, *],rfl⟩;refine tq (n9 (r:=true) rfl rfl rfl) ?_;refine tp (lY rfl rfl rfl) ?_;refine nx J6 ?_;clear J6;refine iO rfl ?_;refine sr λ_ J8=>?_
 refine tp (jR (cells:=(ints RecT.zero.flat).toArray) rfl rfl (by as_aux_lemma=>kernel_rfl)) ?_;refine bJ (vs:=ints RecT.zero.flat) (i:=2) (aa rfl) rfl rfl rfl rfl rfl (by rw[(bk RecT.zero)];exact iI) (bw _) rfl rfl (by have h0:=(bk RecT.zero);have h1:=(bk RecT.zero);omega) (cn ((bk RecT.zero).trans (bk RecT.zero).symm)) rfl ?_;refine pa ?_;refine nx J8 ?_;clear J8;refine ai ?_;refine ae ?_;clear J5;refine lH (H':=[]) rfl rfl rfl iv rfl iI (dN 2 rfl rfl) (bk RecT.zero) (λ_ s=>ak [] rfl s) ?_;exact⟨by simp[mn, *],rfl⟩;refine pa ?_;refine nx J4 ?_;clear J4;refine ab λ_ J9=>?_
 refine sr λ_ J10=>?_
 refine mv ?_;refine tp (n9 (r:=true) rfl rfl rfl) ?_;refine mv ?_;refine kH (b:=true) rfl rfl rfl rfl (lb rfl) ?_;refine kH (b:=true) rfl rfl rfl rfl (lb rfl) ?_;refine tp (lY rfl rfl rfl) ?_;refine nx J10 ?_;clear J10;refine iO rfl ?_;refine sr λ_ J11=>?_
 refine tp (jR (cells:=(ints RecT.zero.flat).toArray) rfl rfl (by as_aux_lemma=>kernel_rfl)) ?_;refine bJ (vs:=ints RecT.zero.flat) (i:=2) (aa rfl) rfl rfl rfl rfl rfl (by rw[(bk RecT.zero)];exact iI) (bw _) rfl rfl (by have h0:=(bk RecT.zero);have h1:=(bk RecT.zero);omega) (cn ((bk RecT.zero).trans (bk RecT.zero).symm)) rfl ?_;refine pa ?_;refine nx J11 ?_;clear J11;refine ai ?_;refine ae ?_;clear J9;refine lH (H':=[]) rfl rfl rfl iv rfl iI (dN 2 rfl rfl) (bk RecT.zero) (λ_ s=>ak [] rfl s) ?_;exact⟨by simp[mn, *],rfl⟩;refine pa ?_;refine nx J4 ?_;clear J4;refine ab λ_ J12=>?_
 refine sr λ_ J13=>?_
 refine mv ?_;refine tp (n9 (r:=true) rfl rfl rfl) ?_;refine mv ?_;refine kH (b:=true) rfl rfl rfl rfl (lb rfl) ?_;refine kH (b:=true) rfl rfl rfl rfl (lb rfl) ?_;refine tp (lY rfl rfl rfl) ?_;refine nx J13 ?_;clear J13;refine iO rfl ?_;refine sr λ_ J14=>?_
 refine tp (jR (cells:=(ints RecT.zero.flat).toArray) rfl rfl (by as_aux_lemma=>kernel_rfl)) ?_;refine bJ (vs:=ints RecT.zero.flat) (i:=2) (aa rfl) rfl rfl rfl rfl rfl (by rw[(bk RecT.zero)];exact iI) (bw _) rfl rfl (by have h0:=(bk RecT.zero);have h1:=(bk RecT.zero);omega) (cn ((bk RecT.zero).trans (bk RecT.zero).symm)) rfl ?_;refine pa ?_;refine nx J14 ?_;clear J14;refine ai ?_;refine ae ?_;clear J12;refine lH (H':=[]) rfl rfl rfl iv rfl iI (dN 2 rfl rfl) (bk RecT.zero) (λ_ s=>ak [] rfl s) ?_;exact⟨by simp[mn, *],rfl⟩
end Go.Proofs.YtjblgopghhgflaaGreat
end

section
namespace Leg
open Go Codec Api
def WX(P:Program)(ops:Array Oper)(Q:QQ)(is:List Nat)(a:Act)(w:World):Prop:=
 ∀(b:Frame) (k:List Item) (cs:List Frame),∃e a' w',Q e a' w'∧Arrives P (lone (b.at a (.inRegion ops is::k)) cs w) b k cs e a' w'
theorem WX.nil{P:Program}{ops:Array Oper}{Q:QQ}{a:Act}{w:World}(h:Q .normal a w):WX P ops Q [] a w:=
 λ_ _ _=>⟨.normal,a,w,h, .one step_region_end⟩
theorem WX.region{P:Program}{id:Nat}{ops:Array Oper}{Q:QQ}{a:Act}{w:World}(h:WX P ops Q (List.range ops.size) a w):(Code.region id ops false).wp P Q a w:=
 λb k cs=>let ⟨e,a',w',q,r⟩:=h b k cs;⟨e,a',w',q, .of_steps (.one step_region) r⟩
section
variable {P:Program} {ops:Array Oper} {Q:QQ} {is:List Nat} {a:Act} {w:World} {i:Nat} {o:Oper}
theorem EZ(b:Frame)(k:List Item)(ho:ops[i]?=some o)(a:Act)(v:Value):(b.at a (.inRegion ops (i::is)::k)).finish v=b.at (a.put o.dst v) (.inRegion ops is::k):=by rw[Frame.finish_at,ho];rfl
theorem WX.value{v:Value}{w1:World}(ho:ops[i]?=some o)(hw:Region.wanted o (yielded ops a.tmps)=true)(hr:(execOp a.eval o).run P w= .ok (.value v) w1)(h:WX P ops Q is (a.put o.dst v) w1):WX P ops Q (i::is) a w:=λb k cs=>by
 obtain⟨e,a',w',q,r⟩:=h b k cs;refine⟨e,a',w',q, .of_steps (.one (step_lone_go ?_)) r⟩;rw[stepG_op ho hw,←EZ b k ho];simp[stepG.apply,hr]
theorem WX.comm{v:Value}{w1 w2:World}{cases:Array CommCase}{blocking:Bool}{shape:CommShape}(ho:ops[i]?=some o)(hw:Region.wanted o (yielded ops a.tmps)=true)(hr:(execOp a.eval o).run P w= .ok (.comm cases blocking shape) w1)
 (hs: ∀fr cs es,stepG P true (Conc.G fr cs) w= .comm (Conc.G fr cs) cases blocking shape w1 es→step P (Conc.solo (Conc.G fr cs) w)= .next (Conc.solo (Conc.G (fr.finish v) cs) w2)) (h:WX P ops Q is (a.put o.dst v) w2):WX P ops Q (i::is) a w:=λb k cs=>by
 obtain⟨e,a',w',q,r⟩:=h b k cs;have h1:=stepG_op (P:=P) (b:=b) (k:=k) (cs:=cs) (w:=w) (rest:=is) ho hw
 have h2: ∃es,stepG P true (Conc.G (b.at a (.inRegion ops (i::is)::k)) cs) w= .comm (Conc.G (b.at a (.inRegion ops (i::is)::k)) cs) cases blocking shape w1 es:=by
  unfold Conc.G;rw[h1];simp only[stepG.apply,Sem.runT_eq,hr];exact⟨_,rfl⟩
 obtain⟨es,h2⟩:=h2;have h3:=hs _ _ _ h2;rw[EZ b k ho]at h3;exact⟨e,a',w',q, .of_steps (.one h3) r⟩
abbrev Ls:= @WX.comm
end
end Leg
namespace Leg
open Go Codec Api
section
variable (P:Program) (w0:World) (F:Hl) (n:Nat)
def TX(ops:Array Oper)(Q:QQ)(is:List Nat)(D:List Deferred)(L:List (Nat×Value))(H:List HP):Prop:=∀a w,Fr n D L a→Same w0 w→Sat H F w→WX P ops Q is a w
end
section
variable {P:Program} {w0:World} {F:Hl} {n:Nat} {ops:Array Oper} {Q:QQ} {is:List Nat} {D:List Deferred} {L:List (Nat×Value)} {H:List HP} {i d:Nat} {o:Oper}
theorem TC.regionX{id:Nat}{l:List Oper}(h:TX P w0 F n l.toArray Q (List.range l.length) D L H):TC P w0 F n (.region id l.toArray false) Q D L H:=
 λa w f s m=>WX.region (by simpa using h a w f s m)
abbrev xG:= @TC.regionX
theorem TX.nil(h:TE w0 F n Q .normal D L H):TX P w0 F n ops Q [] D L H:=λa w f s m=>WX.nil (h a w f s m)
abbrev JB:= @TX.nil
theorem TX.v{v:Value}(ho:ops[i]?=some o)(hw:Want n D ops o L)(hd:o.dst=some d)(hn:Nat.blt d n=true)(h1:PV P n D L (Sat H F) o v)(h:TX P w0 F n ops Q is D ((d,v)::L) H):TX P w0 F n ops Q (i::is) D L H:=λa w f s m=>by
 refine WX.value ho (hw a f) (h1 a w f m) ?_;rw[hd];exact h _ _ (f.put (lb hn) _) s m
abbrev sN:= @TX.v
end
end Leg
namespace Leg
open Go Codec Api Go.Conc
section
variable {P:Program} {w0:World} {F:Hl} {n:Nat} {ops:Array Oper} {Q:QQ} {is:List Nat} {D:List Deferred} {L:List (Nat×Value)} {H:List HP} {i d:Nat} {o:Oper}
theorem Sat.chan{w:World}{c cap s r:Nat}{vs:List Value}(m:Sat H F w)(k:Nat)(hk:Nat.blt k H.length=true)(e:H.getD k (λ_=>True)=dZ c cap vs s r):w.heap[c]?=some (.chan cap vs.toArray false s r false):=by
 obtain⟨h,d,e',x⟩:=m;obtain⟨h1,h2,d',rfl,a,_⟩:=eW k (lb hk) x;rw[e]at a
 have:hp w c=some (.chan cap vs.toArray false s r false):=by
  rw[e',je];exact gL (by rw[show h1=sg c _ from a];simp[sg])
 exact this
theorem Sat.setChan{w:World}{c cap s r s' r':Nat}{vs vs':List Value}(m:Sat H F w)(k:Nat)(hk:Nat.blt k H.length=true)(e:H.getD k (λ_=>True)=dZ c cap vs s r):Sat (H.set k (dZ c cap vs' s' r')) F (w.setChan c cap vs'.toArray false s' r' false):=by
 have hc:=m.chan k hk e
 have hlt:c<w.heap.size:=by
  by_cases q:c<w.heap.size
  · exact q
  · rw[Array.getElem?_eq_none (by omega)]at hc;cases hc
 exact m.write k (lb hk) e (heap_setChan w c cap vs'.toArray false s' r' false hlt) (λj hj=>by simp[World.setChan,Array.getElem?_setIfInBounds,Ne.symm hj])
theorem Same.setChan{w w':World}(s:Same w w')(c cap:Nat)(b:Array Value)(cl:Bool)(x y:Nat)(t:Bool):Same w (w'.setChan c cap b cl x y t):=s.trans ⟨rfl,rfl,rfl,by simp[World.setChan]⟩
theorem rU{x:Operand}{so:Option Operand}{e:TypeId}{z:Value}{blocking:Bool}(ho:o.op= .select #[⟨x,so,e⟩] blocking)(hz:(P.info? e).map (·.zero)=some (some z))(ev:Operand→Value)(w:World):
 (execOp ev o).run P w= .ok (.comm #[{chan:=ev x,send:=so.map ev,zero:=z}] blocking .select) w:=by
 simp[execOp,ho,Sem.run_bind,nL hz]
theorem TX.sendRoom{x y:Operand}{e c cap s r:Nat}{z v:Value}{vs:List Value}(k:Nat)(ho:ops[i]?=some o)(hw:Want n D ops o L)(hop:o.op= .select #[⟨x,some y,e⟩] false)(hd:o.dst=some d)(hn:Nat.blt d n=true)(hz:(P.info? e).map (·.zero)=some (some z))
 (hx:cG L x=some (.chan (some c))) (hy:cG L y=some v) (hk:Nat.blt k H.length=true) (hH:H.getD k (λ_=>True)=dZ c cap vs s r) (hroom:vs.length<cap)
 (h:TX P w0 F n ops Q is D ((d, .tuple #[.int .i64 0, .bool false])::L) (H.set k (dZ c cap (vs++[v]) (s+1) r))):TX P w0 F n ops Q (i::is) D L H:=λa w f sm m=>by
 have hc:=m.chan k hk hH;have hr:=rU (P:=P) hop hz a.eval w;rw[f.eval hx]at hr;simp only[Option.map_some,f.eval hy]at hr;refine Ls (v:= .tuple #[.int .i64 0, .bool false]) (w2:=w.setChan c cap (vs++[v]).toArray false (s+1) r false) ho (hw a f) hr (λfr cs es hs=>?_) ?_
 · have:=step_lone_sel_send_room (k:=0) hs rfl (λj c' hj hjc=>by cases j with|zero=>exact absurd rfl hj|succ j=>simp at hjc) hc (by simpa using hroom)
   rw[this];simp[commResult,goInt]
 · rw[hd]
   exact h _ _ (f.put (lb hn) _) (sm.setChan ..) (m.setChan k hk hH)
theorem TX.sendFull{x y:Operand}{e c cap s r:Nat}{z v:Value}{vs:List Value}(k:Nat)(ho:ops[i]?=some o)(hw:Want n D ops o L)(hop:o.op= .select #[⟨x,some y,e⟩] false)(hd:o.dst=some d)(hn:Nat.blt d n=true)(hz:(P.info? e).map (·.zero)=some (some z))
 (hx:cG L x=some (.chan (some c))) (hy:cG L y=some v) (hk:Nat.blt k H.length=true) (hH:H.getD k (λ_=>True)=dZ c cap vs s r) (hfull:cap≤vs.length)
 (h:TX P w0 F n ops Q is D ((d, .tuple #[.int .i64 (-1), .bool false])::L) H):TX P w0 F n ops Q (i::is) D L H:=λa w f sm m=>by
 have hc:=m.chan k hk hH;have hr:=rU (P:=P) hop hz a.eval w;rw[f.eval hx]at hr;simp only[Option.map_some,f.eval hy]at hr;refine Ls (v:= .tuple #[.int .i64 (-1), .bool false]) (w2:=w) ho (hw a f) hr (λfr cs es hs=>?_) ?_
 · have:=step_lone_sel_default hs (λcc hcc=>by
    obtain rfl:cc=scase c v z:=by simpa [scase]using hcc
    exact noWay_send hc (by simpa using hfull))
   rw[this];simp[commResult,goInt]
 · rw[hd]
   exact h _ _ (f.put (lb hn) _) sm m
theorem TX.recvBuf{x:Operand}{e c cap s r:Nat}{z v:Value}{vs:List Value}(k:Nat)(ho:ops[i]?=some o)(hw:Want n D ops o L)(hop:o.op= .select #[⟨x,none,e⟩] false)(hd:o.dst=some d)(hn:Nat.blt d n=true)(hz:(P.info? e).map (·.zero)=some (some z))
 (hx:cG L x=some (.chan (some c))) (hk:Nat.blt k H.length=true) (hH:H.getD k (λ_=>True)=dZ c cap (v::vs) s r)
 (h:TX P w0 F n ops Q is D ((d, .tuple #[.int .i64 0, .bool true,v])::L) (H.set k (dZ c cap vs s (r+1)))):TX P w0 F n ops Q (i::is) D L H:=λa w f sm m=>by
 have hc:=m.chan k hk hH;have hr:=rU (P:=P) hop hz a.eval w;rw[f.eval hx]at hr;simp only[Option.map_none]at hr;refine Ls (v:= .tuple #[.int .i64 0, .bool true,v]) (w2:=w.setChan c cap vs.toArray false s (r+1) false) ho (hw a f) hr (λfr cs es hs=>?_) ?_
 · have:=step_lone_sel_recv_buf (k:=0) hs rfl (λj c' hj hjc=>by cases j with|zero=>exact absurd rfl hj|succ j=>simp at hjc) hc (by simp)
   rw[this];simp[commResult,goInt]
 · rw[hd]
   exact h _ _ (f.put (lb hn) _) (sm.setChan ..) (m.setChan k hk hH)
theorem TX.recvNone{x:Operand}{e c cap s r:Nat}{z:Value}(k:Nat)(ho:ops[i]?=some o)(hw:Want n D ops o L)(hop:o.op= .select #[⟨x,none,e⟩] false)(hd:o.dst=some d)(hn:Nat.blt d n=true)(hz:(P.info? e).map (·.zero)=some (some z))
 (hx:cG L x=some (.chan (some c))) (hk:Nat.blt k H.length=true) (hH:H.getD k (λ_=>True)=dZ c cap [] s r)
 (h:TX P w0 F n ops Q is D ((d, .tuple #[.int .i64 (-1), .bool false,z])::L) H):TX P w0 F n ops Q (i::is) D L H:=λa w f sm m=>by
 have hc:=m.chan k hk hH;have hr:=rU (P:=P) hop hz a.eval w;rw[f.eval hx]at hr;simp only[Option.map_none]at hr;refine Ls (v:= .tuple #[.int .i64 (-1), .bool false,z]) (w2:=w) ho (hw a f) hr (λfr cs es hs=>?_) ?_
 · have:=step_lone_sel_default hs (λcc hcc=>by
    obtain rfl:cc=rcase c z:=by simpa [rcase]using hcc
    exact noWay_recv hc)
   rw[this];simp[commResult,goInt]
 · rw[hd]
   exact h _ _ (f.put (lb hn) _) sm m
end
end Leg
namespace Leg
open Go Codec Api Go.Conc
section
variable {P:Program} {w0:World} {F:Hl} {n:Nat} {ops:Array Oper} {Q:QQ} {D:List Deferred} {L:List (Nat×Value)} {H:List HP} {d:Nat} {o:Oper}
theorem PV.lenChan{t e:TypeId}{dir:ChanDir}{x:Operand}{c cap s r:Nat}{vs:List Value}(k:Nat)(ho:o.op= .call {callee:= .builtin .len,args:=#[x],argTypes:=#[t]})(ht:P.underlying t=some (.chan dir e))(hx:cG L x=some (.chan (some c)))
 (hk:Nat.blt k H.length=true) (hH:H.getD k (λ_=>True)=dZ c cap vs s r):PV P n D L (Sat H F) o (.int .i64 ((vs.length:Nat):Int)):=λa w f m=>by
 have hl:=Conc.run_len_chan (P:=P) (w:=w) (dir:=dir) (e:=e) t o.type ht (m.chan k hk hH);simp[execOp,ho,resolve,f.eval hx,invoke,builtin,hl,goInt]
theorem PV.capChan{t e:TypeId}{dir:ChanDir}{x:Operand}{c cap s r:Nat}{vs:List Value}(k:Nat)(ho:o.op= .call {callee:= .builtin .cap,args:=#[x],argTypes:=#[t]})(ht:P.underlying t=some (.chan dir e))(hx:cG L x=some (.chan (some c)))
 (hk:Nat.blt k H.length=true) (hH:H.getD k (λ_=>True)=dZ c cap vs s r):PV P n D L (Sat H F) o (.int .i64 ((cap:Nat):Int)):=λa w f m=>by
 have hl:=Conc.run_cap_chan (P:=P) (w:=w) (dir:=dir) (e:=e) t o.type ht (m.chan k hk hH);simp[execOp,ho,resolve,f.eval hx,invoke,builtin,hl,goInt]
end
abbrev gF(T U b:Nat)(ls:List (List UInt8)):HP:=pack (λq:Nat×List Value×Nat×Nat=>[ah b [.chan (some q.1)] T,dZ q.1 8 q.2.1 q.2.2.1 q.2.2.2,eA q.2.1 ls U])
def qv(T U:Nat)(bs:List Nat)(W:List (List (List UInt8)))(k:Nat):HP:=if k%6=0 then(λ_=>True)else gF T U (bs.getD k 0) (W.getD k [])
def oZ(T U:Nat)(bs:List Nat)(W:List (List (List UInt8))):List HP:=(List.range 25).map (qv T U bs W)
def eH(T U:Nat)(bs:List Nat)(W:List (List (List UInt8))):HP:=bE (oZ T U bs W)
def fp(T U:Nat)(bs:List Nat)(W:List (List (List UInt8)))(k:Nat):HP:=bE ((oZ T U bs W).eraseIdx k)
def dv(bs:List Nat):List Value:=(List.range 25).map λk=>if k%6=0 then .pointer none else .pointer (some ⟨bs.getD k 0,0,none⟩)
theorem Bc(bs:List Nat){k:Nat}(h:k<25):(dv bs)[k]?=some (if k%6=0 then .pointer none else .pointer (some ⟨bs.getD k 0,0,none⟩)):=by unfold dv;simp[h]
theorem yh(bs:List Nat):(dv bs).length=25:=by simp[dv]
abbrev eu(NT T U n:Nat)(W:List (List (List UInt8))):HP:=pack (λbs:List Nat=>[ah n (dv bs) NT,eH T U bs W])
section
variable {T U:Nat} {bs:List Nat} {W:List (List (List UInt8))} {k:Nat} {H:List HP} {h:Hl}
theorem Cc:(oZ T U bs W).length=25:=by simp[oZ]
theorem wQ(hk:k<25)(s:bE (eH T U bs W::H) h):bE (qv T U bs W k::fp T U bs W k::H) h:=by
 have s1:bE (oZ T U bs W++H) h:=(bX _ _).2 s;have e:(oZ T U bs W).getD k (λ_=>True)=qv T U bs W k:=by simp[oZ,List.getD_eq_getElem?_getD,hk]
 have p:=mN (λ_=>True) (oZ T U bs W) k (by rw[Cc];exact hk);rw[e]at p;have s2:=eg (p.append_right H) s1;exact cB s2 (λ_ a=>a) λ_ b=>(bX _ _).1 b
theorem um{W':List (List (List UInt8))}(hk:k<25)(hW: ∀j,j≠k→W'.getD j []=W.getD j [])(s:bE (qv T U bs W' k::fp T U bs W k::H) h):bE (eH T U bs W'::H) h:=by
 have e0:(oZ T U bs W').eraseIdx k=(oZ T U bs W).eraseIdx k:=by
  refine List.ext_getElem? λj=>?_
  rw[List.getElem?_eraseIdx,List.getElem?_eraseIdx]
  have: ∀i,i≠k→(oZ T U bs W')[i]?=(oZ T U bs W)[i]?:=λi hi=>by
   simp only[oZ,List.getElem?_map];cases q:(List.range 25)[i]?with
   |none=>rfl
   |some m=>
    have hm:m=i:=by
     by_cases hi25:i<25
     · simp[hi25]at q;exact q.symm
     · simp[hi25]at q
    subst hm;simp only[Option.map_some,qv,hW m hi]
  split
  · exact this j (by omega)
  · exact this (j+1) (by omega)
 have e:(oZ T U bs W').getD k (λ_=>True)=qv T U bs W' k:=by simp[oZ,List.getD_eq_getElem?_getD,hk]
 have p:=mN (λ_=>True) (oZ T U bs W') k (by rw[Cc];exact hk);rw[e,e0]at p;have s2:bE ((qv T U bs W' k::(oZ T U bs W).eraseIdx k)++H) h:=cB s (λ_ a=>a) λ_ b=>(bX _ _).2 b
 exact(bX _ _).1 (eg (p.symm.append_right H) s2)
end
def bB(from' to':Int):Nat:=from'.toNat*5+to'.toNat
def iF(w:Int):Bool:=decide (0≤w∧w<5)
theorem IK{f t:Int}(hf:iF f=true)(ht:iF t=true):bB f t<25:=by
 have h1:0≤f∧f<5:=of_decide_eq_true hf;have h2:0≤t∧t<5:=of_decide_eq_true ht;unfold bB;omega
theorem sW{f t:Int}(hf:iF f=true)(ht:iF t=true):bB f t%6=0↔f=t:=by
 have h1:0≤f∧f<5:=of_decide_eq_true hf;have h2:0≤t∧t<5:=of_decide_eq_true ht;unfold bB;omega
end Leg
end

section
namespace Wal
open Go Leg Codec Api Dsk
end Wal
namespace Leg
open Go Codec Api
end Leg
namespace Leg
open Go Codec Api
theorem qc{us:List Value}{ls:List (List UInt8)}{e:Nat}{H:List HP}{F:Hl}{w:World}(i:Nat)(hi:Nat.blt i H.length=true)(hH:H.getD i (λ_=>True)=eA us ls e)(m:Sat H F w):us.length=ls.length∧∀u∈us,u.oneCell'=true:=by
 obtain⟨h,d,e',x⟩:=m;obtain⟨h1,h2,d',rfl,a,_⟩:=eW i (lb hi) x;rw[hH]at a;refine⟨a.1,λu hu=>?_⟩;obtain⟨j,hj,rfl⟩:=ff hu;obtain⟨u,e1,k1,k2,dk,rfl,a3⟩:=wP us ls e _ a.1 a.2 j (by rw[←a.1];exact hj);rw[List.getElem?_eq_getElem hj]at e1;injection e1 with e1
 rw[e1];exact(AH a3 (λb o q=>q):IsB u _ k1).one
section
variable {P:Program} {n:Nat} {D:List Deferred} {L:List (Nat×Value)} {S:World→Prop} {o:Oper}
end
end Leg
namespace Wal
open Go Leg Codec Api Dsk
end Wal
namespace Leg
open Go Codec Api
section
variable {P:Program} {n:Nat} {D:List Deferred} {L:List (Nat×Value)} {S:World→Prop} {o:Oper}
end
theorem GB{us:List Value}{ls:List (List UInt8)}{e:Nat}{u:Value}{l:List UInt8}{H:List HP}{h:Hl}(s:bE (eA (u::us) (l::ls) e::H) h):bE (gx u l e::eA us ls e::H) h:=by
 obtain⟨h1,h2,d,rfl,⟨hl,a⟩,b⟩:=s;obtain⟨g1,g2,d',rfl,a1,a2⟩:=a;exact mJ.1 ⟨_,h2,d,rfl,⟨g1,g2,d',rfl,a1,⟨by simpa using hl,a2⟩⟩,b⟩
def zr(ls:List (List UInt8))(bs:List UInt8):List (List UInt8):=if ls.length<8 then ls++[bs]else ls
def dG(f t:Int):Bool:=iF f&&iF t&& !decide (f=t)
def oB(W:List (List (List UInt8)))(f t:Int)(bs:List UInt8):List (List (List UInt8)):=if dG f t then W.set (bB f t) (zr (W.getD (bB f t) []) bs)else W
theorem ig{f t:Int}(h:dG f t=true):bB f t<25∧¬bB f t%6=0:=by
 unfold dG at h;rw[av,av]at h;refine⟨IK h.1.1 h.1.2,λq=>?_⟩;have:=(sW h.1.1 h.1.2).1 q;rw[this]at h;simp at h
theorem qd{T U:Nat}{bs:List Nat}{W:List (List (List UInt8))}{k:Nat}(h: ¬k%6=0):qv T U bs W k=gF T U (bs.getD k 0) (W.getD k []):=by unfold qv;rw[if_neg h]
theorem nD{T U:Nat}{bs:List Nat}{W:List (List (List UInt8))}{f t:Int}(hv:dG f t=true){H:List HP}{h:Hl}(s:bE (eH T U bs W::H) h):bE (gF T U (bs.getD (bB f t) 0) (W.getD (bB f t) [])::fp T U bs W (bB f t)::H) h:=by
 obtain⟨h1,h2⟩:=ig hv;have:=wQ h1 s
 rwa [qd h2]at this
theorem sV{T U:Nat}{bs:List Nat}{W:List (List (List UInt8))}{f t:Int}{ls:List (List UInt8)}(hv:dG f t=true)(hW:W.length=25){H:List HP}{h:Hl}(s:bE (gF T U (bs.getD (bB f t) 0) ls::fp T U bs W (bB f t)::H) h):bE (eH T U bs (W.set (bB f t) ls)::H) h:=by
 obtain⟨h1,h2⟩:=ig hv;refine um (W:=W) h1 (λj hj=>?_) ?_
 · rw[List.getD_eq_getElem?_getD,List.getD_eq_getElem?_getD,List.getElem?_set_ne (λe=>hj e.symm)]
 · rw[qd h2,show(W.set (bB f t) ls).getD (bB f t) []=ls by rw[List.getD_eq_getElem?_getD,List.getElem?_set_self (by omega)];rfl]
   exact s
end Leg
namespace Leg
open Go Codec Api
def b8(w:Int):UInt8:=Wal.r8 w
theorem uS(w:Int):IntKind.u8.wrap w=(((b8 w).toNat:Nat):Int):=Wal.r8_wrap w
end Leg
end

section
namespace Go.Proofs.YtjblgopghhgflaaGreat
open Go Leg Codec Api Dsk Wal
theorem sJ(b c s r:Nat)(us:List Value)(ls:List (List UInt8)):
 DT 100 #[(.pointer (some ⟨b,0,none⟩))] T0 [ah b [(.chan (some c))] 208,dZ c 8 (us) (s) (r),eA (us) (ls) 5] (RI (.int .i64 ((ls.length:Nat):Int)) [ah b [(.chan (some c))] 208,dZ c 8 (us) (s) (r),eA (us) (ls) 5]):=by
 refine BD 8 Tryz.func100 rfl rfl rfl λw0 F hF=>sr λ_ J1=>PS ?_
 refine nx J1 (sr λ_ J2=>xE (p:=us.length=ls.length) (λw m=>(qc 2 rfl rfl m).1) (λhul=>P2 ?_));refine FA 0 Ch tI ?_;refine LA 0 uF ?_;refine tp (PV.lenChan 1 rfl uF rfl rfl rfl) ?_;refine PS ?_;refine nx J2 (ai (WK [0,0,0] (au rfl rfl ?_)));exact⟨by rw[hul],rfl⟩
theorem jj(b:Nat)(ls:List (List UInt8)):DT 100 #[.pointer (some ⟨b,0,none⟩)] T0 [gF 208 5 b ls] (RI (.int .i64 ((ls.length:Nat):Int)) [gF 208 5 b ls]):=
 Leg.Does.pack (B:=[]) λq=>Leg.Does.fold (sJ b q.1 q.2.2.1 q.2.2.2 q.2.1 ls) λe H hp=>by
  cases e with
  |returned v=>
   obtain⟨rfl,rfl⟩:=hp;exact⟨_,λ_ s=>bj (p:=λq:Nat×List Value×Nat×Nat=>[ah b [.chan (some q.1)] 208,dZ q.1 8 q.2.1 q.2.2.1 q.2.2.2,eA q.2.1 ls 5]) (H:=[]) q s,rfl,rfl⟩
  |panicked c=>exact hp.elim
  |outgrown=>exact hp.elim
theorem Ad(b c s r:Nat)(us:List Value)(ls:List (List UInt8))(x:Value)(bs:List UInt8)(hb:bs.length≤1000000):
 DT 138 #[(.pointer (some ⟨b,0,none⟩)),x] (IsW x bs) [ah b [(.chan (some c))] 208,dZ c 8 (us) (s) (r),eA (us) (ls) 5] (dm (λv H=>(ls.length<8∧v= .bool true∧∃u,H=[ah b [(.chan (some c))] 208,dZ c 8 (us++[u]) (s+1) r,eA us ls 5,dQ u bs 5])∨(¬ls.length<8∧v= .bool false∧H=[ah b [(.chan (some c))] 208,dZ c 8 (us) (s) (r),eA (us) (ls) 5]))):=by
 refine Leg.Does.body (vs:=[(.pointer (some ⟨b,0,none⟩)),x]) (n:=15) Tryz.func138 rfl rfl rfl (λw0 F hF=>?_);refine sr λ_ J1=>?_
 refine pa ?_;refine nx J1 ?_;refine ab λ_ J2=>?_
 refine sr λ_ J3=>?_
 refine xE (p:=us.length=ls.length) (λw m=>(qc 2 rfl rfl m).1) (λhul=>?_);refine mv ?_;refine tp (fX rfl rfl) ?_;refine tp (aY (r:=0) rfl Ch rfl tI rfl rfl) ?_;refine tp (fc (v:=(.chan (some c))) rfl uF rfl rfl (dN 0 rfl rfl) rfl) ?_;refine nx J3 ?_;refine ad ?_;refine Cj (aa rfl) rfl rfl rfl gp k0 (λv9=>?_);change TL _ _ _ _ _ _ _ _ _ [dQ v9 ([]) 5,ah b [(.chan (some c))] 208,dZ c 8 (us) (s) (r),eA (us) (ls) 5];refine mv ?_;refine cH (k:=0) (news:=eb (bs)) (nn':=(bs:List UInt8).length) (xs':=eb (bs)) (aa rfl) rfl rfl rfl gp yv rfl rfl rfl rfl rfl rfl (λ_ _=>hF.src (λ_ h=>ez h)) (eU _) (by simp only[maxLen,aD];omega) (by simp only[aD];omega) (by simp) (be _) (λv11 ov11=>?_);change TL _ _ _ _ _ _ _ _ _ [dQ v11 (bs) 5,ah b [(.chan (some c))] 208,dZ c 8 (us) (s) (r),eA (us) (ls) 5];refine nx J2 ?_;refine ab λ_ J4=>?_
 refine xG ?_;change TX _ _ _ _ _ _ [0,1,2] _ _ _
 by_cases hroom:us.length<8
 refine TX.sendRoom 2 rfl (aa rfl) rfl rfl rfl Lp rfl rfl rfl rfl hroom ?_;change TX _ _ _ _ _ _ _ _ _ [dQ v11 (bs) 5,ah b [(.chan (some c))] 208,dZ c 8 (us++[v11]) (s+1) (r),eA (us) (ls) 5];refine sN rfl (aa rfl) rfl rfl (lK (vs:=[(.int .i64 0),(.bool false)]) rfl rfl rfl) ?_;refine sN rfl (aa rfl) rfl rfl (M9 rfl rfl rfl) ?_;refine JB ?_;refine ac J4 ?_;refine aq ?_;refine iO rfl ?_;refine sr λ_ J5=>?_
 refine pa ?_;refine nx J5 ?_;refine ai ?_;refine aH ?_;refine aF (di _) (λ_ s=>ak [1,1,1,0] rfl s) ?_;refine au rfl rfl ?_;exact Or.inl ⟨by omega,rfl,_,rfl⟩;refine TX.sendFull 2 rfl (aa rfl) rfl rfl rfl Lp rfl rfl rfl rfl (by omega) ?_;refine sN rfl (aa rfl) rfl rfl (lK (vs:=[(.int .i64 (-1)),(.bool false)]) rfl rfl rfl) ?_;refine sN rfl (aa rfl) rfl rfl (M9 rfl rfl rfl) ?_;refine JB ?_;refine ac J4 ?_;refine aq ?_;refine sO rfl ?_;refine sr λ_ J6=>?_
 refine pa ?_;refine nx J6 ?_;refine ai ?_;refine aH ?_;refine aF (di _) (λ_ s=>ak [1,1,1] rfl s) ?_;refine au rfl rfl ?_;exact Or.inr ⟨by omega,rfl,rfl⟩
theorem uq(b:Nat)(ls:List (List UInt8))(x:Value)(bs:List UInt8)(hb:bs.length≤1000000):DT 138 #[.pointer (some ⟨b,0,none⟩),x] (IsW x bs) [gF 208 5 b ls] (RI (.bool (decide (ls.length<8))) [gF 208 5 b (zr ls bs)]):=
 Leg.Does.pack (B:=[]) λq=>Leg.Does.fold (Ad b q.1 q.2.2.1 q.2.2.2 q.2.1 ls x bs hb) λe H hp=>by
  cases e with
  |returned v=>
   unfold zr;rcases hp with⟨h8,rfl,u,rfl⟩| ⟨h8,rfl,rfl⟩
   · refine⟨[gF 208 5 b (ls++[bs])],λ_ s=>?_,by rw[decide_eq_true h8],by rw[if_pos h8]⟩
     have s1:=zc 3 rfl rfl s;have s2:=aC [2,2] rfl s1;have s3:=tE s2;exact bj (p:=λq:Nat×List Value×Nat×Nat=>[ah b [.chan (some q.1)] 208,dZ q.1 8 q.2.1 q.2.2.1 q.2.2.2,eA q.2.1 (ls++[bs]) 5]) (H:=[]) (q.1,q.2.1++[u],q.2.2.1+1,q.2.2.2) (aC [1,1,0] rfl s3)
   · exact⟨[gF 208 5 b ls],λ_ s=>bj (p:=λq:Nat×List Value×Nat×Nat=>[ah b [.chan (some q.1)] 208,dZ q.1 8 q.2.1 q.2.2.1 q.2.2.2,eA q.2.1 ls 5]) (H:=[]) q s,by rw[decide_eq_false h8],by rw[if_neg h8]⟩
  |panicked c=>exact hp.elim
  |outgrown=>exact hp.elim
theorem xz(b c s r:Nat)(us:List Value)(ls:List (List UInt8)):
 DT 139 #[(.pointer (some ⟨b,0,none⟩))] T0 [ah b [(.chan (some c))] 208,dZ c 8 (us) (s) (r),eA (us) (ls) 5] (dm (λv H=>(ls=[]∧v= .tuple #[.slice none 0 0, .bool false]∧H=[ah b [(.chan (some c))] 208,dZ c 8 [] s r,eA [] ls 5])∨(∃u us' f ls',ls=f::ls'∧v= .tuple #[u, .bool true]∧H=[ah b [(.chan (some c))] 208,dZ c 8 us' s (r+1),eA (u::us') (f::ls') 5]))):=by
 refine BD 14 Tryz.func139 rfl rfl rfl λw0 F hF=>sr λ_ J1=>P2 ?_
 refine nx J1 (sr λ_ J2=>xE (p:=us.length=ls.length) (λw m=>(qc 2 rfl rfl m).1) (λhul=>P2 ?_));refine FA 0 Ch tI ?_;refine LA 0 uF ?_;refine nx J2 (ab λ_ J3=>xG ?_);rcases us with _| ⟨u,us⟩
 refine TX.recvNone 1 rfl (aa rfl) rfl rfl rfl Lp rfl rfl rfl (sN rfl (aa rfl) rfl rfl (lK (vs:=[(.int .i64 (-1)),(.bool false),(.slice none 0 0)]) rfl rfl rfl) (sN rfl (aa rfl) rfl rfl (M9 rfl rfl rfl) (JB (ac J3 (aq (CN (sr λ_ J4=>P2 ?_)))))));exact nx J4 (ai (aH (WK [0,0,0] (iw rfl rfl rfl (Or.inl ⟨List.eq_nil_of_length_eq_zero hul.symm,rfl,rfl⟩)))));rcases ls with _| ⟨f,ls⟩
 · cases hul
 refine TX.recvBuf 1 rfl (aa rfl) rfl rfl rfl Lp rfl rfl rfl (sN rfl (aa rfl) rfl rfl (lK (vs:=[(.int .i64 0),(.bool true),u]) rfl rfl rfl) (sN rfl (aa rfl) rfl rfl (M9 rfl rfl rfl) (JB (ac J3 (aq (CY (sr λ_ J5=>P2 ?_)))))));refine nx J5 (sr λ_ J6=>P3 ?_);exact nx J6 (ai (aH (WK [0,0,0] (iw rfl rfl rfl (Or.inr ⟨u,us,f,ls,rfl,rfl,rfl⟩)))))
theorem sI(b:Nat)(ls:List (List UInt8)):DT 139 #[.pointer (some ⟨b,0,none⟩)] T0 [gF 208 5 b ls] (dm (λv H=>(ls=[]∧v= .tuple #[.slice none 0 0, .bool false]∧H=[gF 208 5 b []])∨(∃u f ls',ls=f::ls'∧v= .tuple #[u, .bool true]∧H=[gF 208 5 b ls',gx u f 5]))):=
 Leg.Does.pack (B:=[]) λq=>Leg.Does.fold (xz b q.1 q.2.2.1 q.2.2.2 q.2.1 ls) λe H hp=>by
  cases e with
  |returned v=>
   rcases hp with⟨rfl,rfl,rfl⟩| ⟨u,us',f,ls',rfl,rfl,rfl⟩
   · exact⟨[gF 208 5 b []],λ_ s=>bj (p:=λq:Nat×List Value×Nat×Nat=>[ah b [.chan (some q.1)] 208,dZ q.1 8 q.2.1 q.2.2.1 q.2.2.2,eA q.2.1 [] 5]) (H:=[]) (q.1,[],q.2.2.1,q.2.2.2) s,Or.inl ⟨rfl,rfl,rfl⟩⟩
   · refine⟨[gF 208 5 b ls',gx u f 5],λ_ s=>?_,Or.inr ⟨u,f,ls',rfl,rfl,rfl⟩⟩
     have s1:=aC [2] rfl s;have s2:=GB s1;exact bj (p:=λq:Nat×List Value×Nat×Nat=>[ah b [.chan (some q.1)] 208,dZ q.1 8 q.2.1 q.2.2.1 q.2.2.2,eA q.2.1 ls' 5]) (H:=[gx u f 5]) (q.1,us',q.2.2.1,q.2.2.2+1) (aC [2,2,1,0] rfl s2)
  |panicked c=>exact hp.elim
  |outgrown=>exact hp.elim
theorem Ae:
 DT 91 #[(.int .i64 8)] T0 [] (dm (λv H=>∃b c,v= .pointer (some ⟨b,0,none⟩)∧H=[ah b [(.chan (some c))] 208,dZ c 8 [] 0 0])):=by
 refine BD 9 Tryz.func91 rfl rfl rfl λw0 F hF=>sr λ_ J1=>PS ?_
 refine nx J1 (sr λ_ J2=>PS ?_);refine tp (Oz (v':=(.int .i64 8)) (xL rfl rfl rfl) rfl) ?_;refine tp (Oz (v':=(.int .i64 8)) (PV.minI rfl rfl rfl) rfl) ?_;refine TL.makeChan (k:=8) (bytes:=24) (aa rfl) rfl rfl rfl uF (by kernel_rfl) rfl (by omega) (by omega) (λc6=>BV #[(.chan (some c6))] ?_);refine XB λb8=>?_
 refine PS ?_;exact nx J2 (ai (WK [0,0] (au rfl rfl ⟨b8,c6,rfl,rfl⟩)))
theorem Cb:DT 91 #[.int .i64 8] T0 [] (dm (λv H=>∃b,v= .pointer (some ⟨b,0,none⟩)∧H=[gF 208 5 b []])):=
 Leg.Does.fold Ae λe H hp=>by
  cases e with
  |returned v=>
   obtain⟨b,c,rfl,rfl⟩:=hp;exact⟨[gF 208 5 b []],λ_ s=>bj (p:=λq:Nat×List Value×Nat×Nat=>[ah b [.chan (some q.1)] 208,dZ q.1 8 q.2.1 q.2.2.1 q.2.2.2,eA q.2.1 [] 5]) (H:=[]) (c,[],0,0) (aC [1,1,0] rfl (yL s)),b,rfl,rfl⟩
  |panicked c=>exact hp.elim
  |outgrown=>exact hp.elim
theorem oS(w:Int):
 DT 137 #[(.int .i64 (w))] T0 [] (RI (.bool (iF w)) []):=by
 refine BD 9 Tryz.func137 rfl rfl rfl λw0 F hF=>sr λ_ J1=>PS ?_
 refine nx J1 (sr λ_ J2=>P2 ?_);refine an ?_ ?_<;>intro h4
 iterate 5 refine PS ?_
 refine nx J2 (ai (WK [] (au rfl rfl ?_)));exact⟨congrArg Value.bool (by unfold iF;simp only[decide_eq_decide];omega),rfl⟩;refine PS ?_;refine UF ?_;refine UF ?_;refine P2 ?_;refine nx J2 (ai (WK [] (au rfl rfl ?_)));exact⟨congrArg Value.bool (by unfold iF;symm;exact decide_eq_false (by omega)),rfl⟩
theorem mD(n:Nat)(bs:List Nat)(from' to':Int):
 DT 99 #[(.pointer (some ⟨n,0,none⟩)),(.int .i64 (from')),(.int .i64 (to'))] T0 [ah n (dv bs) 156] (dm (λv H=>((dG from' to'=true∧v= .pointer (some ⟨(bs.getD (bB from' to') 0),0,none⟩))∨(dG from' to'=false∧v= .pointer none))∧H=[ah n (dv bs) 156])):=by
 refine BD 23 Tryz.func99 rfl rfl rfl λw0 F hF=>sr λ_ J1=>PS ?_
 refine nx J1 (ab λ_ J2=>sr λ_ J3=>PS ?_);refine CE Kc (oS from') ID ?_;refine aX ?_ ?_<;>intro h8;have hf:0≤from'∧from'<5:=of_decide_eq_true h8
 refine PS ?_;refine P2 ?_;refine CE Kc (oS to') ID ?_;refine aX ?_ ?_<;>intro h12;have ht:0≤to'∧to'<5:=of_decide_eq_true h12;refine PS ?_;refine PS ?_;refine nx J3 (CN (qx J2 (sr λ_ J4=>P4 ?_)));refine FA 0 Tryz.underlying156 Eg ?_;refine IX (((from').toNat)*5) Jy AE ?_;refine IX (((from').toNat)*5+(to').toNat) Io Eh ?_;refine LT 0 w4 (if bB from' to'%6=0 then .pointer none else .pointer (some ⟨(bs.getD (bB from' to') 0),0,none⟩)) ?_ (hc:=by exact Bc bs (k:=bB from' to') (by unfold bB;omega));refine PS ?_;refine nx J4 (ai (WK [0] (au rfl rfl ⟨?_,rfl⟩)))
 by_cases hd:from'=to'
 · rw[if_pos ((sW h8 h12).2 hd)]
   exact Or.inr ⟨by unfold dG;rw[decide_eq_true hd];simp,rfl⟩
 · rw[if_neg (λq=>hd ((sW h8 h12).1 q))]
   exact Or.inl ⟨by unfold dG;rw[h8,h12,decide_eq_false hd];rfl,rfl⟩
 refine PS ?_;refine PS ?_;refine nx J3 (CY (sr λ_ J5=>PS ?_));refine nx J5 (ai (ae (WK [0] (au rfl rfl ?_))));exact⟨Or.inr ⟨by unfold dG;rw[h12];simp,rfl⟩,rfl⟩;refine PS ?_;refine PS ?_
 iterate 3 refine UT ?_
 refine PS ?_;refine nx J3 (CY (sr λ_ J6=>PS ?_));refine nx J6 (ai (ae (WK [0] (au rfl rfl ?_))));exact⟨Or.inr ⟨by unfold dG;rw[h8];simp,rfl⟩,rfl⟩
def sj(W:List (List (List UInt8)))(f t:Int):Bool:=dG f t&&decide ((W.getD (bB f t) []).length<8)
theorem xn(n:Nat)(bs:List Nat)(W:List (List (List UInt8)))(from' to':Int)(x:Value)(by':List UInt8)(hb:by'.length≤1000000)(hW:W.length=25):
 DT 202 #[(.pointer (some ⟨n,0,none⟩)),(.int .i64 (from')),(.int .i64 (to')),x] (IsW x by') [ah n (dv bs) 156,eH 208 5 bs W] (RI (.bool (sj W from' to')) [ah n (dv bs) 156,eH 208 5 bs (oB W from' to' by')]):=by
 refine BD 21 Tryz.func202 rfl rfl rfl λw0 F hF=>sr λ_ J1=>PS ?_
 refine nx J1 (sr λ_ J2=>P3 ?_);refine CR Df (mD n bs from' to') ID λvR HR hR=>?_
 obtain⟨hw,rfl⟩:=hR;rcases hw with⟨hv,rfl⟩| ⟨hv,rfl⟩
 refine PS ?_;refine nx J2 (sr λ_ J3=>PS ?_);refine tp (fS rfl w4 rfl rfl) ?_;refine P3 ?_;refine cr (H':=[gF 208 5 (bs.getD (bB from' to') 0) (W.getD (bB from' to') []),fp 208 5 bs W (bB from' to'),ah n (dv bs) 156]) (λ_ s=>nD hv (aC [1] rfl s)) (CF Hv (uq (bs.getD (bB from' to') 0) (W.getD (bB from' to') []) x by' hb) ID (λ_ d _=>Nd hF d) ?_);refine P2 ?_;refine nx J3 (ai (aF (H':=[ah n (dv bs) 156,eH 208 5 bs (oB W from' to' by')]) (di _) (λ_ s=>by unfold oB;rw[if_pos hv];exact aC [1,0] rfl (sV hv hW (aC [0,0,0] rfl s))) (au rfl rfl ?_)));exact⟨by unfold sj;rw[hv];rfl,rfl⟩;refine PS ?_;refine nx J2 (sr λ_ J4=>PS ?_);refine tp (gJ rfl w4 rfl rfl) ?_;refine PS ?_
 iterate 3 refine UF ?_
 refine P2 ?_;refine nx J4 (ai (WK [0,0] (au rfl rfl ?_)));exact⟨by unfold sj;rw[hv];rfl,by unfold oB;rw[hv];rfl⟩
theorem zB(n:Nat)(W:List (List (List UInt8)))(from' to':Int)(x:Value)(by':List UInt8)(hb:by'.length≤1000000)(hW:W.length=25):DT 202 #[.pointer (some ⟨n,0,none⟩), .int .i64 from', .int .i64 to',x] (IsW x by') [eu 156 208 5 n W] (RI (.bool (sj W from' to')) [eu 156 208 5 n (oB W from' to' by')]):=
 Leg.Does.pack (B:=[]) λbs=>Leg.Does.fold (xn n bs W from' to' x by' hb hW) λe H hp=>by
  cases e with
  |returned v=>
   obtain⟨rfl,rfl⟩:=hp;exact⟨_,λ_ s=>bj (p:=λbs:List Nat=>[ah n (dv bs) 156,eH 208 5 bs (oB W from' to' by')]) (H:=[]) bs s,rfl,rfl⟩
  |panicked c=>exact hp.elim
  |outgrown=>exact hp.elim
def jg(f t:Int)(bs:List UInt8):List UInt8:=pF ([b8 f,b8 t]++bs)
theorem Dx(from' to':Int)(x:Value)(by':List UInt8)(hb:by'.length≤100000):
 DT 52 #[(.int .i64 (from')),(.int .i64 (to')),x] (IsW x by') [] (dm (λv H=>∃u,v=u∧H=[dQ u (jg from' to' by') 5])):=by
 refine BD 23 Tryz.func52 rfl rfl rfl λw0 F hF=>sr λ_ J1=>PS ?_
 refine nx J1 (sr λ_ J2=>PS ?_);refine tp (dF rfl gp rfl hF.len) ?_;refine AD ?_;refine TL.makeB (0) (2+by'.length) (aa rfl) rfl rfl rfl gp yv rfl rfl rfl (by omega) (by omega) (by omega) (λb11=>cr (H':=[dQ (.slice (some ⟨b11,0,none⟩) 0 (2+by'.length)) ([]) 5]) (λ_ s=>El 0 rfl rfl (by omega) (by simp only[maxLen];omega) (by simp[eb]) rfl s) (PS ?_));refine nx J2 (sr λ_ J3=>P2 ?_);refine tp (el (r:=(((b8 from').toNat:Nat):Int)) rfl Y3 Y5 rfl (uS _)) ?_;refine PS ?_;refine tp (el (r:=(((b8 to').toNat:Nat):Int)) rfl Y3 Y5 rfl (uS _)) ?_;refine aU (cells:=#[(.int .u8 ((((b8 from').toNat:Nat):Int))),(.int .u8 ((((b8 to').toNat:Nat):Int)))]) (aa rfl) rfl rfl rfl gp yv rfl rfl rfl (by as_aux_lemma=>kernel_rfl) (λb17=>cH (k:=1) (news:=eb ([(b8 from'),(b8 to')])) (nn':=([(b8 from'),(b8 to')]:List UInt8).length) (xs':=eb ([(b8 from'),(b8 to')])) (aa rfl) rfl rfl rfl gp yv rfl rfl rfl rfl rfl rfl (λ_ _=>ju rfl (RO 0) rfl) (eU [(b8 from'),(b8 to')]) (by simp only[maxLen,aD,ay];omega) (by simp only[aD,ay];omega) (by simp<;>omega) (be _) (λv18 ov18=>PS ?_));refine nx J3 (sr λ_ J4=>P2 ?_)
 refine cH (k:=1) (news:=eb (by')) (nn':=([(b8 from'),(b8 to')]++by':List UInt8).length) (xs':=eb ([(b8 from'),(b8 to')]++by')) (aa rfl) rfl rfl rfl gp yv rfl rfl rfl rfl rfl rfl (λ_ _=>hF.src (λ_ h=>ez h)) (eU _) (by simp only[maxLen,aj,ay,aD];omega) (by simp only[aj,ay,aD];omega) (by simp<;>omega) (iT _ _).symm (λv21 ov21=>CQ L1 (tJ v21 ([(b8 from'),(b8 to')]++by') (by simp only[aj,ay,aD];omega)) ID (λg d s=>Iy (sx 1 rfl rfl g d s)) λvR HR hR=>?_);have hR:=hR;subst hR;refine PS ?_;exact nx J4 (ai (WK [0] (au rfl rfl ⟨_,rfl,rfl⟩)))
theorem q6(f t:Int)(bs:List UInt8):(jg f t bs).length=bs.length+6:=by
 unfold jg;rw[ky];simp only[aj,ay,aD];omega
theorem xr(n:Nat)(W:List (List (List UInt8)))(from' to':Int)(x:Value)(by':List UInt8)(hb:by'.length≤3000)(hW:W.length=25):
 DT 204 #[(.pointer (some ⟨n,0,none⟩)),(.int .i64 (from')),(.int .i64 (to')),x] (IsW x by') [eu 156 208 5 n (W)] (RI (.bool (sj W from' to')) [eu 156 208 5 n (oB W from' to' (jg from' to' by'))]):=by
 refine BD 24 Tryz.func204 rfl rfl rfl λw0 F hF=>?_
 have hfl:(jg from' to' by').length≤1000000:=by rw[q6];omega
 refine sr λ_ J1=>PS ?_
 refine nx J1 (ab λ_ J2=>sr λ_ J3=>PS ?_);refine tp (iQ rfl Im rfl rfl) ?_;refine P2 ?_;refine tq (dF rfl gp rfl hF.len) ?_;refine PS ?_;refine an ?_ ?_<;>intro h14
 · exact absurd h14 (by omega)
 refine PS ?_;refine nx J3 (CN (qx J2 (sr λ_ J4=>?_)))
 iterate 6 refine PS ?_
 refine CQ N2 (Dx from' to' x by' (by omega)) ID (λ_ d _=>Nd hF d) λvR HR hR=>?_
 obtain⟨_,rfl,rfl⟩:=hR;revert vR;intro uf;refine CF Mh (zB n W from' to' uf (jg from' to' by') hfl hW) (SM [1]) (λg d s=>Iy (sx 0 rfl rfl g d s)) ?_;refine PS ?_;exact nx J4 (ai (WK [0] (au rfl rfl ⟨rfl,rfl⟩)))
theorem xt(from' to':Int)(x:Value)(by':List UInt8)(h0:0<by'.length)(hb:by'.length≤100000):
 DT 140 #[(.int .i64 (from')),(.int .i64 (to')),x] (IsW x (jg from' to' by')) [] (dm (λv H=>∃u,v= .tuple #[u, .bool true]∧H=[gx u by' 5])):=by
 refine BD 40 Tryz.func140 rfl rfl rfl λw0 F hF=>?_
 have hfl:(jg from' to' by').length≤1000000000:=by rw[q6];omega
 refine sr λ_ J1=>P2 ?_
 refine nx J1 (sr λ_ J2=>PS ?_);refine CQ JV (xY x (jg from' to' by') hfl) ID (λ_ d _=>Nd hF d) λvR HR hR=>?_
 rcases hR with⟨ht',_,_⟩| ⟨t,u,ht',rfl,rfl⟩
 · exact absurd ht' (by unfold jg;rw[qE];simp)
 obtain rfl:t=([b8 from',b8 to']++by'):=by unfold jg at ht';rw[qE]at ht';exact(dR ht').symm
 refine jO 0 rfl rfl (by simp) (λg cap hv hcap=>?_);have hv2:u= .slice (some ⟨g,0,none⟩) (by'.length+2) cap:=hv;refine P4 ?_;refine PS ?_;refine nx J2 (ab λ_ J3=>sr λ_ J4=>PS ?_);refine PS ?_;refine P2 ?_;refine tq (dF rfl gp rfl (by rw[hv2];exact⟨_,_,rfl⟩)) ?_;refine PS ?_;refine an ?_ ?_<;>intro h20
 · exact absurd h20 (by omega)
 refine P3 ?_;refine tq (bT (r:=0) hv2 rfl gp k0 rfl rfl (by omega) (by omega) rfl) ?_;refine tq (c7 (v:=(.int .u8 ((((b8 from').toNat:Nat):Int)))) rfl Y5 rfl rfl (fZ 0 rfl hv rfl) (qB (l:=([b8 from',b8 to']++by')) (j:=0) (by simp))) ?_;refine PS ?_;refine tq (el (r:=(((b8 from').toNat:Nat):Int)) rfl Y3 Y5 rfl (uS _)) ?_;refine PS ?_;refine an ?_ ?_<;>intro h28
 · exact absurd rfl h28
 refine P3 ?_;refine tq (bT (r:=1) hv2 rfl gp k0 rfl rfl (by omega) (by omega) rfl) ?_;refine tq (c7 (v:=(.int .u8 ((((b8 to').toNat:Nat):Int)))) rfl Y5 rfl rfl (fZ 0 rfl hv rfl) (qB (l:=([b8 from',b8 to']++by')) (j:=1) (by simp))) ?_;refine PS ?_;refine tq (el (r:=(((b8 to').toNat:Nat):Int)) rfl Y3 Y5 rfl (uS _)) ?_;refine PS ?_;refine an ?_ ?_<;>intro h36
 · exact absurd rfl h36
 refine PS ?_;refine nx J4 (CN (qx J3 (sr λ_ J5=>PS ?_)));refine tp (Oz (PV.sliceL (a:=some ⟨g,0,none⟩) (len:=by'.length+2) (cap:=cap) (lo:=2) rfl gp k0 (by rw[←hv2];rfl) rfl rfl (by omega)) (congrArg (λq=>jM q 2 (by'.length+2)) hv2.symm)) ?_;refine P2 ?_;exact nx J5 (ai (aF (H':=[gx (jM u 2 (by'.length+2)) by' 5]) (di _) (λ_ s=>vu 0 rfl rfl hv (by omega) (by simp) (by simp;omega) (by simp) s) (iw rfl rfl rfl ⟨_,rfl,rfl⟩)))
theorem wn(n:Nat)(bs:List Nat)(W:List (List (List UInt8)))(from' to':Int)(by':List UInt8)(ls:List (List UInt8))(hv:dG from' to'=true)(hW:W.length=25)(hk:W.getD (bB from' to') []=jg from' to' by'::ls)(h0:0<by'.length)(hb:by'.length≤100000):
 DT 103 #[(.pointer (some ⟨n,0,none⟩)),(.int .i64 (from')),(.int .i64 (to'))] T0 [ah n (dv bs) 156,eH 208 5 bs (W)] (dm (λv H=>∃u,v= .tuple #[u, .bool true]∧H=[ah n (dv bs) 156,eH 208 5 bs (W.set (bB from' to') ls),gx u by' 5])):=by
 refine BD 32 Tryz.func103 rfl rfl rfl λw0 F hF=>sr λ_ J1=>P2 ?_
 refine nx J1 (ab λ_ J2=>sr λ_ J3=>PS ?_);refine tp (iQ rfl Im rfl rfl) ?_;refine nx J3 (CN (qx J2 (sr λ_ J4=>P3 ?_)));refine CR Df (mD n bs from' to') ID λvR HR hR=>?_
 obtain⟨hw,rfl⟩:=hR;obtain⟨_,rfl⟩:dG from' to'=true∧vR= .pointer (some ⟨(bs.getD (bB from' to') 0),0,none⟩):=hw.resolve_right (λq=>by rw[hv]at q;cases q.1)
 refine PS ?_;refine nx J4 (ab λ_ J5=>sr λ_ J6=>PS ?_);refine tp (iQ rfl w4 rfl rfl) ?_;refine nx J6 (CN (qx J5 (sr λ_ J7=>PS ?_)));refine cr (H':=[gF 208 5 (bs.getD (bB from' to') 0) (W.getD (bB from' to') []),fp 208 5 bs W (bB from' to'),ah n (dv bs) 156]) (λ_ s=>nD hv (aC [1] rfl s)) (CR Kb (sI (bs.getD (bB from' to') 0) (W.getD (bB from' to') [])) ID λvR HR hR=>?_);rcases hR with⟨he,_,_⟩| ⟨u,f,ls',he,rfl,rfl⟩
 · rw[he]at hk;cases hk
 rw[hk]at he;obtain⟨rfl,rfl⟩:=List.cons.inj he;refine P4 ?_;refine PS ?_;refine nx J7 (ab λ_ J8=>sr λ_ J9=>PS ?_);refine PS ?_;refine nx J9 (CN (qx J8 (sr λ_ J10=>P3 ?_)));refine CQ ME (xt from' to' u by' h0 hb) ID (λg d s=>Iy (zJ 1 rfl rfl g d s)) λvR HR hR=>?_
 obtain⟨uv,rfl,rfl⟩:=hR;refine P4 ?_;exact nx J10 (ai (aF (H':=[ah n (dv bs) 156,eH 208 5 bs (W.set (bB from' to') ls),gx uv by' 5]) (di _) (λ_ s=>aC [1,0] rfl (sV hv hW (ak [1,2,2,0] rfl s))) (iw rfl rfl rfl ⟨_,rfl,rfl⟩)))
theorem qn(n:Nat)(W:List (List (List UInt8)))(from' to':Int)(by':List UInt8)(ls:List (List UInt8))(hv:dG from' to'=true)(hW:W.length=25)(hk:W.getD (bB from' to') []=jg from' to' by'::ls)(h0:0<by'.length)(hb:by'.length≤100000):DT 103 #[.pointer (some ⟨n,0,none⟩), .int .i64 from', .int .i64 to'] T0 [eu 156 208 5 n W] (dm (λv H=>∃u,v= .tuple #[u, .bool true]∧H=[eu 156 208 5 n (W.set (bB from' to') ls),gx u by' 5])):=
 Leg.Does.pack (B:=[]) λbs=>Leg.Does.fold (wn n bs W from' to' by' ls hv hW hk h0 hb) λe H hp=>by
  cases e with
  |returned v=>
   obtain⟨u,rfl,rfl⟩:=hp;exact⟨[eu 156 208 5 n (W.set (bB from' to') ls),gx u by' 5],λ_ s=>bj (p:=λbs:List Nat=>[ah n (dv bs) 156,eH 208 5 bs (W.set (bB from' to') ls)]) (H:=[gx u by' 5]) bs s,u,rfl,rfl⟩
  |panicked c=>exact hp.elim
  |outgrown=>exact hp.elim
end Go.Proofs.YtjblgopghhgflaaGreat
end

section
namespace Leg
open Go Codec Api
section
variable {P:Program} {n:Nat} {D:List Deferred} {L:List (Nat×Value)} {S:World→Prop} {o:Oper}
theorem PV.ptrNeIf{c:Prop}[Decidable c]{t t':TypeId}{x y:Operand}{a:Addr}(ho:o.op= .binOp .neq t x y t')(ht:P.underlying t=some (.pointer (P.pointee t)))(hx:cG L x=some (if c then .pointer none else .pointer (some a)))(hy:cG L y=some (.pointer none)):PV P n D L S o (.bool (!decide c)):=by
 by_cases h:c
 · rw[if_pos h]at hx;rw[decide_eq_true h];exact gJ ho ht hx hy
 · rw[if_neg h]at hx;rw[decide_eq_false h];exact fS ho ht hx hy
end
abbrev Hg(bs:List Nat)(k:Nat):Value:=if k%6=0 then .pointer none else .pointer (some ⟨bs.getD k 0,0,none⟩)
def rX(bs:List Nat)(i:Nat):List Value:=(List.range 5).map λj=>Hg bs (i*5+j)
theorem nM(bs:List Nat)(i:Nat):(rX bs i).length=5:=by simp[rX]
theorem G7(bs:List Nat)(i:Nat): ∀v∈rX bs i,v.oneCell'=true:=by
 intro v hv;simp only[rX,eS]at hv;obtain⟨j,_,rfl⟩:=hv;show(if _ then _ else _:Value).oneCell'=true;split<;>rfl
theorem Eo(bs:List Nat)(i:Nat){j:Nat}(h:j<5):(rX bs i)[j]?=some (Hg bs (i*5+j)):=by simp[rX,h]
theorem G8(bs:List Nat){i:Nat}(h:i<5):((dv bs).drop (i*5)).take 5=rX bs i:=by
 refine List.ext_getElem? λj=>?_
 by_cases hj:j<5
 · rw[List.getElem?_take_of_lt hj,List.getElem?_drop,Bc bs (by omega),Eo bs i hj]
 · rw[List.getElem?_eq_none (by rw[bn];omega),List.getElem?_eq_none (by rw[nM];omega)]
def lB(W:List (List (List UInt8)))(k:Nat):Nat:=((List.range k).map λq=>if q%6=0 then 0 else(W.getD q []).length).sum
theorem qS(W:List (List (List UInt8)))(k:Nat):lB W (k+1)=lB W k+(if k%6=0 then 0 else(W.getD k []).length):=by simp[lB,cR]
def lu(bs:List Nat):List Value:=(List.range 25).map λq=>if q%6=0∨bs.length≤q then .pointer none else .pointer (some ⟨bs.getD q 0,0,none⟩)
theorem yi(bs:List Nat):(lu bs).length=25:=by simp[lu]
theorem FQ{bs:List Nat}{b:Nat}(h:bs.length<25)(hd: ¬bs.length%6=0):(lu bs).set bs.length (.pointer (some ⟨b,0,none⟩))=lu (bs++[b]):=by
 refine List.ext_getElem? λj=>?_
 by_cases hj:j=bs.length
 · subst hj
   rw[List.getElem?_set_self (by rw[yi];exact h)];simp[lu,h,hd,List.getD_eq_getElem?_getD]
 · rw[List.getElem?_set_ne (λe=>hj e.symm)]
   simp only[lu,List.getElem?_map];cases hr:(List.range 25)[j]?with
   |none=>rfl
   |some q=>
    have hq:q=j:=by
     by_cases h25:j<25
     · simp[h25]at hr;exact hr.symm
     · simp[h25]at hr
    subst hq;simp only[Option.map_some,aj,ay,aD];congr 1
    by_cases hlt:q<bs.length
    · simp[show ¬bs.length≤q by omega,show ¬bs.length+1≤q by omega,List.getElem?_append_left hlt]
    · simp[show bs.length≤q by omega,show bs.length+1≤q by omega]
theorem Db{bs:List Nat}{b:Nat}(hd:bs.length%6=0):lu (bs++[b])=lu bs:=by
 unfold lu;refine dd λq hq=>?_
 rw[aj,gi]
 by_cases hq6:q%6=0
 · simp[hq6]
 · by_cases hlt:q<bs.length
   · simp[hq6,show ¬bs.length≤q by omega,show ¬bs.length+1≤q by omega,List.getElem?_append_left hlt]
   · have: ¬q=bs.length:=λe=>hq6 (by rw[e];exact hd)
     simp[show bs.length≤q by omega,show bs.length+1≤q by omega]
theorem FR{bs:List Nat}(h:bs.length=25):lu bs=dv bs:=by
 unfold lu dv;refine dd λq hq=>?_
 rw[eY]at hq;simp[show ¬bs.length≤q by omega]
def oI(T U:Nat)(bs:List Nat)(q:Nat):HP:=if q%6=0 then(λ_=>True)else gF T U (bs.getD q 0) []
def j8(T U:Nat)(bs:List Nat):HP:=bE ((List.range bs.length).map (oI T U bs))
theorem D4(T U:Nat){H:List HP}{h:Hl}(s:bE H h):bE (j8 T U []::H) h:=⟨em,h,Cn h,(qq h).symm,trivial,s⟩
theorem D5(T U:Nat)(bs:List Nat)(b:Nat):(List.range bs.length).map (oI T U (bs++[b]))=(List.range bs.length).map (oI T U bs):=
 dd λq hq=>by
  rw[eY]at hq;unfold oI;rw[show(bs++[b]).getD q 0=bs.getD q 0 by simp[List.getElem?_append_left hq]]
theorem uo(T U:Nat)(bs:List Nat)(b:Nat){H:List HP}{h:Hl}(s:bE (oI T U (bs++[b]) bs.length::j8 T U bs::H) h):bE (j8 T U (bs++[b])::H) h:=by
 have e:(List.range (bs++[b]).length).map (oI T U (bs++[b]))=(List.range bs.length).map (oI T U bs)++[oI T U (bs++[b]) bs.length]:=by
  rw[aj,gi,cR,cS,D5];rfl
 obtain⟨h1,h2,d,rfl,a,b'⟩:=s;have s2:bE ((oI T U (bs++[b]) bs.length::(List.range bs.length).map (oI T U bs))++H) (jn h1 h2):=⟨h1,h2,d,rfl,a,(bX _ _).2 b'⟩;have p:((oI T U (bs++[b]) bs.length::(List.range bs.length).map (oI T U bs))++H).Perm (((List.range bs.length).map (oI T U bs)++[oI T U (bs++[b]) bs.length])++H):=(List.perm_append_comm (l₁:=[oI T U (bs++[b]) bs.length])).append_right H;have s3:=eg p s2;rw[←e]at s3;exact(bX _ _).1 s3
theorem Ca(T U:Nat)(bs:List Nat)(hd:bs.length%6=0){H:List HP}{h:Hl}(s:bE (j8 T U bs::H) h):bE (j8 T U (bs++[0])::H) h:=by
 refine uo T U bs 0 ⟨em,h,Cn h,(qq h).symm,?_,s⟩;unfold oI;rw[if_pos hd];trivial
theorem D6{T U:Nat}{bs:List Nat}(h:bs.length=25):j8 T U bs=eH T U bs (List.replicate 25 []):=by
 unfold j8 eH oZ;rw[h];refine congrArg bE ?_;refine dd λq hq=>?_
 rw[eY]at hq;unfold oI qv;rw[show(List.replicate 25 ([]:List (List UInt8))).getD q []=[]by rw[List.getD_eq_getElem?_getD,List.getElem?_replicate,if_pos hq];rfl]
theorem If{T U:Nat}{bs:List Nat}{W:List (List (List UInt8))}{k:Nat}(h6: ¬k%6=0)(hk:k<25){H:List HP}{h:Hl}(s:bE (eH T U bs W::H) h):bE (gF T U (bs.getD k 0) (W.getD k [])::fp T U bs W k::H) h:=by
 have:=wQ hk s
 rwa [qd h6]at this
theorem Ie{T U:Nat}{bs:List Nat}{W:List (List (List UInt8))}{k:Nat}(h6: ¬k%6=0)(hk:k<25){H:List HP}{h:Hl}(s:bE (gF T U (bs.getD k 0) (W.getD k [])::fp T U bs W k::H) h):bE (eH T U bs W::H) h:=by
 refine um (W:=W) hk (λ_ _=>rfl) ?_;rw[qd h6];exact s
end Leg
end

section
namespace Go.Proofs.YtjblgopghhgflaaGreat
open Go Leg Codec Api Dsk Wal
theorem zC(n:Nat)(bs:List Nat)(W:List (List (List UInt8)))(hsm: ∀k,k<25→lB W k+(W.getD k []).length≤1000000000):
 DT 66 #[(.pointer (some ⟨n,0,none⟩))] T0 [ah n (dv bs) 156,eH 208 5 bs (W)] (RI (.int .i64 ((lB W 25:Nat):Int)) [ah n (dv bs) 156,eH 208 5 bs W]):=by
 refine BD 28 Tryz.func66 rfl rfl rfl λw0 F hF=>sr λ_ J1=>PS ?_
 refine nx J1 (sr λ_ J2=>PS ?_);refine nx J2 (ab λ_ J3=>sr λ_ J4=>P2 ?_);refine FA 0 Tryz.underlying156 Eg ?_;refine tp (aN (vs:=dv bs) rfl Jy rfl Eg rfl (RO 0) (yh bs) (ve (yh bs))) ?_;refine PS ?_;refine nx J4 (aq ?_)
 refine bp (α:=(Nat)) (λi=>i≤5) (λi=>[(2,(.int .i64 0)),(3,(.int .i64 (((lB W (i*5):Nat):Int)))),(11,(.agg (dv bs).toArray)),(12,(.int .i64 (((i:Nat):Int))))]) (λi=>[ah n (dv bs) 156,eH 208 5 bs (W)]) (λi=>5-i) 0
  (aO _) SB
  (λ_ s=>s) (λi hinv=>?_)
 obtain hi:=hinv;refine sr λ_ J5=>PS ?_
 refine an ?_ ?_<;>intro h13;refine nx J5 (ab λ_ J6=>CY (qx J6 (ab λ_ J7=>aq (sr λ_ J8=>tp (OC (cs:=dv bs) (vs:=rX bs i) (r:=i*5) rfl Jy Io rfl AE rfl rfl (by omega) (by omega) (by omega) (G8 bs (by omega))) ?_))));refine XA Ny λb5=>?_
 refine bJ (vs:=rX bs i) (i:=0) (aa rfl) rfl rfl rfl rfl rfl (by rw[nM bs i];exact AE) (G7 bs i) rfl rfl (by rw[nM bs i];exact aK _) (fD (Eq.trans (rfl:_=5) (by rw[nM bs i]:(rX bs i).length=5).symm)) rfl (nx J8 (sr λ_ J9=>tp (aN (vs:=rX bs i) rfl Io rfl AE rfl (RO 0) (nM bs i) (ve (nM bs i))) ?_));refine PS ?_;refine nx J9 (aq ?_)
 refine bp (α:=(Nat)) (λj=>j≤5) (λj=>[(2,(.int .i64 0)),(3,(.int .i64 (((lB W (i*5+j):Nat):Int)))),(11,(.agg (dv bs).toArray)),(12,(.int .i64 (((i:Nat):Int)))),(15,(.agg (rX bs i).toArray)),(16,(.int .i64 (((j:Nat):Int))))]) (λj=>[ah n (dv bs) 156,eH 208 5 bs (W)]) (λj=>5-j) 0
  (aO _) SB
  (λ_ s=>ak [1,1] rfl s) (λj hinv=>?_)
 obtain hj:=hinv;refine sr λ_ J10=>PS ?_
 refine an ?_ ?_<;>intro h17;refine nx J10 (ab λ_ J11=>CY (qx J11 (ab λ_ J12=>aq (sr λ_ J13=>tp (jQ (cs:=rX bs i) (v:=Hg bs (i*5+j)) (r:=j) rfl Io w4 rfl Eh rfl rfl (by omega) (by omega) (by omega) (Eo bs i (by omega))) ?_))));refine PS ?_;refine nx J13 (sr λ_ J14=>PS ?_);refine tp (PV.ptrNeIf rfl w4 rfl rfl) ?_;refine aX ?_ ?_<;>intro h20;have h20: ¬((i*5+j)%6=0):=by simpa using h20
 refine TL.weak (L':=[(2,(.int .i64 0)),(3,(.int .i64 (((lB W (i*5+j):Nat):Int)))),(7,(.pointer (some ⟨(bs.getD (i*5+j) 0),0,none⟩))),(11,(.agg (dv bs).toArray)),(12,(.int .i64 (((i:Nat):Int)))),(15,(.agg (rX bs i).toArray)),(16,(.int .i64 (((j:Nat):Int)))),(17,(.bool true)),(18,(Hg bs (i*5+j))),(19,(Hg bs (i*5+j))),(20,(.bool true))]) (bg rfl rfl (bg rfl rfl (bg rfl (if_neg h20) (bg rfl rfl (bg rfl rfl (bg rfl rfl (bg rfl rfl (bg rfl rfl (bg rfl rfl (bg rfl rfl (bg rfl rfl SB))))))))))) (λ_ s=>s) (cr (H':=[gF 208 5 (bs.getD (i*5+j) 0) (W.getD (i*5+j) []),fp 208 5 bs W (i*5+j),ah n (dv bs) 156]) (λ_ s=>If h20 (by omega) (aC [1] rfl s)) (nx J14 (CY (ad (P2 ?_)))));refine CE tV (jj (bs.getD (i*5+j) 0) (W.getD (i*5+j) [])) ID ?_;refine tp (ci (r:=((lB W (i*5+j)+(W.getD (i*5+j) []).length:Nat):Int)) rfl rfl rfl (by rw[←Int.natCast_add];exact bI (by omega) (by have:=hsm (i*5+j) (by omega);omega))) ?_;refine PS ?_;refine ap (af (ac J12 (ad (AD ?_))));refine PS ?_;refine ap ?_
 exact aI ((j+1):(Nat)) (by omega) (by show 5- (j+1)<5-j;omega)
  (aM (bg rfl (by rw[show lB W (i*5+(j+1))=lB W (i*5+j)+(W.getD (i*5+j) []).length from by rw[←mW,qS,if_neg h20]]) SB))
  (λ_ s=>aC [1,0] rfl (Ie h20 (by omega) (ak [0,0,0] rfl s)))
 refine nx J14 (CN (aR (af (ac J12 (ad (AD ?_))))));refine PS ?_;refine ap ?_
 exact aI ((j+1):(Nat)) (by omega) (by show 5- (j+1)<5-j;omega)
  (aM (bg rfl (by rw[show lB W (i*5+(j+1))=lB W (i*5+j)from by rw[←mW,qS,if_pos (by simpa using h20),Iw]]) SB))
  (λ_ s=>s)
 refine nx J10 (ab λ_ J15=>CN (aW (az (az (bm (af (ac J7 (ad (AD ?_)))))))));refine PS ?_;refine ap ?_
 exact aI ((i+1):(Nat)) (by omega) (by show 5- (i+1)<5-i;omega)
  (aM (bg rfl (by rw[show(i+1)*5=i*5+j by omega]) SB))
  (λ_ s=>s)
 refine nx J5 (ab λ_ J16=>CN (aW (az (az (bm (ac J3 (sr λ_ J17=>P2 ?_)))))));refine nx J17 (ai (WK [0,0] (au rfl rfl ?_)));exact⟨by rw[show i*5=25 by omega],rfl⟩
theorem Bn(n:Nat)(W:List (List (List UInt8)))(hsm: ∀k,k<25→lB W k+(W.getD k []).length≤1000000000):DT 66 #[.pointer (some ⟨n,0,none⟩)] T0 [eu 156 208 5 n W] (RI (.int .i64 ((lB W 25:Nat):Int)) [eu 156 208 5 n W]):=
 Leg.Does.pack (B:=[]) λbs=>Leg.Does.fold (zC n bs W hsm) λe H hp=>by
  cases e with
  |returned v=>
   obtain⟨rfl,rfl⟩:=hp;exact⟨[eu 156 208 5 n W],λ_ s=>bj (p:=λbs:List Nat=>[ah n (dv bs) 156,eH 208 5 bs W]) (H:=[]) bs s,rfl,rfl⟩
  |panicked c=>exact hp.elim
  |outgrown=>exact hp.elim
theorem Ig{T U:Nat}{bs:List Nat}{b:Nat}(h: ¬bs.length%6=0):oI T U (bs++[b]) bs.length=gF T U b []:=by
 unfold oI;rw[if_neg h,List.getD_eq_getElem?_getD,List.getElem?_append_right (aK _),xO];rfl
theorem D7{T U:Nat}{bs:List Nat}{b:Nat}(hl: ¬bs.length%6=0){H:List HP}{h:Hl}(s:bE (gF T U b []::j8 T U bs::H) h):bE (j8 T U (bs++[b])::H) h:=uo T U bs b (by rw[Ig hl];exact s)
theorem Bm:
 DT 53 #[] T0 [] (dm (λv H=>∃n,v= .pointer (some ⟨n,0,none⟩)∧H=[eu 156 208 5 n (List.replicate 25 [])])):=by
 refine Leg.Does.body (vs:=[]) (n:=26) Tryz.func53 rfl rfl rfl (λw0 F hF=>?_);refine sr λ_ J1=>?_
 refine pa ?_;refine nx J1 ?_;refine sr λ_ J2=>?_
 refine tp (jR (cells:=#[(.pointer none),(.pointer none),(.pointer none),(.pointer none),(.pointer none),(.pointer none),(.pointer none),(.pointer none),(.pointer none),(.pointer none),(.pointer none),(.pointer none),(.pointer none),(.pointer none),(.pointer none),(.pointer none),(.pointer none),(.pointer none),(.pointer none),(.pointer none),(.pointer none),(.pointer none),(.pointer none),(.pointer none),(.pointer none)]) rfl rfl (by as_aux_lemma=>kernel_rfl)) ?_;refine TL.box (aa rfl) rfl rfl rfl rfl (λb5=>?_);change TL _ _ _ _ _ _ _ _ _ [ah b5 [(.pointer none),(.pointer none),(.pointer none),(.pointer none),(.pointer none),(.pointer none),(.pointer none),(.pointer none),(.pointer none),(.pointer none),(.pointer none),(.pointer none),(.pointer none),(.pointer none),(.pointer none),(.pointer none),(.pointer none),(.pointer none),(.pointer none),(.pointer none),(.pointer none),(.pointer none),(.pointer none),(.pointer none),(.pointer none)] 156];refine pa ?_;refine nx J2 ?_;refine ab λ_ J3=>?_
 refine sr λ_ J4=>?_
 refine mv ?_;refine nx J4 ?_;refine aq ?_
 refine bp (α:=(Nat)×(List Nat)) (λ⟨i,bs⟩=>i≤5∧bs.length=i*5) (λ⟨i,bs⟩=>[(0,(.pointer none)),(1,(.pointer (some ⟨b5,0,none⟩))),(6,(.int .i64 (((i:Nat):Int))))]) (λ⟨i,bs⟩=>[ah b5 (lu (bs)) 156,j8 208 5 (bs)]) (λ⟨i,bs⟩=>5-i) (0,[])
  ⟨aO _,rfl⟩ (aM (aM (bg rfl (by congr 1) (m3 _))))
  (λ_ s=>aC [1,0] rfl (D4 208 5 s)) (λ⟨i,bs⟩ hinv=>?_)
 obtain⟨hi,hbs⟩:=hinv;refine sr λ_ J5=>?_
 refine tp (JE rfl rfl rfl) ?_;refine an (λh7=>?_) (λh7=>?_);refine nx J5 ?_;refine ab λ_ J6=>?_
 refine iO rfl ?_;refine aR ?_;refine ac J6 ?_;refine ab λ_ J7=>?_
 refine aq ?_;refine sr λ_ J8=>?_
 refine mv ?_;refine pa ?_;refine nx J8 ?_;refine sr λ_ J9=>?_
 refine mv ?_;refine nx J9 ?_;refine aq ?_
 refine bp (α:=(Nat)×(List Nat)) (λ⟨j,bs2⟩=>j≤5∧bs2.length=i*5+j) (λ⟨j,bs2⟩=>[(0,(.pointer none)),(1,(.pointer (some ⟨b5,0,none⟩))),(2,(.int .i64 (((i:Nat):Int)))),(6,(.int .i64 (((i:Nat):Int)))),(9,(.int .i64 (((j:Nat):Int))))]) (λ⟨j,bs2⟩=>[ah b5 (lu (bs2)) 156,j8 208 5 (bs2)]) (λ⟨j,bs2⟩=>5-j) (0,bs)
  ⟨aO _,hbs⟩ (aM (aM (aM (aM (bg rfl (by congr 1) (m3 _))))))
  (λ_ s=>s) (λ⟨j,bs2⟩ hinv=>?_)
 obtain⟨hj,hbl⟩:=hinv;refine sr λ_ J10=>?_
 refine tp (JE rfl rfl rfl) ?_;refine an (λh10=>?_) (λh10=>?_);refine nx J10 ?_;refine ab λ_ J11=>?_
 refine iO rfl ?_;refine aR ?_;refine ac J11 ?_;refine ab λ_ J12=>?_
 refine aq ?_;refine sr λ_ J13=>?_
 refine mv ?_;refine pa ?_;refine nx J13 ?_;refine sr λ_ J14=>?_
 refine mv ?_;refine mv ?_;refine tp (PV.neq rfl rfl rfl) ?_;refine an (λh14=>?_) (λh14=>?_);refine nx J14 ?_;refine iO rfl ?_;refine n8 (λw=>Frm F w∧True) dB rfl (λ_ s=>⟨ez s,trivial⟩) ?_;refine ta 0 rfl (ck rfl rfl) ?_;refine ta 1 rfl (ck rfl rfl) ?_;refine ta 2 rfl (ck rfl rfl) ?_;refine ta 4 rfl (fX rfl rfl) ?_;refine ta 5 rfl (aY (r:=0) rfl Tryz.underlying156 rfl Eg rfl rfl) ?_;refine ta 6 rfl (eL (r:=i*5) rfl Jy AE rfl rfl (by omega) (by omega) (by omega)) ?_;refine cx [3] (by kernel_rfl) rfl ?_;refine aE rfl ?_ ?_;refine gV (A:=[]) (aa rfl) rfl rfl rfl NP rfl (Cb) (λ_ s=>s) (λ_ _ _=>trivial) (λvR HR hR=>?_);obtain⟨bx,rfl,rfl⟩:=hR;change TL _ _ _ _ _ _ _ _ _ [gF 208 5 bx [],ah b5 (lu (bs2)) 156,j8 208 5 (bs2)];refine ap ?_;refine mZ (λ_ s=>⟨ez s,trivial⟩) ?_;refine ta 7 rfl (eL (r:=i*5+j) rfl Io Eh rfl rfl (by omega) (by omega) (by omega)) ?_;refine cx [8] (by kernel_rfl) rfl ?_;refine aE rfl ?_ ?_;refine bD (i:=1) (H':=[gF 208 5 bx [],ah b5 (lu (bs2++[bx])) 156,j8 208 5 (bs2)]) (aa rfl) rfl rfl rfl rfl rfl Eh rfl rfl (by rw[yi];omega) (by rw[show i*5+j=bs2.length by omega];exact FQ (by omega) (by omega)) rfl ?_;refine ap ?_;refine mZ (λ_ s=>⟨ez s,trivial⟩) ?_;refine OE (by kernel_rfl) ?_;refine af ?_;refine ac J12 ?_;refine ad ?_;refine tp (ci rfl rfl rfl (bI (by omega) (by omega))) ?_;refine mv ?_;refine ap ?_
 exact aI ((j+1,bs2++[bx]):(Nat)×(List Nat)) ⟨by omega,by rw[aj,gi];omega⟩ (by show 5- (j+1)<5-j;omega)
  (aM (aM (aM (aM (bg rfl (by simp) (m3 _))))))
  (λ_ s=>show bE [ah b5 (lu (bs2++[bx])) 156,j8 208 5 (bs2++[bx])] _ from aC [1,0] rfl (D7 (by omega) (ak [0,1,0] rfl s)))
 exact bz;exact bz;refine nx J14 ?_;refine sO rfl ?_;refine aR ?_;refine af ?_;refine ac J12 ?_;refine ad ?_;refine tp (ci rfl rfl rfl (bI (by omega) (by omega))) ?_;refine mv ?_;refine ap ?_
 exact aI ((j+1,bs2++[0]):(Nat)×(List Nat)) ⟨by omega,by rw[aj,gi];omega⟩ (by show 5- (j+1)<5-j;omega)
  (aM (aM (aM (aM (bg rfl (by simp) (m3 _))))))
  (λ_ s=>show bE [ah b5 (lu (bs2++[0])) 156,j8 208 5 (bs2++[0])] _ by rw[Db (by omega)];exact aC [1,0] rfl (Ca 208 5 bs2 (by omega) (aC [1,0] rfl s)))
 refine nx J10 ?_;refine ab λ_ J15=>?_
 refine sO rfl ?_;refine aW ?_;refine az ?_;refine az ?_;refine bm ?_;refine af ?_;refine ac J7 ?_;refine ad ?_;refine tp (ci rfl rfl rfl (bI (by omega) (by omega))) ?_;refine mv ?_;refine ap ?_
 exact aI ((i+1,bs2):(Nat)×(List Nat)) ⟨by omega,by omega⟩ (by show 5- (i+1)<5-i;omega)
  (aM (aM (bg rfl (by simp) (m3 _))))
  (λ_ s=>s)
 refine nx J5 ?_;refine ab λ_ J16=>?_
 refine sO rfl ?_;refine aW ?_;refine az ?_;refine az ?_;refine bm ?_;refine ac J3 ?_;refine sr λ_ J17=>?_
 refine mv ?_;refine pa ?_;refine nx J17 ?_;refine ai ?_;refine aF (H':=[eu 156 208 5 b5 (List.replicate 25 [])]) (di _) (λ_ s=>bj (p:=λbs:List Nat=>[ah b5 (dv bs) 156,eH 208 5 bs (List.replicate 25 [])]) (H:=[]) bs (by rw[←FR (by omega),←D6 (by omega)];exact s)) ?_;refine au rfl rfl ?_;exact⟨b5,rfl,rfl⟩
end Go.Proofs.YtjblgopghhgflaaGreat
end

section
namespace Leg
open Go Codec Api
def eG(n:Nat)(D M P:Nat→Value):List Value:= .pointer (some ⟨n,0,none⟩)::((List.range 5).map D++((List.range 5).map M++(List.range 5).map P))
section
variable (n:Nat) (D M P:Nat→Value) {i:Nat}
theorem ra:(eG n D M P).length=16:=by simp[eG]
theorem zX:(eG n D M P)[0]?=some (.pointer (some ⟨n,0,none⟩)):=rfl
theorem B5(h:i<5):(eG n D M P)[1+i]?=some (D i):=by
 rw[lZ,eG,List.getElem?_cons_succ,List.getElem?_append_left (by simpa using h)];simp[h]
theorem wM(h:i<5):(eG n D M P)[6+i]?=some (M i):=by
 rw[show 6+i=(5+i)+1 by omega,eG,List.getElem?_cons_succ,List.getElem?_append_right (by simp),List.getElem?_append_left (by simp;omega)];simp[h]
theorem M1(h:i<5):(eG n D M P)[11+i]?=some (P i):=by
 rw[show 11+i=(10+i)+1 by omega,eG,List.getElem?_cons_succ,List.getElem?_append_right (by simp;omega),List.getElem?_append_right (by simp;omega)];simp only[bU,oc];rw[show 10+i-5-5=i by omega];simp[h]
end
def kL{α:Type}(f:Nat→α)(i:Nat)(v:α):Nat→α:=λj=>if j=i then v else f j
theorem iS{α:Type}(f:Nat→α)(i:Nat)(v:α):kL f i v i=v:=if_pos rfl
theorem mF{α:Type}(f:Nat→α){i j:Nat}(v:α)(h:j≠i):kL f i v j=f j:=if_neg h
theorem zH{α:Type}(f:Nat→α){i k:Nat}(h:i<k)(v:α):((List.range k).map f).set i v=(List.range k).map (kL f i v):=by
 refine List.ext_getElem? λj=>?_
 by_cases hj:j=i
 · subst hj
   rw[List.getElem?_set_self (by simpa using h)];simp[h,iS]
 · rw[List.getElem?_set_ne (λe=>hj e.symm)]
   by_cases hk:j<k
   · simp[hk,mF f v hj]
   · simp[hk]
section
variable (n:Nat) (D M P:Nat→Value) {i:Nat} (v:Value)
theorem Jt(h:i<5):(eG n D M P).set (1+i) v=eG n (kL D i v) M P:=by
 rw[lZ,eG,bO,p2 _ _ (by simpa using h),zH D h];rfl
theorem uQ(h:i<5):(eG n D M P).set (6+i) v=eG n D (kL M i v) P:=by
 rw[show 6+i=(5+i)+1 by omega,eG,bO,gh _ _ (by simp),p2 _ _ (by simp;omega)];simp only[bU,oc];rw[show 5+i-5=i by omega,zH M h];rfl
theorem EX(h:i<5):(eG n D M P).set (11+i) v=eG n D M (kL P i v):=by
 rw[show 11+i=(10+i)+1 by omega,eG,bO,gh _ _ (by simp;omega),gh _ _ (by simp;omega)];simp only[bU,oc];rw[show 10+i-5-5=i by omega,zH P h];rfl
end
abbrev LP(c i:Nat):Value:= .agg #[.pointer (some ⟨c,0,none⟩), .int .i64 ((i:Nat):Int)]
end Leg
namespace Go.Proofs.YtjblgopghhgflaaGreat
open Go Leg Codec Api Dsk Wal
section
variable {CT NT BT U c n d i:Nat} {D M P:Nat→Value} {W:List (List (List UInt8))} {recs:List (List UInt8)} {l:List SaidT} {H:List HP} {h:Hl}
end
end Go.Proofs.YtjblgopghhgflaaGreat
end

section
namespace Api
open Go Leg Codec Dsk Wal
structure MS(δ:Type) where
 id:Int
 view:ViewT
 own:RowT
 mirror:MirT
 acc:AccT
 round:Int
 vote:Option VoteT
 book:BookT
 busy:Bool
 kept:Int
 waits:Int
 ops:Int
 replies:List ReplyT
 told:Vector Int 5
 last:Vector RowT 5
 e:δ
 o:List SaidT
structure Adr where
 lg:Nat
 vo:Value
 rs:Value
structure Dk(δ:Type) where
 pt:δ→List UInt8→δ×Int
 dn:δ→Bool
 ok:δ→Prop
 sure: ∀(e:δ) (bs:List UInt8),ok e→bs.length≤3000→ok (pt e bs).1
variable {δ:Type}
abbrev MS.rep(s:MS δ)(a:Adr):RepT:=⟨s.id, .pointer (some ⟨a.lg,0,none⟩),s.view,s.own,s.mirror,s.acc,s.round,a.vo,s.book,s.busy,s.kept,s.waits,s.ops,a.rs,s.told,s.last⟩
def MS.setView(s:MS δ)(v:ViewT):MS δ:= {s with view:=v}
def MS.setOwn(s:MS δ)(v:RowT):MS δ:= {s with own:=v}
def MS.setAcc(s:MS δ)(v:AccT):MS δ:= {s with acc:=v}
def MS.setRound(s:MS δ)(v:Int):MS δ:= {s with round:=v}
def MS.setBusy(s:MS δ)(v:Bool):MS δ:= {s with busy:=v}
def MS.setKept(s:MS δ)(v:Int):MS δ:= {s with kept:=v}
def MS.setWaits(s:MS δ)(v:Int):MS δ:= {s with waits:=v}
def MS.setOps(s:MS δ)(v:Int):MS δ:= {s with ops:=v}
def MS.setTold(s:MS δ)(v:Vector Int 5):MS δ:= {s with told:=v}
def MS.setLast(s:MS δ)(v:Vector RowT 5):MS δ:= {s with last:=v}
def Adr.nil:Adr:=⟨0, .pointer none, .slice none 0 0⟩
def cW(w:Int):Int:=IntKind.i64.wrap (1*2^min w.toNat IntKind.i64.bits)
def Bs(a b:BallotT):Bool:=if a.round≠b.round then decide (a.round<b.round)else decide (a.who<b.who)
def yM(a:AccT)(ep:Int)(b:BallotT):Bool:=decide (ep≠a.epoch)||(decide (b.round<1)||Bs b a.vow)
def bQ(a:AccT)(ep:Int)(b:BallotT):AccT×Bool:=if yM a ep b then(a,false)else({a with vow:=b},true)
def gn(a:AccT)(ep:Int)(b:BallotT)(c:ChangeT):AccT×Bool:=if yM a ep b then(a,false)else({a with vow:=b,had:=b,change:=c},true)
def kO(bits:Int)(k:Nat):List Int:=((List.range k).filter λi:Nat=>GC bits ((i:Nat):Int)).map λi:Nat=>((i:Nat):Int)
def CS(bits:Int):List Int:=kO bits 5
def Kl(part all:Int):Bool:=decide (2* (((CS (sL .i64 part all)).length:Nat):Int)>(((CS all).length:Nat):Int))
def gy(v:ViewT)(bits:Int):Bool:=Kl bits v.members
def jW(v:ViewT)(b:BallotT)(c:ChangeT):VoteT:= {VoteT.zero with view:=v,ballot:=b,change:=c}
def np(v:VoteT)(who:Int)(b:BallotT):Bool:=decide (b.flat=v.ballot.flat)&&iK v.view who
def va(v:VoteT)(who:Int)(had:BallotT)(c:ChangeT):VoteT:=
 if decide (0<had.round)&&Bs v.best had then {v with vowed:=iz .i64 v.vowed (cW who),best:=had,change:=c}else {v with vowed:=iz .i64 v.vowed (cW who)}
def eP(v:VoteT)(who:Int)(b had:BallotT)(c:ChangeT):VoteT×Bool:=
 if v.putting|| !np v who b then(v,false)else({va v who had c with putting:=gy v.view (iz .i64 v.vowed (cW who))},gy v.view (iz .i64 v.vowed (cW who)))
def gm(v:VoteT)(who:Int)(b:BallotT):VoteT×Bool:=
 if !v.putting|| !np v who b then(v,false)else({v with took:=iz .i64 v.took (cW who)},gy v.view (iz .i64 v.took (cW who)))
def oq(x:RowT)(who v:Int)(l:Vector CellT 4):RowT:=if h:cI who=true then {x with heir:=x.heir.set who.toNat v (fl h),left:=x.left.set who.toNat l (fl h)}else x
def wo(x:RowT)(who:Int):Vector CellT 4:=if h:cI who=true then x.left[who.toNat]'(fl h)else RowT.zero.cells
def nf(who:Int)(dead:RowT)(x:RowT)(i:Nat):RowT:=if((i:Nat):Int)≠who∧0<fN dead ((i:Nat):Int)∧fN x ((i:Nat):Int)=0 then oq x ((i:Nat):Int) (fN dead ((i:Nat):Int)) (wo dead ((i:Nat):Int))else x
def nX(x:RowT)(who:Int)(dead:RowT)(k:Nat):RowT:=(List.range k).foldl (nf who dead) (oq x who (fP (dead.version+1)) dead.cells)
def dP(x:RowT)(who:Int)(dead:RowT):RowT×Int:=
 if !cI who then(.zero,5)else if 0<fN x who then(.zero,8)else({nX x who dead 5 with version:=fP ((nX x who dead 5).version+1)},0)
def qC(s:MS δ)(who:Int):Int:=if h:cI who=true then s.told[who.toNat]'(fl h)else 0
def nu(s:MS δ)(who:Int):RowT:=if h:cI who=true then s.last[who.toNat]'(fl h)else .zero
def AW{α:Type}(v:Vector α 5)(w:Int)(x:α):Vector α 5:=if h:cI w=true then v.set w.toNat x (fl h)else v
def lC(s:MS δ)(who:Int)(y:RowT):MS δ:= {s with last:=if qC s who=0∨(nu s who).version<y.version then AW s.last who y else s.last}
def vc(s:MS δ)(from' who:Int)(y:RowT):MS δ:= {lC s who y with told:=AW s.told who (iz .i64 (qC s who) (cW from'))}
def vd(s:MS δ)(who w:Int):Bool:=decide ((qC s who).fdiv (2^min w.toNat IntKind.i64.bits)%2=1)
def BQ(s:MS δ)(i:Nat):Bool:=decide (gZ s.view ((i:Nat):Int)=some s.id)&&decide (fN s.own ((i:Nat):Int)≤0)
def gT(s:MS δ)(k:Nat):List Int:=((List.range k).filter (BQ s)).map λi:Nat=>((i:Nat):Int)
def bC(s:MS δ):List Int:=gT s 5
def uO(s:MS δ):Bool:=(bC s).all λi=>(gI i).all λw=>vd s i w
def pM(s:MS δ)(l:List Int):RowT:=l.foldl (λx i=>if 0<fN x i then x else(dP x i (nu s i)).1) s.own
def jT(v:ViewT):MsgT:= {MsgT.zero with kind:=7,view:=v}
def ot(i:Int)(v:ViewT):MsgT:= {MsgT.zero with kind:=8,whose:=i,view:=v}
def fz(ep:Int)(b:BallotT):MsgT:= {MsgT.zero with kind:=3,epoch:=ep,ballot:=b}
def kA(ep:Int)(b had:BallotT)(c:ChangeT):MsgT:= {MsgT.zero with kind:=4,epoch:=ep,ballot:=b,had:=had,change:=c}
def iY(ep:Int)(b:BallotT)(c:ChangeT):MsgT:= {MsgT.zero with kind:=5,epoch:=ep,ballot:=b,change:=c}
def jH(ep:Int)(b:BallotT):MsgT:= {MsgT.zero with kind:=6,epoch:=ep,ballot:=b}
def gN(ep:Int)(b:BallotT):RecT:= {RecT.zero with kind:=3,epoch:=ep,ballot:=b}
def ma(ep:Int)(b:BallotT)(c:ChangeT):RecT:= {RecT.zero with kind:=4,epoch:=ep,ballot:=b,change:=c}
def df(s:MS δ)(n:Int):MS δ:= {s with round:=n}
def lh(s:MS δ)(v:VoteT):MS δ:= {s with vote:=some v}
def w3(s:MS δ)(a:AccT):MS δ:= {s with acc:=a}
variable (K:Dk δ)
def iJ(s:MS δ)(l:List SaidT):MS δ:= {s with o:=if K.dn s.e then s.o else s.o++l}
def C2(s:MS δ)(to':Int)(m:MsgT):MS δ:=iJ K s [⟨to',m⟩]
theorem pB(s:MS δ):iJ K s []=s:=by
 unfold iJ;rw[ba,ite_self]
theorem G4(s:MS δ)(a b:List SaidT):iJ K (iJ K s a) b=iJ K s (a++b):=by
 unfold iJ
 by_cases h:K.dn s.e=true<;>simp[h]
def nb(f:MS δ→MS δ)(s:MS δ)(to':Int)(m:MsgT):MS δ:=if to'=s.id then f s else C2 K s to' m
def eh(s:MS δ)(r:RecT):MS δ:= {s with e:=(K.pt s.e (gj r)).1}
def sa(s:MS δ)(r:RecT):Int:=(K.pt s.e (gj r)).2
def dH(s:MS δ)(op err val:Int):MS δ:= {s with replies:=s.replies++[⟨op,err,val⟩]}
def fm(s:MS δ):MS δ:=iJ K s (pp (s.rep .nil))
def nO(id:Int)(m:MsgT)(p:Nat→Bool)(k:Nat):List SaidT:=((List.range k).filter λi:Nat=> !decide (((i:Nat):Int)=id)&&p i).map λi:Nat=>⟨((i:Nat):Int),m⟩
theorem it(id:Int)(m:MsgT)(p:Nat→Bool)(k:Nat):nO id m p (k+1)=nO id m p k++(if((k:Nat):Int)≠id∧p k=true then [⟨((k:Nat):Int),m⟩]else []):=by
 unfold nO;rw[cR,List.filter_append,cS]
 by_cases h:((k:Nat):Int)=id<;>by_cases h2:p k=true<;>simp[h,h2]
def mw(s:MS δ)(y:RowT):MS δ:=iJ K s (nO s.id (sh s.id y) (λ_=>true) 5)
def nG(s:MS δ)(v:ViewT):MS δ:=iJ K s (nO s.id (jT v) (λ_=>true) 5)
def uh(s:MS δ)(x:RowT)(op:Int):MS δ:= {s with own:=x,busy:=true,kept:=0,waits:=op}
def e5(s:MS δ)(x:RowT)(op:Int):MS δ×Int:=if sa K s (fF x)≠0 then(eh K s (fF x),sa K s (fF x))else(fm K (uh (eh K s (fF x)) x op),0)
def mU(s:MS δ):MS δ:=if s.busy||decide ((bC s).length=0)then s else if uO s then(e5 K s (pM s (bC s)) 0).1 else s
def gE(s:MS δ):MS δ:= {s with busy:=false,book:=(fy s.book s.id s.own).1}
def l5(s:MS δ):MS δ:= {s with replies:=if 0<s.waits then s.replies++[⟨s.waits,0,0⟩]else s.replies,waits:=if 0<s.waits then 0 else s.waits}
theorem xT{s:MS δ}(h:0<s.waits):l5 s= {dH s s.waits 0 0 with waits:=0}:=by unfold l5;rw[if_pos h,if_pos h];rfl
theorem xU{s:MS δ}(h: ¬0<s.waits):l5 s=s:=by unfold l5;rw[if_neg h,if_neg h]
def lE(s:MS δ):MS δ:=mU K (mw K (l5 (gE s)) s.own)
def kV(s:MS δ)(from' ver:Int):Bool:=s.busy&&(decide (ver=s.own.version)&&decide (from'∈gI s.id))
def wA(s:MS δ):Bool:=(gI s.id).all λw=> !Af s.kept w
def iG(s:MS δ)(from':Int):MS δ:= {s with kept:=iz .i64 s.kept (cW from')}
def dM(s:MS δ)(from':Int)(m:MsgT):MS δ:=if kV s from' m.version then(if wA (iG s from')then lE K (iG s from')else iG s from')else s
def EY(s:MS δ)(w:Int)(y:RowT):MS δ:= {s with book:=(fy s.book w y).1}
def iE(s:MS δ)(w:Int)(y:RowT):MS δ:= {s with mirror:=(ml s.mirror w y).1}
def iU(s:MS δ)(from':Int)(m:MsgT):MS δ:=
 if m.whose≠from'∨fe s.mirror m.whose=true then s
 else if ly s.mirror m.whose m.row then(if sa K s (j6 m.whose m.row)≠0 then eh K s (j6 m.whose m.row)else C2 K (iE (eh K s (j6 m.whose m.row)) m.whose m.row) from' (sw (da (iE (eh K s (j6 m.whose m.row)) m.whose m.row).mirror m.whose).version))
 else C2 K s from' (sw (da s.mirror m.whose).version)
def fV(s:MS δ)(from':Int)(m:MsgT):MS δ:=mU K (if from'∈gI m.whose then vc s from' m.whose m.row else s)
def lT(s:MS δ)(w:Int):MS δ:= {s with mirror:=nT s.mirror w}
def fx(s:MS δ)(from' w:Int):MS δ:=
 let back:=λs:MS δ=>nb K (λs=>fV K s s.id (gP w (da s.mirror w))) s from' (gP w (da s.mirror w))
 if gZ s.view w≠some from' then s
 else if fe s.mirror w then back s
 else if sa K s (jp w)≠0 then eh K s (jp w)else back (lT (eh K s (jp w)) w)
def gU(s:MS δ)(i w:Int):MS δ:=if vd s i w then s else nb K (λs=>fx K s s.id i) s w (ot i s.view)
def pS(s:MS δ)(i:Int):MS δ:=gU K (gU K s i ((i+1)%5)) i ((i+2)%5)
def fU(l:List Int)(s:MS δ):MS δ:=l.foldl (pS K) s
def q9(s:MS δ):MS δ:=fU K (bC s) s
def mS(s:MS δ)(v:ViewT):MS δ:= {s with view:=v,acc:= {AccT.zero with epoch:=v.epoch},vote:=none,round:=0}
def qa(s:MS δ)(v:ViewT):Bool:=decide (s.view.epoch<v.epoch)&&decide (sa K s (kZ v)=0)
def hX(s:MS δ)(v:ViewT):MS δ:=if v.epoch≤s.view.epoch then s else if sa K s (kZ v)≠0 then eh K s (kZ v)else q9 K (mS (eh K s (kZ v)) v)
def mx(s:MS δ)(from':Int)(m:MsgT):MS δ:=fx K (hX K s m.view) from' m.whose
def ld(s:MS δ)(c:ChangeT):MS δ:=if(dT s.view c).2≠0 then s else if qa K s (dT s.view c).1 then nG K (hX K s (dT s.view c).1) (dT s.view c).1 else hX K s (dT s.view c).1
def eQ(f:MS δ→MS δ)(s:MS δ)(from':Int)(m:MsgT):MS δ:=
 if m.epoch<s.view.epoch then(if m.kind=3∨m.kind=5 then C2 K s from' (jT s.view)else s)
 else if s.view.epoch<m.epoch∨iK s.view s.id=false then s
 else f (df s (max s.round m.ballot.round))
def li(from':Int)(m:MsgT)(s:MS δ):MS δ:=match s.vote with
 |none=>s
 |some vt=>if(gm vt from' m.ballot).2 then ld K (lh s (gm vt from' m.ballot).1) vt.change else(lh s (gm vt from' m.ballot).1)
def qG(s:MS δ)(from':Int)(m:MsgT):MS δ:=eQ K (li K from' m) s from' m
def nN(from':Int)(m:MsgT)(s:MS δ):MS δ:=nb K (λs=>qG K s s.id (jH m.epoch m.ballot)) s from' (jH m.epoch m.ballot)
def oQ(from':Int)(m:MsgT)(s:MS δ):MS δ:=
 if(dT s.view m.change).2≠0 then s else if(gn s.acc m.epoch m.ballot m.change).2=false then s
 else if(gn s.acc m.epoch m.ballot m.change).1.flat≠s.acc.flat then(if sa K s (ma m.epoch m.ballot m.change)≠0 then eh K s (ma m.epoch m.ballot m.change)else nN K from' m (w3 (eh K s (ma m.epoch m.ballot m.change)) (gn s.acc m.epoch m.ballot m.change).1))
 else nN K from' m s
def s5(s:MS δ)(from':Int)(m:MsgT):MS δ:=eQ K (oQ K from' m) s from' m
def jE(s:MS δ)(m:MsgT):MS δ:=iJ K s (nO s.id m (λi=>iK s.view ((i:Nat):Int)) 5)
def jI(f:MS δ→MsgT→MS δ)(s:MS δ)(m:MsgT):MS δ:=if iK s.view s.id then f (jE K s m) m else jE K s m
def kB(s:MS δ)(vt:VoteT):MS δ:=jI K (λs m=>s5 K s s.id m) s (iY s.view.epoch vt.ballot vt.change)
def pn(from':Int)(m:MsgT)(s:MS δ):MS δ:=match s.vote with
 |none=>s
 |some vt=>if(eP vt from' m.ballot m.had m.change).2 then kB K (lh s (eP vt from' m.ballot m.had m.change).1) (eP vt from' m.ballot m.had m.change).1 else(lh s (eP vt from' m.ballot m.had m.change).1)
def qI(s:MS δ)(from':Int)(m:MsgT):MS δ:=eQ K (pn K from' m) s from' m
def n6(from':Int)(m:MsgT)(a:AccT)(s:MS δ):MS δ:=nb K (λs=>qI K s s.id (kA m.epoch m.ballot a.had a.change)) s from' (kA m.epoch m.ballot a.had a.change)
def pW(from':Int)(m:MsgT)(s:MS δ):MS δ:=
 if(bQ s.acc m.epoch m.ballot).2=false then s
 else if(bQ s.acc m.epoch m.ballot).1.vow.flat≠s.acc.vow.flat then(if sa K s (gN m.epoch m.ballot)≠0 then eh K s (gN m.epoch m.ballot)else n6 K from' m (bQ s.acc m.epoch m.ballot).1 (w3 (eh K s (gN m.epoch m.ballot)) (bQ s.acc m.epoch m.ballot).1))
 else n6 K from' m (bQ s.acc m.epoch m.ballot).1 s
def s6(s:MS δ)(from':Int)(m:MsgT):MS δ:=eQ K (pW K from' m) s from' m
def mM(s:MS δ)(vt:VoteT):MS δ:=jI K (λs m=>s6 K s s.id m) s (fz s.view.epoch vt.ballot)
def oR(s:MS δ)(vt:VoteT):MS δ:=if vt.putting then kB K s vt else mM K s vt
def eJ(s:MS δ):BallotT:=⟨fP (s.round+1),s.id⟩
def re(s:MS δ)(c:ChangeT):MS δ:=lh (df (w3 (eh K s (gN s.view.epoch (eJ s))) (bQ s.acc s.view.epoch (eJ s)).1) (eJ s).round) (jW s.view (eJ s) c)
def cA(s:MS δ)(c:ChangeT):MS δ×Int:=
 if(bQ s.acc s.view.epoch (eJ s)).2=false then(s,6)else if sa K s (gN s.view.epoch (eJ s))≠0 then(eh K s (gN s.view.epoch (eJ s)),sa K s (gN s.view.epoch (eJ s)))else(re K s c,0)
def fK(s:MS δ)(c:ChangeT):Int:=if(dT s.view c).2=0∧s.vote.isSome=true then 8 else(dT s.view c).2
def ee(s:MS δ)(op:Int)(c:ChangeT):MS δ×Int:=
 if fK s c≠0 then(dH s op (fK s c) 0,fK s c)
 else if(cA K s c).2≠0 then(dH (cA K s c).1 op (cA K s c).2 0,(cA K s c).2)
 else(oR K (dH (cA K s c).1 op 0 0) (jW s.view (eJ s) c),0)
def db(s:MS δ)(o:OpT):RowT×Int×Int:=kc (s.rep .nil) o
def bM(s:MS δ):MS δ:= {s with ops:=fP (s.ops+1)}
def oL(s:MS δ)(o:OpT):MS δ×Int:=
 if(db s o).2.2≠0∨o.kind=3 then(dH s s.ops (db s o).2.2 (db s o).2.1,(db s o).2.2)
 else if(e5 K s (db s o).1 s.ops).2≠0 then(dH (e5 K s (db s o).1 s.ops).1 s.ops (e5 K s (db s o).1 s.ops).2 0,(e5 K s (db s o).1 s.ops).2)
 else((e5 K s (db s o).1 s.ops).1,0)
def bY(s:MS δ)(o:OpT):MS δ×Int:=if iK s.view s.id&&decide (o.kind=4)then ee K (bM s) (bM s).ops o.change else oL K (bM s) o
def gk(s:MS δ)(from':Int)(m:MsgT):MS δ:=
 if m.kind=0 then iU K s from' m else if m.kind=1 then dM K s from' m else if m.kind=2 then EY s m.whose m.row
 else if m.kind=7 then hX K s m.view else if m.kind=8 then mx K s from' m else if m.kind=9 then fV K s from' m
 else if m.kind=3 then s6 K s from' m else if m.kind=4 then qI K s from' m else if m.kind=5 then s5 K s from' m else if m.kind=6 then qG K s from' m else s
def bS(s:MS δ):MS δ:=q9 K (mU K (if s.busy=true then fm K s else s))
def bZ(s:MS δ):MS δ:=if 1<s.view.epoch then nG K s s.view else s
def gd(s:MS δ):MS δ:=if 0< (cw s.book s.id).version then mw K s (cw s.book s.id)else s
def rO(s:MS δ):MS δ:=match s.vote with
 |none=>s
 |some vt=>if(dT s.view vt.change).2=0 then(if(cA K s vt.change).2=0 then oR K (cA K s vt.change).1 (jW s.view (eJ s) vt.change)else(cA K s vt.change).1)else s
def iD(s:MS δ):MS δ:=if iK (bZ K (bS K s)).view (bZ K (bS K s)).id then rO K (gd K (bZ K (bS K s)))else bZ K (bS K s)
def jz(s:MS δ)(m:RecT):MS δ:=
 if m.kind=0 then {s with own:=m.row,busy:=true,kept:=0}
 else if m.kind=1 then iE s m.whose m.row
 else if m.kind=2 then lT s m.whose
 else if m.kind=3 then {s with acc:= {s.acc with vow:=m.ballot},round:=max s.round m.ballot.round}
 else if m.kind=4 then {s with acc:= {s.acc with vow:=m.ballot,had:=m.ballot,change:=m.change},round:=max s.round m.ballot.round}
 else if m.kind=5 then mS s m.view
 else s
def lq:List (List UInt8)→MS δ→Option (MS δ)
 | [],s=>some s
 |b::bs,s=>if(mn b).2≠0 then none else lq bs (jz s (mn b).1)
def Ec(id:Int)(e:δ):MS δ:=⟨id, .zero, .zero, .zero, .zero,0,none, .zero,false,0,0,0,[], #v[0,0,0,0,0], #v[RowT.zero,RowT.zero,RowT.zero,RowT.zero,RowT.zero],e,[]⟩
def Bl(id:Int)(e:δ):MS δ:=mS (Ec id e) firstV
theorem FJ{ls:List (List UInt8)}{k:Nat}{s:MS δ}(h:k<ls.length)(g:(mn ls[k]).2≠0):lq (ls.drop k) s=none:=by
 rw[dp h,lq,if_pos g]
theorem Hb{ls:List (List UInt8)}{k:Nat}{s:MS δ}(h:k<ls.length)(g: ¬(mn ls[k]).2≠0):lq (ls.drop k) s=lq (ls.drop (k+1)) (jz s (mn ls[k]).1):=by
 rw[dp h,lq,if_neg g]
end Api
end

section
namespace Api
open Go Leg Codec Dsk Wal
theorem BP(m:RecT):(gj m).length≤3000:=by
 have h1:=ia m.row;have h2:=aT m.ballot.flat;have h4:=aT m.change.flat;have h5:=aT m.view.flat;have h6:=aT [m.kind,m.whose];have h8:=aT [m.kind,m.epoch];have h9:=aT [m.kind];simp only[BallotT.flat,ChangeT.flat,ViewT.flat,ay,aD,aA]at h2 h4 h5 h6 h8 h9;unfold gj
 repeat' split
 all_goals first|omega| (simp only[aj,BallotT.flat,ChangeT.flat,ViewT.flat,aD];omega)
abbrev w9(n:Int):Prop:= -9223372036854775808≤n∧n<9223372036854775808
theorem pi{n:Int}(h:w9 n):(Lit.int .i64 n).wf=true:=by
 have m1:IntKind.i64.min= -9223372036854775808:=by decide
 have m2:IntKind.i64.max=9223372036854775807:=by decide
 simp only[Lit.wf,m1,m2,av,decide_eq_true_eq];omega
theorem m8(n:Int):w9 (fP n):=by
 unfold fP w9;simp only[IntKind.wrap,IntKind.bits,IntKind.signed];simp;omega
structure CW(c:CellT):Prop where
 inn:w9 c.inn
 out:w9 c.out
 given: ∀(j:Nat) (h:j<5),w9 c.given[j]
class OkRow(y:RowT):Prop where
 version:w9 y.version
 cells: ∀(k:Nat) (h:k<4),CW y.cells[k]
 heir: ∀(i:Nat) (h:i<5),w9 y.heir[i]
 left: ∀(i k:Nat) (h:i<5) (g:k<4),CW y.left[i][k]
theorem rG{α:Type}{n:Nat}{v:Vector α n}{x:α}(h:x∈v.toList): ∃(j:Nat) (h:j<n),x=v[j]:=by
 obtain⟨j,hj,rfl⟩:=ff h;rw[aA]at hj;exact⟨j,hj,by simp⟩
theorem EI{α:Type}{n:Nat}(v:Vector α n)(j:Nat)(h:j<n):v[j]∈v.toList:=by simp
theorem xS{m:Nat}{v:Vector CellT m}(h: ∀(k:Nat) (h:k<m),CW v[k]):WF (bF v.toList):=λn hn=>by
 obtain⟨c,hc,hn⟩:=jS.1 hn;obtain⟨k,hk,rfl⟩:=rG hc;simp only[CellT.flat,cf]at hn;rcases hn with rfl|rfl|hn
 · exact pi (h k hk).inn
 · exact pi (h k hk).out
 · obtain⟨j,hj,rfl⟩:=rG hn
   exact pi ((h k hk).given j hj)
theorem OkRow.wf{x:RowT}(h:OkRow x):WF x.flat:=λn hn=>by
 simp only[RowT.flat,cf,eC]at hn;rcases hn with rfl|hn|hn|hn
 · exact pi h.version
 · exact xS h.cells n hn
 · obtain⟨j,hj,rfl⟩:=rG hn
   exact pi (h.heir j hj)
 · obtain⟨v,hv,hn⟩:=jS.1 hn
   obtain⟨j,hj,rfl⟩:=rG hv;exact xS (λk hk=>h.left j k hj hk) n hn
abbrev Iu:= @OkRow.wf
theorem CW.of{m:Nat}{v:Vector CellT m}(h:WF (bF v.toList))(k:Nat)(hk:k<m):CW v[k]:=by
 have q: ∀n∈v[k].flat,w9 n:=λn hn=>uY (h n (jS.2 ⟨_,EI v k hk,hn⟩))
 exact⟨q _ (by simp[CellT.flat]),q _ (by simp[CellT.flat]),λj hj=>q _ (by simp[CellT.flat])⟩
theorem OkRow.of{x:RowT}(h:WF x.flat):OkRow x:=
 ⟨uY (h _ (by simp[RowT.flat])),CW.of λn hn=>h n (by simp[RowT.flat,hn]),λi hi=>uY (h _ (by simp[RowT.flat])),
  λi k hi hk=>CW.of (λn hn=>h n (by simp only[RowT.flat,cf,eC,jS];exact .inr (.inr (.inr ⟨_,EI x.left i hi,hn⟩)))) k hk⟩
class OkVw(v:ViewT):Prop where
 rng:Rng v
 wf:WF v.flat
class OkVt(v:VoteT):Prop where
 view:OkVw v.view
 ballot:WF v.ballot.flat
 change:WF v.change.flat
 best:WF v.best.flat
class OkMg(m:MsgT):Prop where
 row:OkRow m.row
 view:OkVw m.view
 ballot:WF m.ballot.flat
 had:WF m.had.flat
 change:WF m.change.flat
variable {δ:Type}
class OkR(K:outParam (Dk δ))(s:MS δ):Prop where
 e:K.ok s.e
 id:cI s.id=true
 view:OkVw s.view
 own:OkRow s.own
 mir: ∀(i:Nat) (h:i<5),OkRow s.mirror.rows[i]
 book: ∀(i:Nat) (h:i<5),OkRow s.book.rows[i]
 last: ∀(i:Nat) (h:i<5),OkRow s.last[i]
 acc:WF s.acc.flat
 vote: ∀vt,s.vote=some vt→OkVt vt
variable {K:Dk δ}
instance OkRow.zero:OkRow RowT.zero:=OkRow.of tame_rzero.wf
theorem CW.zero:CW .zero:=⟨by decide,by decide,λj hj=>by
 match j,hj with
 |0,_|1,_|2,_|3,_|4,_=>exact⟨(by decide:(-9223372036854775808:Int)≤0),(by decide:(0:Int)<9223372036854775808)⟩⟩
instance {s:MS δ}[h:OkR K s]:OkRow s.own:=h.own
instance {s:MS δ}[h:OkR K s]:OkVw s.view:=h.view
instance {m:MsgT}[h:OkMg m]:OkRow m.row:=h.row
instance {m:MsgT}[h:OkMg m]:OkVw m.view:=h.view
theorem oi{α:Type}{n:Nat}{p:α→Prop}{v:Vector α n}{i:Nat}(hi:i<n){x:α}(h: ∀(j:Nat) (hj:j<n),p v[j])(hx:p x)(j:Nat)(hj:j<n):p (v.set i x hi)[j]:=by
 rw[Vector.getElem_set];split
 · exact hx
 · exact h j hj
instance {s:MS δ}[h:OkR K s](w:Int):OkRow (da s.mirror w):=by unfold da;split;exact h.mir _ _;exact .zero
instance {s:MS δ}[h:OkR K s](w:Int):OkRow (cw s.book w):=by unfold cw;split;exact h.book _ _;exact .zero
instance {s:MS δ}[h:OkR K s](w:Int):OkRow (nu s w):=by unfold nu;split;exact h.last _ _;exact .zero
theorem tD{x:RowT}[h:OkRow x](key:Int):CW (dI x key):=by unfold dI;split;exact h.cells _ _;exact .zero
theorem Gl{x:RowT}[h:OkRow x](i:Int):w9 (fN x i):=by unfold fN;split;exact h.heir _ _;exact⟨by decide,by decide⟩
theorem Gd{x:RowT}[h:OkRow x](i:Int)(k:Nat)(hk:k<4):CW (wo x i)[k]:=by unfold wo;split;exact h.left _ _ _ _;exact OkRow.zero.cells k hk
theorem wg{x:RowT}[h:OkRow x]{key n counts:Int}{c:CellT}(hc:CW c):OkRow (lx x key n counts c).1:=by
 unfold lx;split
 · exact .zero
 · refine⟨m8 _,λk hk=>?_,λi hi=>?_,λi k hi hk=>?_⟩
   · show CW (k9 x key c).cells[k]
     unfold k9;split
     · exact oi (p:=CW) (zI (by assumption)) h.cells hc k hk
     · exact h.cells k hk
   · show w9 (k9 x key c).heir[i]
     unfold k9;split<;>exact h.heir i hi
   · show CW (k9 x key c).left[i][k]
     unfold k9;split<;>exact h.left i k hi hk
instance {x:RowT}[OkRow x](key n:Int):OkRow (pC x key n).1:=by
 unfold pC;split
 · have:=tD (x:=x) key
   exact wg ⟨m8 _,this.out,this.given⟩
 · exact .zero
instance {x:RowT}[OkRow x](key n:Int):OkRow (pD x key n).1:=by
 unfold pD;split
 · have:=tD (x:=x) key
   exact wg ⟨this.inn,m8 _,this.given⟩
 · exact .zero
instance {x:RowT}[OkRow x](key n to':Int):OkRow (mg x key n to').1:=by
 unfold mg;split
 · have:=tD (x:=x) key
   refine wg ?_;unfold wz;split
   · exact⟨this.inn,this.out,oi (p:=w9) (fl (by assumption)) this.given (m8 _)⟩
   · exact this
 · exact .zero
theorem vq{x:RowT}(h:OkRow x){w v:Int}{l:Vector CellT 4}(hv:w9 v)(hl: ∀(k:Nat) (h:k<4),CW l[k]):OkRow (oq x w v l):=by
 unfold oq;split
 · exact⟨h.version,h.cells,oi (p:=w9) (fl (by assumption)) h.heir hv,λi k hi hk=>oi (p:=λu:Vector CellT 4=>CW u[k]) (fl (by assumption)) (λj hj=>h.left j k hj hk) (hl k hk) i hi⟩
 · exact h
instance {x d:RowT}[h:OkRow x][g:OkRow d](who:Int):OkRow (dP x who d).1:=by
 have q: ∀k,OkRow (nX x who d k):=λk=>by
  induction k with
  |zero=>exact vq h (m8 _) g.cells
  |succ k ih=>
   have e:nX x who d (k+1)=nf who d (nX x who d k) k:=by unfold nX;rw[cR,eT];rfl
   rw[e];unfold nf;split
   · exact vq ih (Gl _) (Gd _)
   · exact ih
 unfold dP;split
 · exact .zero
 split
 · exact .zero
 · exact⟨m8 _,(q 5).cells,(q 5).heir,(q 5).left⟩
instance {s:MS δ}[h:OkR K s](l:List Int):OkRow (pM s l):=by
 have: ∀(l:List Int) (x:RowT),OkRow x→OkRow (l.foldl (λx i=>if 0<fN x i then x else(dP x i (nu s i)).1) x):=λl=>by
  induction l with
  |nil=>exact λx hx=>hx
  |cons i l ih=>exact λx hx=>ih _ (by dsimp only;split;exact hx;exact inferInstance)
 exact this l _ h.own
instance {s:MS δ}[h:OkR K s](o:OpT):OkRow (db s o).1:=by
 have:OkRow (gR (s.rep .nil) o).1:=by
  unfold gR
  repeat' split
  all_goals first|exact .zero|exact inferInstanceAs (OkRow (pC s.own _ _).1)|exact inferInstanceAs (OkRow (pD s.own _ _).1)|exact inferInstanceAs (OkRow (mg s.own _ _ _).1)
 unfold db kc
 repeat' split
 all_goals first|exact .zero|exact this
theorem wx{l:List Int}{k:Nat}(h:k<l.length):(ints l)[k]?=some (.int .i64 (l.getD k 0)):=by simp[ints,h,List.getD_eq_getElem?_getD]
theorem oF(s:MS δ)(k:Nat):gT s (k+1)=gT s k++(if BQ s k then [((k:Nat):Int)]else []):=by
 unfold gT;rw[cR,List.filter_append,cS]
 by_cases h:BQ s k=true<;>simp[h]
theorem vp(b:Int)(k:Nat):kO b (k+1)=kO b k++(if GC b ((k:Nat):Int)then [((k:Nat):Int)]else []):=by
 unfold kO;rw[cR,List.filter_append,cS]
 by_cases h:GC b ((k:Nat):Int)=true<;>simp[h]
theorem tc(b:Int)(k:Nat):(kO b k).length≤k:=by
 unfold kO;rw[bU];exact xP (Aj _ _) (by simp)
theorem tA{v:ViewT}{w i:Int}(h:(gZ v w).isSome=true)(g:(gZ v w).getD 0=i):gZ v w=some i:=by
 cases q:gZ v w with
 |none=>rw[q]at h;cases h
 |some z=>rw[q]at g;rw[←g];rfl
theorem zO{s:MS δ}{k:Nat}(h:BQ s k=true):gZ s.view ((k:Nat):Int)=some s.id∧fN s.own ((k:Nat):Int)≤0:=by
 unfold BQ at h;rw[av,decide_eq_true_iff,decide_eq_true_iff]at h;exact h
theorem Lg{s:MS δ}{k:Nat}(h1:(gZ s.view ((k:Nat):Int)).isSome=true)(h2:(gZ s.view ((k:Nat):Int)).getD 0=s.id)(h3:fN s.own ((k:Nat):Int)≤0):BQ s k=true:=by
 unfold BQ;rw[av,decide_eq_true_iff,decide_eq_true_iff];refine⟨?_,h3⟩;cases q:gZ s.view ((k:Nat):Int)with
 |none=>rw[q]at h1;cases h1
 |some z=>rw[q]at h2;rw[←h2];rfl
theorem Gv(s:MS δ)(k:Nat):(gT s k).length≤k:=by
 unfold gT;rw[bU];exact xP (Aj _ _) (by simp)
theorem La{x d:RowT}{who:Int}(h:cI who=true)(h2: ¬0<fN x who):(dP x who d).2=0:=by
 rw[dP,h,if_neg (by decide),if_neg h2]
theorem B4(K:Dk δ){l:List Int}{q:Nat}(h:q<l.length)(s:MS δ):fU K (l.take (q+1)) s=pS K (fU K (l.take q) s) (l.getD q 0):=by
 unfold fU;rw[co h,eT,List.getD_eq_getElem?_getD,List.getElem?_eq_getElem h];rfl
theorem ug(s:MS δ){l:List Int}{q:Nat}(h:q<l.length):pM s (l.take (q+1))=(if 0<fN (pM s (l.take q)) (l.getD q 0)then pM s (l.take q)else(dP (pM s (l.take q)) (l.getD q 0) (nu s (l.getD q 0))).1):=by
 unfold pM;rw[co h,eT,List.getD_eq_getElem?_getD,List.getElem?_eq_getElem h];rfl
theorem wH{s:MS δ}{i:Int}(h:i∈bC s):cI i=true∧gZ s.view i=some s.id∧fN s.own i≤0:=by
 unfold bC gT at h;rw[eS]at h;obtain⟨k,hk,rfl⟩:=h;rw[List.mem_filter,eY]at hk;have h2:=hk.2;unfold BQ at h2;rw[av,decide_eq_true_iff,decide_eq_true_iff]at h2;exact⟨decide_eq_true ⟨by omega,by omega⟩,h2.1,h2.2⟩
theorem gr(x:RowT){k:Nat}(h:k<5):fN x ((k:Nat):Int)=x.heir[k]:=by
 rw[fN,dif_pos (show cI ((k:Nat):Int)=true from decide_eq_true ⟨by omega,by omega⟩)];rfl
theorem GM(w:Int):(gI w).length≤1000000:=by unfold gI;split<;>simp
theorem EJ{k:Nat}(h:k<5):cI ((k:Nat):Int)=true:=decide_eq_true ⟨by omega,by omega⟩
theorem Ge(x:RowT){k:Nat}(h:k<5):wo x ((k:Nat):Int)=x.left[k]:=by
 rw[wo,dif_pos (EJ h)];rfl
theorem CU(x:RowT){k:Nat}(h:k<5)(v:Int)(l:Vector CellT 4):oq x ((k:Nat):Int) v l= {x with heir:=x.heir.set k v h,left:=x.left.set k l h}:=by
 rw[oq,dif_pos (EJ h)];rfl
theorem oE(x:RowT)(who:Int)(dead:RowT)(k:Nat):nX x who dead (k+1)=nf who dead (nX x who dead k) k:=by unfold nX;rw[cR,eT];rfl
instance OkVw.first:OkVw firstV:=⟨Rng.first,λn hn=>by
 have h:n∈[(1:Int),7,0,0,0,0,0]:=hn;simp only[cf,List.not_mem_nil,or_false,or_self]at h
 rcases h with rfl|rfl|rfl<;>decide⟩
instance OkVw.zero:OkVw ViewT.zero:=⟨Rng.zero,λn hn=>by
 have h:n∈[(0:Int),0,0,0,0,0,0]:=hn;simp only[cf,List.not_mem_nil,or_false,or_self]at h
 rcases h with rfl;decide⟩
theorem CA{v:ViewT}(h1:w9 v.epoch)(h2:w9 v.members)(hr:Rng v):WF v.flat:=λn hn=>by
 simp only[ViewT.flat,cf]at hn;rcases hn with rfl|rfl|hn
 · exact pi h1
 · exact pi h2
 · obtain⟨j,hj,rfl⟩:=rG hn
   have:=hr j hj;exact pi ⟨by omega,by omega⟩
theorem rz(n:Int):w9 (IntKind.i64.wrap n):=m8 n
instance OkVw.next{v:ViewT}[h:OkVw v](c:ChangeT):OkVw (dT v c).1:=by
 unfold dT;split
 · exact .zero
 split
 · split
   · exact .zero
   · exact⟨h.rng,CA (rz _) (rz _) h.rng⟩
 split
 · split
   · exact .zero
   · have hr:Rng ⟨IntKind.i64.wrap (v.epoch+1),mr .i64 v.members (2^c.who.toNat),qU v c⟩:=λi hi=>by
      show 0≤(qU v c)[i]∧(qU v c)[i]≤5;unfold qU;rw[Vector.getElem_mapIdx];unfold tt;split
      · have hm:cI c.heir=true:=by
         rename_i q _ _ _ _;simp only[Lo,Bool.not_eq_true',not_or,Bool.not_eq_false]at q;exact q.2
        have hm2:0≤c.heir∧c.heir<5:=of_decide_eq_true hm;omega
      · exact h.rng i hi
     exact⟨hr,CA (rz _) (rz _) hr⟩
 · exact .zero
theorem Ij{b:BallotT}(h1:w9 b.round)(h2:w9 b.who):WF b.flat:=λn hn=>by
 have h:n∈[b.round,b.who]:=hn;simp only[cf,List.not_mem_nil,or_false]at h;rcases h with rfl|rfl
 · exact pi h1
 · exact pi h2
theorem gG:WF BallotT.zero.flat:=Ij (by decide) (by decide)
theorem oY:WF ChangeT.zero.flat:=λn hn=>by
 have h:n∈[(0:Int),0,0]:=hn;simp only[cf,List.not_mem_nil,or_false,or_self]at h;rcases h with rfl;decide
instance OkMg.sealed(w:Int)(y:RowT)[h:OkRow y]:OkMg (gP w y):=⟨h, .zero,gG,gG,oY⟩
instance OkMg.sealW(w:Int)(v:ViewT)[h:OkVw v]:OkMg (ot w v):=⟨.zero,h,gG,gG,oY⟩
section
variable {s:MS δ}
instance [h:OkR K s](l:List SaidT):OkR K (iJ K s l):=⟨h.e,h.id,h.view,h.own,h.mir,h.book,h.last,h.acc,h.vote⟩
instance {p:Prop}[Decidable p]{a b:MS δ}[ha:OkR K a][hb:OkR K b]:OkR K (if p then a else b):=by split;exact ha;exact hb
instance {f:MS δ→MS δ}{t:Int}{m:MsgT}[h:OkR K s][hf:OkR K (f s)]:OkR K (nb K f s t m):=by
 unfold nb;split
 · exact hf
 · exact⟨h.e,h.id,h.view,h.own,h.mir,h.book,h.last,h.acc,h.vote⟩
instance [h:OkR K s](t:Int)(m:MsgT):OkR K (C2 K s t m):=inferInstanceAs (OkR K (iJ K s _))
instance [h:OkR K s](r:RecT):OkR K (eh K s r):=⟨K.sure _ _ h.e (BP r),h.id,h.view,h.own,h.mir,h.book,h.last,h.acc,h.vote⟩
instance [h:OkR K s](a b c:Int):OkR K (dH s a b c):=⟨h.e,h.id,h.view,h.own,h.mir,h.book,h.last,h.acc,h.vote⟩
instance [h:OkR K s]:OkR K (bM s):=⟨h.e,h.id,h.view,h.own,h.mir,h.book,h.last,h.acc,h.vote⟩
instance [h:OkR K s](f:Int):OkR K (iG s f):=⟨h.e,h.id,h.view,h.own,h.mir,h.book,h.last,h.acc,h.vote⟩
instance [h:OkR K s]:OkR K (l5 s):=⟨h.e,h.id,h.view,h.own,h.mir,h.book,h.last,h.acc,h.vote⟩
theorem yg{b:BookT}{w:Int}{x:RowT}(h: ∀(i:Nat) (h:i<5),OkRow b.rows[i])(hx:OkRow x): ∀(i:Nat) (h:i<5),OkRow (fy b w x).1.rows[i]:=by
 unfold fy;split
 · unfold zp
   split
   · exact oi (p:=OkRow) (fl (by assumption)) h hx
   · exact h
 · exact h
instance OkR.merge[h:OkR K s](w:Int)(x:RowT)[hx:OkRow x]:OkR K (EY s w x):=⟨h.e,h.id,h.view,h.own,h.mir,yg h.book hx,h.last,h.acc,h.vote⟩
instance [h:OkR K s]:OkR K (gE s):=⟨h.e,h.id,h.view,h.own,h.mir,yg h.book h.own,h.last,h.acc,h.vote⟩
theorem Di{b:MirT}{w:Int}{x:RowT}(h: ∀(i:Nat) (h:i<5),OkRow b.rows[i])(hx:OkRow x): ∀(i:Nat) (h:i<5),OkRow (ml b w x).1.rows[i]:=by
 unfold ml;split
 · unfold zG
   split
   · exact oi (p:=OkRow) (fl (by assumption)) h hx
   · exact h
 · exact h
instance [h:OkR K s](w:Int)(x:RowT)[hx:OkRow x]:OkR K (iE s w x):=⟨h.e,h.id,h.view,h.own,Di h.mir hx,h.book,h.last,h.acc,h.vote⟩
instance [h:OkR K s](w:Int):OkR K (lT s w):=⟨h.e,h.id,h.view,h.own,λi hi=>by
 show OkRow (nT s.mirror w).rows[i]
 unfold nT;split<;>exact h.mir i hi,h.book,h.last,h.acc,h.vote⟩
instance [h:OkR K s](x:RowT)[hx:OkRow x](op:Int):OkR K (uh s x op):=⟨h.e,h.id,h.view,hx,h.mir,h.book,h.last,h.acc,h.vote⟩
instance [OkR K s]:OkR K (fm K s):=inferInstanceAs (OkR K (iJ K s _))
instance [OkR K s](y:RowT):OkR K (mw K s y):=inferInstanceAs (OkR K (iJ K s _))
instance [OkR K s](v:ViewT):OkR K (nG K s v):=inferInstanceAs (OkR K (iJ K s _))
instance [OkR K s](m:MsgT):OkR K (jE K s m):=inferInstanceAs (OkR K (iJ K s _))
instance [OkR K s](x:RowT)[OkRow x](op:Int):OkR K (e5 K s x op).1:=by unfold e5;split<;>exact inferInstance
instance [h:OkR K s]:OkR K (mU K s):=by
 unfold mU;split
 · exact h
 split
 · exact inferInstance
 · exact h
instance [OkR K s]:OkR K (lE K s):=by unfold lE;exact inferInstance
instance [h:OkR K s](f:Int)(m:MsgT):OkR K (dM K s f m):=by
 unfold dM
 repeat' split
 all_goals exact inferInstance
instance [h:OkR K s](f:Int)(m:MsgT)[OkMg m]:OkR K (iU K s f m):=by
 unfold iU
 repeat' split
 all_goals exact inferInstance
theorem IT{v:Vector RowT 5}{w:Int}{x:RowT}(h: ∀(i:Nat) (h:i<5),OkRow v[i])(hx:OkRow x): ∀(i:Nat) (h:i<5),OkRow (AW v w x)[i]:=by
 unfold AW;split
 · exact oi (p:=OkRow) (fl (by assumption)) h hx
 · exact h
instance [h:OkR K s](w:Int)(x:RowT)[hx:OkRow x]:OkR K (lC s w x):=⟨h.e,h.id,h.view,h.own,h.mir,h.book,by
 show ∀(i:Nat) (h:i<5),OkRow (if qC s w=0∨(nu s w).version<x.version then AW s.last w x else s.last)[i];split
 · exact IT h.last hx
 · exact h.last,h.acc,h.vote⟩
instance [OkR K s](f w:Int)(y:RowT)[OkRow y]:OkR K (vc s f w y):=by
 have h:OkR K (lC s w y):=inferInstance;exact⟨h.e,h.id,h.view,h.own,h.mir,h.book,h.last,h.acc,h.vote⟩
instance [h:OkR K s](f:Int)(m:MsgT)[OkMg m]:OkR K (fV K s f m):=by unfold fV;split<;>exact inferInstance
theorem vw[OkR K s]{f:MS δ→MS δ}(hf:OkR K (f s))(t:Int)(m:MsgT):OkR K (nb K f s t m):=by unfold nb;split;exact hf;exact inferInstance
instance [h:OkR K s](f w:Int):OkR K (fx K s f w):=by
 unfold fx
 repeat' split
 · exact h
 · exact vw inferInstance _ _
 · exact inferInstance
 · exact vw inferInstance _ _
instance [h:OkR K s](i w:Int):OkR K (gU K s i w):=by
 unfold gU;split
 · exact h
 · exact vw inferInstance _ _
instance [OkR K s](i:Int):OkR K (pS K s i):=by unfold pS;exact inferInstance
theorem tC: ∀(l:List Int) (s:MS δ),OkR K s→OkR K (fU K l s)
 | [],_,h=>h
 |i::l,s,h=>tC l (pS K s i) inferInstance
instance [h:OkR K s]:OkR K (q9 K s):=tC _ _ h
theorem M6(n:Int)(h:w9 n):WF ({AccT.zero with epoch:=n}:AccT).flat:=λk hk=>by
 have q:k∈[n,0,0,0,0,0,0,0]:=hk;simp only[cf,List.not_mem_nil,or_false,or_self]at q;rcases q with rfl|rfl
 · exact pi h
 · decide
instance [h:OkR K s](v:ViewT)[hv:OkVw v]:OkR K (mS s v):=⟨h.e,h.id,hv,h.own,h.mir,h.book,h.last,M6 _ (uY (hv.wf _ (by simp[ViewT.flat]))),λ_ e=>nomatch e⟩
instance [h:OkR K s](v:ViewT)[OkVw v]:OkR K (hX K s v):=by
 unfold hX
 repeat' split
 all_goals exact inferInstance
instance [h:OkR K s](f:Int)(m:MsgT)[OkMg m]:OkR K (mx K s f m):=by unfold mx;exact inferInstance
instance [h:OkR K s](c:ChangeT):OkR K (ld K s c):=by
 unfold ld
 repeat' split
 all_goals exact inferInstance
class OkAc(a:AccT):Prop where wf:WF a.flat
instance [h:OkR K s]:OkAc s.acc:=⟨h.acc⟩
theorem nC{a b:List Int}(h:WF (a++b)):WF a:=λn hn=>h n (List.mem_append_left _ hn)
theorem sU{a b:List Int}(h:WF (a++b)):WF b:=λn hn=>h n (List.mem_append_right _ hn)
theorem OkAc.vow{a:AccT}(h:OkAc a):WF a.vow.flat:=sU (nC (nC h.wf))
theorem OkAc.had{a:AccT}(h:OkAc a):WF a.had.flat:=sU (nC h.wf)
theorem OkAc.change{a:AccT}(h:OkAc a):WF a.change.flat:=sU h.wf
theorem OkAc.epoch{a:AccT}(h:OkAc a):WF [a.epoch]:=nC (nC (nC h.wf))
theorem OkAc.ask{a:AccT}(h:OkAc a){ep:Int}{b:BallotT}(hb:WF b.flat):OkAc (bQ a ep b).1:=by
 unfold bQ;split
 · exact h
 · exact⟨lQ (lQ (lQ h.epoch hb) h.had) h.change⟩
theorem OkAc.put{a:AccT}(h:OkAc a){ep:Int}{b:BallotT}{c:ChangeT}(hb:WF b.flat)(hc:WF c.flat):OkAc (gn a ep b c).1:=by
 unfold gn;split
 · exact h
 · exact⟨lQ (lQ (lQ h.epoch hb) hb) hc⟩
instance [h:OkR K s](n:Int):OkR K (df s n):=⟨h.e,h.id,h.view,h.own,h.mir,h.book,h.last,h.acc,h.vote⟩
instance [h:OkR K s](v:VoteT)[hv:OkVt v]:OkR K (lh s v):=⟨h.e,h.id,h.view,h.own,h.mir,h.book,h.last,h.acc,λ_ e=>dR e▸hv⟩
instance [h:OkR K s](a:AccT)[ha:OkAc a]:OkR K (w3 s a):=⟨h.e,h.id,h.view,h.own,h.mir,h.book,h.last,ha.wf,h.vote⟩
instance {v:VoteT}[h:OkVt v]{m:MsgT}[hm:OkMg m](w:Int):OkVt (eP v w m.ballot m.had m.change).1:=by
 unfold eP;split
 · exact h
 · unfold va
   split
   · exact⟨h.view,h.ballot,hm.change,hm.had⟩
   · exact⟨h.view,h.ballot,h.change,h.best⟩
instance {v:VoteT}[h:OkVt v](w:Int)(b:BallotT):OkVt (gm v w b).1:=by
 unfold gm;split
 · exact h
 · exact⟨h.view,h.ballot,h.change,h.best⟩
instance {m:MsgT}[hm:OkMg m][h:OkR K s](ep:Int):OkAc (bQ s.acc ep m.ballot).1:=OkAc.ask ⟨h.acc⟩ hm.ballot
instance {m:MsgT}[hm:OkMg m][h:OkR K s](ep:Int):OkAc (gn s.acc ep m.ballot m.change).1:=OkAc.put ⟨h.acc⟩ hm.ballot hm.change
instance tookF_ok[h:OkR K s](f:Int)(m:MsgT):OkR K (li K f m s):=by
 unfold li;split
 · exact h
 · rename_i vt hv
   have:=h.vote vt hv;split<;>exact inferInstance
theorem rE[h:OkR K s]{f:MS δ→MS δ}(hf: ∀s:MS δ,OkR K s→OkR K (f s))(w:Int)(m:MsgT):OkR K (eQ K f s w m):=by
 unfold eQ
 repeat' split
 · exact inferInstance
 · exact h
 · exact h
 · exact hf _ inferInstance
instance [OkR K s](w:Int)(m:MsgT):OkR K (qG K s w m):=rE (λ_ _=>inferInstance) w m
instance [h:OkR K s](w:Int)(m:MsgT):OkR K (nN K w m s):=by unfold nN;exact inferInstance
instance [h:OkR K s](w:Int)(m:MsgT)[OkMg m]:OkR K (oQ K w m s):=by
 unfold oQ
 repeat' split
 all_goals exact inferInstance
instance [OkR K s](w:Int)(m:MsgT)[OkMg m]:OkR K (s5 K s w m):=rE (λ_ _=>inferInstance) w m
instance OkMg.putM(ep:Int){vt:VoteT}[h:OkVt vt]:OkMg (iY ep vt.ballot vt.change):=⟨.zero, .zero,h.ballot,gG,h.change⟩
instance OkMg.askM(ep:Int){vt:VoteT}[h:OkVt vt]:OkMg (fz ep vt.ballot):=⟨.zero, .zero,h.ballot,gG,oY⟩
instance OkMg.takenM(ep:Int){m:MsgT}[h:OkMg m]:OkMg (jH ep m.ballot):=⟨.zero, .zero,h.ballot,gG,oY⟩
theorem OkMg.promM(ep:Int){m:MsgT}[h:OkMg m]{a:AccT}(ha:OkAc a):OkMg (kA ep m.ballot a.had a.change):=⟨.zero, .zero,h.ballot,ha.had,ha.change⟩
theorem tS[h:OkR K s]{f:MS δ→MsgT→MS δ}{m:MsgT}(hf: ∀s:MS δ,OkR K s→OkR K (f s m)):OkR K (jI K f s m):=by
 unfold jI;split
 · exact hf _ inferInstance
 · exact inferInstance
instance [h:OkR K s](vt:VoteT)[OkVt vt]:OkR K (kB K s vt):=tS λ_ _=>inferInstance
instance [h:OkR K s](f:Int)(m:MsgT)[OkMg m]:OkR K (pn K f m s):=by
 unfold pn;split
 · exact h
 · rename_i vt hv
   have:=h.vote vt hv;split<;>exact inferInstance
instance [OkR K s](w:Int)(m:MsgT)[OkMg m]:OkR K (qI K s w m):=rE (λ_ _=>inferInstance) w m
theorem wX[h:OkR K s](w:Int)(m:MsgT)[OkMg m]{a:AccT}(ha:OkAc a):OkR K (n6 K w m a s):=by
 have:=OkMg.promM m.epoch (m:=m) ha;unfold n6;exact inferInstance
instance [h:OkR K s](w:Int)(m:MsgT)[OkMg m]:OkR K (pW K w m s):=by
 unfold pW
 repeat' split
 · exact h
 · exact inferInstance
 · exact wX w m inferInstance
 · exact wX w m inferInstance
instance [OkR K s](w:Int)(m:MsgT)[OkMg m]:OkR K (s6 K s w m):=rE (λ_ _=>inferInstance) w m
instance [h:OkR K s](vt:VoteT)[OkVt vt]:OkR K (mM K s vt):=tS λ_ _=>inferInstance
instance [h:OkR K s](vt:VoteT)[OkVt vt]:OkR K (oR K s vt):=by unfold oR;split<;>exact inferInstance
theorem Cy{v:VoteT}{w:Int}{b had:BallotT}{c:ChangeT}(h:(eP v w b had c).2=true):(eP v w b had c).1.putting=true:=by
 unfold eP at h ⊢;split
 · rename_i q;rw[if_pos q]at h;cases h
 · rename_i q;rw[if_neg q]at h;exact h
theorem GT(s:MS δ)[h:OkR K s]:WF (eJ s).flat:=Ij (m8 _) (by have:0≤s.id∧s.id<5:=of_decide_eq_true h.id;exact⟨by show _≤s.id;omega,by show s.id<_;omega⟩)
class OkCh(c:ChangeT):Prop where wf:WF c.flat
instance newVote_ok[h:OkR K s](c:ChangeT)[hc:OkCh c]:OkVt (jW s.view (eJ s) c):=⟨h.view,GT s,hc.wf,gG⟩
instance {vt:VoteT}[h:OkVt vt]:OkCh vt.change:=⟨h.change⟩
instance [h:OkR K s](c:ChangeT)[OkCh c]:OkR K (re K s c):=by
 have:OkAc (bQ s.acc s.view.epoch (eJ s)).1:=OkAc.ask ⟨h.acc⟩ (GT s);unfold re;exact inferInstance
instance [h:OkR K s](c:ChangeT)[OkCh c]:OkR K (cA K s c).1:=by
 unfold cA
 repeat' split
 all_goals exact inferInstance
theorem rc{c:ChangeT}(h:(cA K s c).2=0):(cA K s c).1.vote=some (jW s.view (eJ s) c):=by
 unfold cA at h ⊢
 by_cases h1:(bQ s.acc s.view.epoch (eJ s)).2=false
 · rw[if_pos h1]at h;cases h
 by_cases h2:sa K s (gN s.view.epoch (eJ s))≠0
 · rw[if_neg h1,if_pos h2]at h;exact absurd h h2
 · rw[if_neg h1,if_neg h2];rfl
instance [h:OkR K s](op:Int)(c:ChangeT)[OkCh c]:OkR K (ee K s op c).1:=by
 unfold ee
 repeat' split
 all_goals exact inferInstance
instance [h:OkR K s](o:OpT):OkR K (oL K s o).1:=by
 unfold oL
 repeat' split
 all_goals exact inferInstance
instance [h:OkR K s](o:OpT)[OkCh o.change]:OkR K (bY K s o).1:=by unfold bY;split<;>exact inferInstance
instance [h:OkR K s]:OkR K (bS K s):=by unfold bS;exact inferInstance
instance [h:OkR K s]:OkR K (bZ K s):=by unfold bZ;exact inferInstance
instance [h:OkR K s]:OkR K (gd K s):=by unfold gd;exact inferInstance
instance [h:OkR K s]:OkR K (rO K s):=by
 unfold rO;split
 · exact h
 · rename_i vt hv
   have:=h.vote vt hv
   repeat' split
   all_goals exact inferInstance
instance [h:OkR K s]:OkR K (iD K s):=by unfold iD;exact inferInstance
instance [h:OkR K s](f:Int)(m:MsgT)[OkMg m]:OkR K (gk K s f m):=by
 unfold gk
 repeat' split
 all_goals exact inferInstance
theorem iu(s:MS δ)(c:ChangeT):(cA K s c).1.replies=s.replies:=by
 unfold cA;split
 · rfl
 · split<;>rfl
theorem js(s:MS δ)(x:RowT)(op:Int):(e5 K s x op).1.replies=s.replies:=by unfold e5;split<;>rfl
end
end Api
end

section
namespace Leg
open Go Codec Api Go.Conc
section
variable {P:Program} {w0:World} {F:Hl} {n:Nat} {ops:Array Oper} {Q:QQ} {is:List Nat} {D:List Deferred} {L:List (Nat×Value)} {H:List HP} {i d:Nat} {o:Oper}
theorem TX.recv1{x:Operand}{t e:TypeId}{dir:ChanDir}{c cap s r:Nat}{z v:Value}{vs vs0:List Value}(k:Nat)(ho:ops[i]?=some o)(hw:Want n D ops o L)(hop:o.op= .recv t x false)(hd:o.dst=some d)(hn:Nat.blt d n=true)(ht:P.underlying t=some (.chan dir e))(hz:(P.info? e).map (·.zero)=some (some z))
 (hx:cG L x=some (.chan (some c))) (hk:Nat.blt k H.length=true) (hH:H.getD k (λ_=>True)=dZ c cap vs0 s r) (he:vs0=v::vs)
 (h:TX P w0 F n ops Q is D ((d,v)::L) (H.set k (dZ c cap vs s (r+1)))):TX P w0 F n ops Q (i::is) D L H:=λa w f sm m=>by
 subst he;have hc:=m.chan k hk hH
 have hr:(execOp a.eval o).run P w= .ok (.comm #[{chan:= .chan (some c),send:=none,zero:=z}] true (.recv false)) w:=by
  simp[execOp,hop,f.eval hx,Sem.run_bind,run_underlying ht,nL hz]
 refine Ls (v:=v) (w2:=w.setChan c cap vs.toArray false s (r+1) false) ho (hw a f) hr (λfr cs es hs=>?_) ?_
 · have:=step_lone_recv_buf false hs hc (by simp)
   rw[this];simp[got]
 · rw[hd]
   exact h _ _ (f.put (lb hn) _) (sm.setChan ..) (m.setChan k hk hH)
theorem TX.send1{x y:Operand}{c cap s r:Nat}{v:Value}{vs:List Value}(k:Nat)(ho:ops[i]?=some o)(hw:Want n D ops o L)(hop:o.op= .send x y)(hd:o.dst=none)
 (hx:cG L x=some (.chan (some c))) (hy:cG L y=some v) (hk:Nat.blt k H.length=true) (hH:H.getD k (λ_=>True)=dZ c cap vs s r) (hroom:vs.length<cap)
 (h:TX P w0 F n ops Q is D L (H.set k (dZ c cap (vs++[v]) (s+1) r))):TX P w0 F n ops Q (i::is) D L H:=λa w f sm m=>by
 have hc:=m.chan k hk hH
 have hr:(execOp a.eval o).run P w= .ok (.comm #[{chan:= .chan (some c),send:=some v,zero:= .tuple #[]}] true .send) w:=by
  simp[execOp,hop,f.eval hx,f.eval hy,Sem.run]
 refine Ls (v:=undef) (w2:=w.setChan c cap (vs++[v]).toArray false (s+1) r false) ho (hw a f) hr (λfr cs es hs=>?_) ?_
 · have:=step_lone_send_room hs hc (by simpa using hroom)
   rw[this];simp
 · rw[hd]
   exact h _ _ f (sm.setChan ..) (m.setChan k hk hH)
end
def BF(k:Nat)(u:Value):Value:=if k=0 then .slice none 0 0 else u
theorem G9{α:Type}{l:List α}{k:Nat}(h:k<l.length):l.drop k++l.take k=l[k]::(l.drop (k+1)++l.take k):=by rw[dp h];rfl
theorem A8{α:Type}{l:List α}{k:Nat}(h:k<l.length):(l.drop (k+1)++l.take k)++[l[k]]=l.drop (k+1)++l.take (k+1):=by rw[aL,co h]
end Leg
namespace Leg
open Go
theorem HW{us:List Value}{k:Nat}(h:k=0)(hk:k<us.length):us[k]=BF (k+1) (us.getD 0 undef):=by
 subst h;unfold BF;rw[if_neg (by omega)];simp[List.getD_eq_getElem?_getD,hk]
theorem HU{u:Value}{k:Nat}(h: ¬k=0):BF k u=BF (k+1) u:=by unfold BF;rw[if_neg h,if_neg (by omega)]
theorem HV{u:Value}{k:Nat}(h: ¬k=0):BF k u=u:=if_neg h
end Leg
namespace Leg
open Go
def rM{α:Type}:List α→List α
 | []=>[]
 |a::l=>l++[a]
def GS{α:Type}(l:List α):Bool:=decide (l.length≠0∧l.length≠8)
def CB{α:Type}[Inhabited α](l:List α):List α:=if l.length≠0∧l.length≠8 then l++[l.getD 0 default]else l
end Leg
namespace Leg
open Go
def kR{α:Type}:Nat→List α→List α
 |0,l=>l
 |n+1,l=>rM (kR n l)
theorem Ff{α:Type}(l:List α):(rM l).length=l.length:=by cases l<;>simp[rM]
theorem jZ{α:Type}: ∀(n:Nat) (l:List α),(kR n l).length=l.length
 |0,_=>rfl
 |n+1,l=>by rw[kR,Ff,jZ n l]
theorem Fe{α:Type}{l:List α}{x:α}:x∈rM l↔x∈l:=by
 cases l with
 |nil=>rfl
 |cons a l=>simp[rM,or_comm]
theorem oj{α:Type}{x:α}: ∀(n:Nat) (l:List α),x∈kR n l↔x∈l
 |0,_=>Iff.rfl
 |n+1,l=>by rw[kR,Fe,oj n l]
theorem xX{α β:Type}(f:α→β)(l:List α):rM (l.map f)=(rM l).map f:=by cases l<;>simp[rM]
theorem IQ{α β:Type}[Inhabited α][Inhabited β](f:α→β)(l:List α):CB (l.map f)=(CB l).map f:=by
 unfold CB;rw[bU];split
 · rename_i h
   cases l with
   |nil=>exact absurd rfl h.1
   |cons a l=>simp
 · rfl
theorem IR{α β:Type}(f:α→β)(l:List α):GS (l.map f)=GS l:=by unfold GS;rw[bU]
end Leg
end

section
namespace Api
open Go Leg Codec Dsk Wal
instance :Inhabited MsgT:=⟨.zero⟩
structure LD where
 cnt:Nat
 used:Int
 D:DS
structure DkOk(D:DS):Prop where
 ok:D.Ok
 inn:Wal.DS.In D
 ws:D.ws.length≤2048
 up:D.dn=false→D.ws=[]
def Wrote(D:DS)(n:Nat)(r:Int×DS):Prop:=r.2.Ok∧Wal.DS.In r.2∧((D.dn=true∧r.2=D)∨(D.dn=false∧r.2.ws.length≤D.ws.length+n∧(r.1=0→r.2.dn=false)∧(r.1≠0→r.2.dn=true)))
theorem Wrote.none{D:DS}(h:D.Ok)(hi:Wal.DS.In D):Wrote D 0 (0,D):=⟨h,hi,by
 cases hd:D.dn
 · exact .inr ⟨rfl,aK _,λ_=>by first|exact hd|rfl,λq=>absurd rfl q⟩
 · exact .inl ⟨rfl,rfl⟩⟩
theorem Wrote.more{D:DS}{n m:Nat}{r:Int×DS}(h:Wrote D n r)(hm:n≤m):Wrote D m r:=⟨h.1,h.2.1,h.2.2.imp id λ⟨a,b,c⟩=>⟨a,by omega,c⟩⟩
theorem Wrote.one{D:DS}(h:D.Ok)(hi:Wal.DS.In D){at':Int}{bs:List UInt8}(h1:0≤at'∧at'<2048)(h2:bs.length≤64):Wrote D 1 (D.write at' bs):=by
 cases hd:D.dn
 · by_cases hc:D.ar=true∧D.lf=0
   · rw[Cv h1 h2 hc]
     exact⟨⟨h.s,h.ws,h.lf⟩,hi, .inr ⟨hd,Nat.le_succ _,(λq=>absurd q (by show ¬(4:Int)=0;decide)),λ_=>rfl⟩⟩
   · have h4:D.ar=false∨0<D.lf:=by
      have:=h.lf;cases q:D.ar
      · exact .inl rfl
      · right
        have:D.lf≠0:=λe=>hc ⟨q,e⟩
        omega
     rw[qz h1 h2 hd h4];exact⟨Er h h2 h4,Es hi h1, .inr ⟨hd,by simp[zq],λ_=>rfl,λq=>absurd rfl q⟩⟩
 · have e:D.write at' bs=(4,D):=by
    rw[DS.write,if_neg (by omega),if_pos (.inl hd)];cases D;simp only at hd;rw[hd]
   rw[e];exact⟨h,hi, .inl ⟨hd,rfl⟩⟩
theorem Wrote.then{D:DS}{n m:Nat}{r q:Int×DS}(h:Wrote D n r)(h0:r.1=0)(g:Wrote r.2 m q):Wrote D (n+m) q:=by
 obtain⟨_,_,h⟩:=h;refine⟨g.1,g.2.1,?_⟩;rcases h with⟨hd,e⟩| ⟨hd,hl,hz,_⟩
 · rw[e]at g
   rcases g.2.2 with⟨_,e2⟩| ⟨hd2,_⟩
   · exact .inl ⟨hd,e2⟩
   · rw[hd]at hd2;cases hd2
 · rcases g.2.2 with⟨hd2,_⟩| ⟨_,hl2,h3⟩
   · rw[hz h0]at hd2;cases hd2
   · exact .inr ⟨hd,by omega,h3⟩
theorem Wrote.writes: ∀(ss:List jP) (at':Int) (D:DS),D.Ok→Wal.DS.In D→0≤at'→at'+ss.length≤2048→(∀s∈ss,s.length=64)→Wrote D ss.length (gK ss at' D)
 | [],_,D,h,hi,_,_,_=>Wrote.none h hi
 |s::ss,at',D,h,hi,h0,h1,hs=>by
  simp only[ay]at h1;have h2:=hs s (by simp);have o:=Wrote.one h hi (at':=at') (bs:=s) (by omega) (by omega);rw[gK];split
  · rename_i hz
    have:=o.then hz (Wrote.writes ss (at'+1) _ o.1 o.2.1 (by omega) (by omega) λx hx=>hs x (by simp[hx]))
    rwa [lZ]at this
  · exact o.more (by simp)
theorem Wrote.wipes: ∀(n:Nat) (at':Int) (D:DS),D.Ok→Wal.DS.In D→0≤at'→at'+n≤2048→Wrote D n (jw n at' D)
 |0,_,D,h,hi,_,_=>Wrote.none h hi
 |n+1,at',D,h,hi,h0,h1=>by
  rw[jw];split
  · exact(Wrote.wipes n (at'+1) D h hi (by omega) (by omega)).more (by omega)
  · have o:=Wrote.one h hi (at':=at') (bs:=[]) (by omega) (by simp)
    split
    · rename_i hz
      have:=o.then hz (Wrote.wipes n (at'+1) _ o.1 o.2.1 (by omega) (by omega))
      rwa [lZ]at this
    · exact o.more (by omega)
theorem DkOk.wrote{D:DS}(h:DkOk D){n:Nat}{r:Int×DS}(g:Wrote D n r)(hn:n≤2048):(r.1≠0→DkOk r.2)∧DkOk r.2.sync.2:=by
 obtain⟨ho,hi,hr⟩:=g;rcases hr with⟨hd,e⟩| ⟨hd,hl,h0,h1⟩
 · rw[e]
   refine⟨λ_=>h,?_⟩;rw[DS.sync,if_pos hd];exact h
 · rw[h.up hd]at hl
   simp only[aD,bl]at hl;refine⟨λq=>⟨ho,hi,by omega,λz=>by rw[h1 q]at z;cases z⟩,?_⟩
   by_cases q:r.1=0
   · obtain⟨_,s2,_⟩:=s8 (h0 q)
     exact⟨DS.sync_ok ho,Ej hi,by rw[s2];exact aO _,λ_=>s2⟩
   · rw[DS.sync,if_pos (h1 q)]
     exact⟨ho,hi,by show r.2.ws.length≤2048;omega,λz=>by rw[show r.2.dn=true from h1 q]at z;cases z⟩
theorem vE{D:DS}(hI:Wal.DS.In D)(hD:D.Ok): ∀(f:Nat) (cnt used:Int),0≤used→used≤2048→0≤(fQ D.read f cnt used).2∧(fQ D.read f cnt used).2≤2048∧(fQ D.read f cnt used).1.length≤f
 |0,_,_,h0,h1=>⟨h0,h1,aK _⟩
 |f+1,cnt,used,h0,h1=>by
  rw[fQ];split
  · exact⟨h0,h1,aO _⟩
  · rename_i b all h
    have h2:=oo hI hD h0 h;have h3:=(k8 (lO hD _) h).1;obtain⟨a,b',c⟩:=vE hI hD f (cnt+1) (used+all) (by omega) h2;exact⟨a,b',by simp only[ay];omega⟩
theorem DkOk.open{D:DS}(h:DkOk D):DkOk (bL D).D∧0≤(bL D).used∧(bL D).used≤2048∧(bL D).recs.length≤2049:=by
 obtain⟨a,b,c⟩:=vE h.inn h.ok jf 0 0 (by omega) (by omega);rw[sy]at c;have w:=h.wrote (Wrote.wipes (2048- (fQ D.read jf 0 0).2).toNat _ D h.ok h.inn a (by omega)) (by omega);unfold bL;simp only;split
 · rename_i q;exact⟨w.1 q,by show(0:Int)≤0;omega,by show(0:Int)≤2048;omega,aO _⟩
 · split
   · exact⟨w.2,by show(0:Int)≤0;omega,by show(0:Int)≤2048;omega,aO _⟩
   · exact⟨w.2,a,b,by rw[←sy]at c;exact c⟩
theorem DkOk.arm{D:DS}(h:DkOk D)(n:Int)(hn:n≤9223372036854775807):DkOk (D.arm n):=⟨⟨h.ok.s,h.ok.ws,by show 0≤max n 0∧max n 0≤9223372036854775807;omega⟩,h.inn,h.ws,h.up⟩
theorem DkOk.crash{D:DS}(h:DkOk D)(mask torn cut:Int):DkOk (D.crash mask torn cut):=by
 have c:=Calm.crash h.ok h.inn mask torn cut;exact⟨c.ok,c.inn,aO _,λ_=>rfl⟩
theorem DkOk.new:DkOk .new:=⟨⟨mu,mu,by simp[DS.new],by simp[DS.new]⟩,⟨OK,OK⟩,aO _,λ_=>rfl⟩
structure LD.Ok(e:LD):Prop where
 dk:DkOk e.D
 used:0≤e.used∧e.used≤2048
 cnt:(e.cnt:Int)≤4100+e.used
def LD.put(e:LD)(bs:List UInt8):LD×Int:=(⟨(oy e.D e.cnt e.used bs).cnt,(oy e.D e.cnt e.used bs).used,(oy e.D e.cnt e.used bs).D⟩,(oy e.D e.cnt e.used bs).err)
theorem LD.put_ok(e:LD)(bs:List UInt8)(h:e.Ok)(hb:bs.length≤3000):(e.put bs).1.Ok:=by
 obtain⟨⟨ho,hi,hw,hu⟩,h1,h2⟩:=h;unfold LD.put oy;rw[if_neg (by omega)]
 by_cases hf:(bu bs.length:Int)>2048-e.used
 · rw[if_pos hf];exact⟨⟨ho,hi,hw,hu⟩,h1,h2⟩
 rw[if_neg hf];have hp:0<bu bs.length:=pG _;have hl:(cg ((e.cnt+1:Nat):Int) bs).length=bu bs.length:=eB _ _;have w:=DkOk.wrote ⟨ho,hi,hw,hu⟩ (Wrote.writes (cg ((e.cnt+1:Nat):Int) bs) e.used e.D ho hi h1.1 (by omega) (zg _ _)) (by omega);simp only;split
 · rename_i q;exact⟨w.1 q,h1,h2⟩
 · split
   · exact⟨w.2,h1,h2⟩
   · exact⟨w.2,(by show 0≤e.used+(bu bs.length:Int)∧e.used+(bu bs.length:Int)≤2048;omega),by show((e.cnt+1:Nat):Int)≤4100+(e.used+bu bs.length);omega⟩
def KD:Dk LD:=⟨LD.put,λe=>e.D.dn,LD.Ok,LD.put_ok⟩
structure Slot where
 run:Option (MS LD)
 D:DS
 past:List ReplyT
structure CL where
 ms:List Slot
 W:List (List MsgT)
def Slot.nil:Slot:=⟨none, .new,[]⟩
def CL.at'(a:CL)(i:Nat):Slot:=a.ms.getD i .nil
def Slot.dk(x:Slot):DS:=match x.run with
 |some s=>s.e.D
 |none=>x.D
def Slot.reps(x:Slot):List ReplyT:=x.past++(match x.run with
 |some s=>s.replies
 |none=>[])
def Slot.up(x:Slot):Bool:=match x.run with
 |some s=> !s.e.D.dn
 |none=>false
def CL.set(a:CL)(i:Nat)(x:Slot):CL:= {a with ms:=a.ms.set i x}
def r9(W:List (List MsgT))(f:Nat)(s:SaidT):List (List MsgT):=if dG ((f:Nat):Int) s.to' then W.set (bB ((f:Nat):Int) s.to') (if(W.getD (bB ((f:Nat):Int) s.to') []).length<8 then W.getD (bB ((f:Nat):Int) s.to') []++[s.msg]else W.getD (bB ((f:Nat):Int) s.to') [])else W
def gO(W:List (List MsgT))(f:Nat)(l:List SaidT):List (List MsgT):=l.foldl (λW s=>r9 W f s) W
def MS.hush{δ:Type}(s:MS δ):MS δ:= {s with o:=[]}
def CL.did(a:CL)(i:Nat)(s:MS LD):CL:=⟨a.ms.set i {a.at' i with run:=some s.hush},gO a.W i s.o⟩
def MS.dsk(s:MS LD)(D:DS):MS LD:= {s with e:= {s.e with D:=D}}
def xB(x:Slot)(n:Int):Slot:=match x.run with
 |some s=> {x with run:=some (s.dsk (s.e.D.arm n))}
 |none=> {x with D:=x.D.arm n}
def nw(x:Slot)(mask torn cut:Int):Slot:=⟨none,x.dk.crash mask torn cut,x.reps⟩
def cY(i:Nat)(D:DS):Option (MS LD)×Int:=
 if(bL D).err≠0 then(none,(bL D).err)
 else match lq (bL D).recs (Bl ((i:Nat):Int) (⟨(bL D).recs.length,(bL D).used,(bL D).D⟩:LD))with
  |none=>(none,1)
  |some s=>(some s,0)
def j5(i:Nat)(x:Slot):Slot×Int:=match x.run with
 |some _=>(x,5)
 |none=>({x with run:=(cY i x.D).1,D:=(bL x.D).D},(cY i x.D).2)
def wL(a:CL)(f t:Nat)(m:MsgT):CL×Int:=match(a.at' t).run with
 |none=>(a,0)
 |some s=>if s.e.D.dn then(a,0)else if(jF (dX m)).2=0 then(a.did t (gk KD s ((f:Nat):Int) (jF (dX m)).1),0)else(a,(jF (dX m)).2)
def CL.way(a:CL)(k:Nat)(l:List MsgT):CL:= {a with W:=a.W.set k l}
def pk(a:CL)(o:OpT):CL×Int:=
 if dG o.at' o.to'=false then(a,5)
 else match a.W.getD (bB o.at' o.to') []with
  | []=>(a,10)
  |m::l=>
   if o.kind=7 then(if GS (m::l)then(a.way (bB o.at' o.to') (CB (m::l)),0)else(a,3))
   else match kR (max o.n 0% ((m::l).length:Int)).toNat (m::l)with
    | []=>(a,0)
    |m::l=>if o.kind=6 then(a.way (bB o.at' o.to') l,0)else wL (a.way (bB o.at' o.to') l) o.at'.toNat o.to'.toNat m
def Gy(a:CL)(i:Nat)(o:OpT):CL×Int:=match(a.at' i).run with
 |none=>(a,4)
 |some s=>if s.e.D.dn then(a,4)else(a.did i (bY KD s o).1,(bY KD s o).2)
def Fh(a:CL)(i:Nat):CL×Int:=match(a.at' i).run with
 |none=>(a,4)
 |some s=>if s.e.D.dn then(a,4)else(a.did i (iD KD s),0)
def Cp(a:CL)(o:OpT):CL×Int:=
 if iF o.at'=false then(a,5)
 else if 0≤o.kind∧o.kind≤4 then Gy a o.at'.toNat o
 else if o.kind=5∨o.kind=6∨o.kind=7 then pk a o
 else if o.kind=8 then Fh a o.at'.toNat
 else if o.kind=9 then(a.set o.at'.toNat (xB (a.at' o.at'.toNat) o.n),0)
 else if o.kind=10 then(a.set o.at'.toNat (nw (a.at' o.at'.toNat) o.mask o.torn o.cut),0)
 else if o.kind=11 then(a.set o.at'.toNat (j5 o.at'.toNat (a.at' o.at'.toNat)).1,(j5 o.at'.toNat (a.at' o.at'.toNat)).2)
 else(a,5)
def ln(a:CL)(l:List OpT):CL:=l.foldl (λa o=>(Cp a o).1) a
def si(i:Nat):Slot:=(j5 i .nil).1
def CL.new:CL:=⟨(List.range 5).map si,List.replicate 25 []⟩
structure Fresh{δ:Type}(i:Int)(e:δ)(s:MS δ):Prop where
 id:s.id=i
 vote:s.vote=none
 replies:s.replies=[]
 e:s.e=e
 o:s.o=[]
 waits:s.waits=0
 ops:s.ops=0
theorem Fresh.rest{δ:Type}{i:Int}{e:δ}{s:MS δ}(h:Fresh i e s)(m:RecT):Fresh i e (jz s m):=by
 obtain⟨h1,h2,h3,h4,h5,h6,h7⟩:=h;unfold jz
 repeat' split
 all_goals exact⟨h1,by first|exact h2|rfl,h3,h4,h5,h6,h7⟩
theorem Fresh.new{δ:Type}(i:Int)(e:δ):Fresh i e (Bl i e):=⟨rfl,rfl,rfl,rfl,rfl,rfl,rfl⟩
theorem Fresh.read{δ:Type}{i:Int}{e:δ}: ∀(l:List (List UInt8)) {s s':MS δ},Fresh i e s→lq l s=some s'→Fresh i e s'
 | [],s,s',h,q=>by
  obtain rfl:=dR q;exact h
 |b::l,s,s',h,q=>by
  rw[lq]at q;split at q
  · cases q
  · exact Fresh.read l (h.rest _) q
theorem tK{i:Nat}{D:DS}{s:MS LD}(h:(cY i D).1=some s):(bL D).err=0∧lq (bL D).recs (Bl ((i:Nat):Int) (⟨(bL D).recs.length,(bL D).used,(bL D).D⟩:LD))=some s:=by
 unfold cY at h;split at h
 · cases h
 · rename_i h0
   refine⟨Decidable.not_not.1 h0,?_⟩;split at h
   · cases h
   · rename_i h2;rw[h2];exact h
theorem yY{v:ViewT}{bs r:List UInt8}(h:kN bs=some (v,r)):OkVw v:=by
 obtain⟨⟨h1,h2,_⟩,_⟩:=sY h;have hr:=rF h;exact⟨hr,CA ⟨by omega,by omega⟩ ⟨by omega,by omega⟩ hr⟩
theorem qe{b:BallotT}{bs r:List UInt8}(h:iH bs=some (b,r)):WF b.flat:=by
 obtain⟨⟨h1,h2⟩,_⟩:=pV h;exact OkB.wf ⟨h1,h2⟩
theorem DX{c:ChangeT}{bs r:List UInt8}(h:jX bs=some (c,r)):WF c.flat:=by
 obtain⟨⟨h1,h2,h3⟩,_⟩:=ul h;exact OkC.wf ⟨h1,h2,h3⟩
theorem C4{x:RowT}{bs r:List UInt8}(h:rW bs=some (x,r)):OkRow x:=OkRow.of (zi h)
theorem KY{m:MsgT}{g:Bool}{bs r:List UInt8}(h:cL bs=some ((m,g),r)):OkMg m:=by
 obtain⟨k,r1,_,h⟩:=bG h
 have fin: ∀{m':MsgT} {g':Bool} {b r:List UInt8},pr (m',g') b=some ((m,g),r)→OkMg m'→OkMg m:=λh q=>by
  obtain⟨e,_⟩:=hJ h;injection e with e1 e2
  exact e1▸q
 split at h
 · obtain⟨_,_,_,h⟩:=bG h;obtain⟨x,_,hx,h⟩:=bG h;exact fin h ⟨C4 hx, .zero,gG,gG,oY⟩
 split at h
 · obtain⟨_,_,_,h⟩:=bG h;exact fin h ⟨.zero, .zero,gG,gG,oY⟩
 split at h
 · obtain⟨_,_,_,h⟩:=bG h;obtain⟨b,_,hb,h⟩:=bG h;exact fin h ⟨.zero, .zero,qe hb,gG,oY⟩
 split at h
 · obtain⟨_,_,_,h⟩:=bG h;obtain⟨b,_,hb,h⟩:=bG h;obtain⟨d,_,hd,h⟩:=bG h;obtain⟨c,_,hc,h⟩:=bG h;exact fin h ⟨.zero, .zero,qe hb,qe hd,DX hc⟩
 split at h
 · obtain⟨_,_,_,h⟩:=bG h;obtain⟨b,_,hb,h⟩:=bG h;obtain⟨c,_,hc,h⟩:=bG h;exact fin h ⟨.zero, .zero,qe hb,gG,DX hc⟩
 split at h
 · obtain⟨v,_,hv,h⟩:=bG h;exact fin h ⟨.zero,yY hv,gG,gG,oY⟩
 split at h
 · obtain⟨_,_,_,h⟩:=bG h;obtain⟨v,_,hv,h⟩:=bG h;exact fin h ⟨.zero,yY hv,gG,gG,oY⟩
 · exact fin h ⟨.zero, .zero,gG,gG,oY⟩
class OkRd(m:RecT):Prop where
 row:OkRow m.row
 view:OkVw m.view
 ballot:WF m.ballot.flat
 change:WF m.change.flat
theorem KE{m:RecT}{g:Bool}{bs r:List UInt8}(h:cZ bs=some ((m,g),r)):OkRd m:=by
 obtain⟨k,r1,_,h⟩:=bG h
 have fin: ∀{m':RecT} {g':Bool} {b r:List UInt8},pr (m',g') b=some ((m,g),r)→OkRd m'→OkRd m:=λh q=>by
  obtain⟨e,_⟩:=hJ h;injection e with e1 e2
  exact e1▸q
 split at h
 · obtain⟨x,_,hx,h⟩:=bG h;exact fin h ⟨C4 hx, .zero,gG,oY⟩
 split at h
 · obtain⟨_,_,_,h⟩:=bG h;obtain⟨x,_,hx,h⟩:=bG h;exact fin h ⟨C4 hx, .zero,gG,oY⟩
 split at h
 · obtain⟨_,_,_,h⟩:=bG h;exact fin h ⟨.zero, .zero,gG,oY⟩
 split at h
 · obtain⟨_,_,_,h⟩:=bG h;obtain⟨b,_,hb,h⟩:=bG h;exact fin h ⟨.zero, .zero,qe hb,oY⟩
 split at h
 · obtain⟨_,_,_,h⟩:=bG h;obtain⟨b,_,hb,h⟩:=bG h;obtain⟨c,_,hc,h⟩:=bG h;exact fin h ⟨.zero, .zero,qe hb,DX hc⟩
 split at h
 · obtain⟨v,_,hv,h⟩:=bG h;exact fin h ⟨.zero,yY hv,gG,oY⟩
 · exact fin h ⟨.zero, .zero,gG,oY⟩
theorem ET(bs:List UInt8):OkMg (jF bs).1:=by
 unfold jF;split
 · rename_i m h;exact KY h
 · exact⟨.zero, .zero,gG,gG,oY⟩
theorem Jn(bs:List UInt8):OkRd (mn bs).1:=by
 unfold mn;split
 · rename_i m h;exact KE h
 · exact⟨.zero, .zero,gG,oY⟩
section
variable {δ:Type} {K:Dk δ} {s:MS δ}
theorem IZ(h:OkR K s)(m:RecT)(hm:OkRd m):OkR K (jz s m):=by
 have ha:OkAc s.acc:=⟨h.acc⟩;unfold jz;split
 · exact⟨h.e,h.id,h.view,hm.row,h.mir,h.book,h.last,h.acc,h.vote⟩
 split
 · have:=hm.row;exact inferInstance
 split
 · exact inferInstance
 split
 · exact⟨h.e,h.id,h.view,h.own,h.mir,h.book,h.last,lQ (lQ (lQ ha.epoch hm.ballot) ha.had) ha.change,h.vote⟩
 split
 · exact⟨h.e,h.id,h.view,h.own,h.mir,h.book,h.last,lQ (lQ (lQ ha.epoch hm.ballot) hm.ballot) hm.change,h.vote⟩
 split
 · have:=hm.view;exact inferInstance
 · exact h
theorem y1{v:Vector RowT 5}(h:v= #v[.zero, .zero, .zero, .zero, .zero])(i:Nat)(hi:i<5):OkRow v[i]:=by
 subst h
 match i,hi with
 |0,_|1,_|2,_|3,_|4,_=>exact OkRow.zero
theorem Jc{i:Int}{e:δ}(he:K.ok e)(hi:cI i=true):OkR K (Bl i e):=
 ⟨he,hi, .first, .zero,y1 rfl,y1 rfl,y1 rfl,M6 _ (by decide),λ_ q=>nomatch q⟩
theorem Ba: ∀(l:List (List UInt8)) {s s':MS δ},OkR K s→lq l s=some s'→OkR K s'
 | [],s,s',h,q=>by
  obtain rfl:=dR q;exact h
 |b::l,s,s',h,q=>by
  rw[lq]at q;split at q
  · cases q
  · exact Ba l (IZ h _ (Jn b)) q
theorem s9{i:Nat}(hi:i<5){D:DS}(hD:DkOk D){s:MS LD}(h:(cY i D).1=some s):OkR KD s∧Fresh ((i:Nat):Int) (⟨(bL D).recs.length,(bL D).used,(bL D).D⟩:LD) s:=by
 obtain⟨_,h2⟩:=tK h;obtain⟨o1,o2,o3,o4⟩:=hD.open;exact⟨Ba _ (Jc (K:=KD) ⟨o1,⟨o2,o3⟩,by show(((bL D).recs.length:Nat):Int)≤4100+(bL D).used;omega⟩ (decide_eq_true ⟨by omega,by omega⟩)) h2,Fresh.read _ (Fresh.new _ _) h2⟩
end
end Api
end

section
namespace Go.Proofs.YtjblgopghhgflaaGreat
open Go Leg Codec Api Dsk Wal
theorem Ac(b c s r:Nat)(us:List Value)(x:Value)(bs:List UInt8)(hb:bs.length≤1000000)(hroom:us.length<8):
 DT 138 #[(.pointer (some ⟨b,0,none⟩)),x] (IsW x bs) [ah b [(.chan (some c))] 208,dZ c 8 (us) (s) (r)] (dm (λv H=>v= .bool true∧∃u,H=[ah b [(.chan (some c))] 208,dZ c 8 (us++[u]) (s+1) r,dQ u bs 5])):=by
 refine Leg.Does.body (vs:=[(.pointer (some ⟨b,0,none⟩)),x]) (n:=15) Tryz.func138 rfl rfl rfl (λw0 F hF=>?_);refine sr λ_ J1=>?_
 refine pa ?_;refine nx J1 ?_;refine ab λ_ J2=>?_
 refine sr λ_ J3=>?_
 refine mv ?_;refine tp (fX rfl rfl) ?_;refine tp (aY (r:=0) rfl Ch rfl tI rfl rfl) ?_;refine tp (fc (v:=(.chan (some c))) rfl uF rfl rfl (dN 0 rfl rfl) rfl) ?_;refine nx J3 ?_;refine ad ?_;refine Cj (aa rfl) rfl rfl rfl gp k0 (λv9=>?_);change TL _ _ _ _ _ _ _ _ _ [dQ v9 ([]) 5,ah b [(.chan (some c))] 208,dZ c 8 (us) (s) (r)];refine mv ?_;refine cH (k:=0) (news:=eb (bs)) (nn':=(bs:List UInt8).length) (xs':=eb (bs)) (aa rfl) rfl rfl rfl gp yv rfl rfl rfl rfl rfl rfl (λ_ _=>hF.src (λ_ h=>ez h)) (eU _) (by simp only[maxLen,aD];omega) (by simp only[aD];omega) (by simp) (be _) (λv11 ov11=>?_);change TL _ _ _ _ _ _ _ _ _ [dQ v11 (bs) 5,ah b [(.chan (some c))] 208,dZ c 8 (us) (s) (r)];refine nx J2 ?_;refine ab λ_ J4=>?_
 refine xG ?_;change TX _ _ _ _ _ _ [0,1,2] _ _ _;refine TX.sendRoom 2 rfl (aa rfl) rfl rfl rfl Lp rfl rfl rfl rfl hroom ?_;change TX _ _ _ _ _ _ _ _ _ [dQ v11 (bs) 5,ah b [(.chan (some c))] 208,dZ c 8 (us++[v11]) (s+1) (r)];refine sN rfl (aa rfl) rfl rfl (lK (vs:=[(.int .i64 0),(.bool false)]) rfl rfl rfl) ?_;refine sN rfl (aa rfl) rfl rfl (M9 rfl rfl rfl) ?_;refine JB ?_;refine ac J4 ?_;refine aq ?_;refine iO rfl ?_;refine sr λ_ J5=>?_
 refine pa ?_;refine nx J5 ?_;refine ai ?_;refine aH ?_;refine aF (di _) (λ_ s=>ak [1,1,0] rfl s) ?_;refine au rfl rfl ?_;exact⟨rfl,_,rfl⟩
theorem wR(b c s r:Nat)(us:List Value)(ls:List (List UInt8))(h8:ls.length≤8)(hb: ∀x∈ls,x.length≤1000000):
    DT 101 #[(.pointer (some ⟨b,0,none⟩))] T0 [ah b [(.chan (some c))] 208,dZ c 8 (us) (s) (r),eA (us) (ls) 5] (dm (λv H=>((ls.length=0∨ls.length=8)∧v= .bool false∧H=[ah b [(.chan (some c))] 208,dZ c 8 us s r,eA us ls 5])∨(ls.length≠0∧ls.length≠8∧v= .bool true∧∃un,H=[ah b [(.chan (some c))] 208,dZ c 8 (us++[un]) (s+us.length+1) (r+us.length),eA us ls 5,dQ un (ls.getD 0 []) 5]))):=by
 refine BD 41 Tryz.func101 rfl rfl rfl λw0 F hF=>sr λ_ J1=>PS ?_
 refine nx J1 (sr λ_ J2=>PS ?_);refine CE tV (sJ b c s r us ls) ID ?_;change TL _ _ _ _ _ _ _ _ _ [ah b [(.chan (some c))] 208,dZ c 8 (us) (s) (r),eA (us) (ls) 5];refine xE (p:=us.length=ls.length) (λw m=>(qc 2 rfl rfl m).1) (λhul=>PS ?_);refine nx J2 (ab λ_ J3=>sr λ_ J4=>P2 ?_);refine an ?_ ?_<;>intro h10;refine PS ?_
 iterate 7 refine UT ?_
 refine PS ?_;refine nx J4 (CY (sr λ_ J5=>PS ?_));refine nx J5 (ai (ae (WK [0,0,0] (au rfl rfl ?_))));exact .inl ⟨by omega,rfl,rfl⟩;refine P4 ?_;refine FA 0 Ch tI ?_;refine LA 0 uF ?_;refine tq (PV.capChan 1 rfl uF rfl rfl rfl) ?_;refine PS ?_;refine an ?_ ?_<;>intro h18;refine PS ?_;refine nx J4 (CY (sr λ_ J6=>PS ?_));refine nx J6 (ai (ae (WK [0,0,0] (au rfl rfl ?_))));exact .inl ⟨by omega,rfl,rfl⟩;refine PS ?_;refine nx J4 (CN (qx J3 (sr λ_ J7=>PS ?_)));refine nx J7 (ab λ_ J8=>sr λ_ J9=>P2 ?_);refine nx J9 (aq ?_)
 refine bp (α:=(Nat)) (λk=>k≤us.length) (λk=>[(0,(.pointer (some ⟨b,0,none⟩))),(2,(.bool false)),(4,(BF k (us.getD 0 undef))),(20,(.int .i64 (((ls.length:Nat):Int)))),(21,(.int .i64 (((k:Nat):Int))))]) (λk=>[ah b [(.chan (some c))] 208,dZ c 8 (us.drop k++us.take k) (s+k) (r+k),eA (us) (ls) 5]) (λk=>us.length-k) 0
     (aO _) SB
     (λ_ q=>by simpa using q) (λk hinv=>?_)
 obtain hk:=hinv;refine sr λ_ J10=>PS ?_
 refine an ?_ ?_<;>intro h22;have hku:k<us.length:=by omega
 refine nx J10 (ab λ_ J11=>CY (qx J11 (ab λ_ J12=>aq (sr λ_ J13=>P2 ?_))));refine nx J13 (ab λ_ J14=>xG (sN rfl (aa rfl) rfl rfl (ck rfl rfl) (sN rfl (aa rfl) rfl rfl (fX rfl rfl) (sN rfl (aa rfl) rfl rfl (aY (r:=0) rfl Ch rfl tI rfl rfl) (sN rfl (aa rfl) rfl rfl (fc (v:=(.chan (some c))) rfl uF rfl rfl (RO 0) rfl) (TX.recv1 1 rfl (aa rfl) rfl rfl rfl uF Lp rfl rfl rfl (G9 hku) (sN rfl (aa rfl) rfl rfl (o7 rfl rfl) (JB (ac J14 (ab λ_ J15=>?_))))))))));refine sr λ_ J16=>P2 ?_
 refine an ?_ ?_<;>intro h30;refine nx J16 (CY (ad (P2 ?_)));refine nx J15 (xG (sN rfl (aa rfl) rfl rfl (ck rfl rfl) (sN rfl (aa rfl) rfl rfl (fX rfl rfl) (sN rfl (aa rfl) rfl rfl (aY (r:=0) rfl Ch rfl tI rfl rfl) (sN rfl (aa rfl) rfl rfl (fc (v:=(.chan (some c))) rfl uF rfl rfl (RO 0) rfl) (sN rfl (aa rfl) rfl rfl (ck rfl rfl) (TX.send1 1 rfl (aa rfl) rfl rfl rfl rfl rfl rfl (by simp only[aj,cz,bn];omega) (JB (af (ac J12 (ad ?_)))))))))));refine AD ?_;refine PS ?_;refine ap ?_
 exact aI ((k+1):(Nat)) (by omega) (by show us.length- (k+1)<us.length-k;omega)
   (aM (aM (bg rfl (by first|exact HW (by omega) hku|exact HU (by omega)) SB)))
   (λ_ q=>by
      rw[A8 hku]at q
      exact q)
 refine nx J16 (CN (qx J15 (xG (sN rfl (aa rfl) rfl rfl (ck rfl rfl) (sN rfl (aa rfl) rfl rfl (fX rfl rfl) (sN rfl (aa rfl) rfl rfl (aY (r:=0) rfl Ch rfl tI rfl rfl) (sN rfl (aa rfl) rfl rfl (fc (v:=(.chan (some c))) rfl uF rfl rfl (RO 0) rfl) (sN rfl (aa rfl) rfl rfl (ck rfl rfl) (TX.send1 1 rfl (aa rfl) rfl rfl rfl rfl rfl rfl (by simp only[aj,cz,bn];omega) (JB (af ?_)))))))))));refine ac J12 (ad (AD ?_));refine PS ?_;refine ap ?_
 exact aI ((k+1):(Nat)) (by omega) (by show us.length- (k+1)<us.length-k;omega)
   (aM (aM (bg rfl (by first|exact HW (by omega) hku|exact HU (by omega)) SB)))
   (λ_ q=>by
      rw[A8 hku]at q
      exact q)
 obtain rfl:k=us.length:=by omega
 have hpos:0<ls.length:=by omega
 have hg:ls.getD 0 []=ls[0]:=by simp[List.getD_eq_getElem?_getD,hpos]
 refine cr (H':=[ah b [(.chan (some c))] 208,dZ c 8 us (s+us.length) (r+us.length),eA us ls 5]) (λ_ q=>by simpa using q) (nx J10 (ab λ_ J17=>CN (aW (az (az (bm (ac J8 (sr λ_ J18=>P2 ?_))))))))
 refine gV (aa rfl) rfl rfl rfl Hv rfl (Ac b c (s+us.length) (r+us.length) us (BF us.length (us.getD 0 undef)) (ls.getD 0 []) (hb _ (hg▸dW hpos)) (by omega)) (λ_ s=>s) (λg d s=>by
          rw[HV (by omega),hg]
          exact Iy (tw 0 hpos rfl rfl g d s)) (λvR HR hR=>?_)
 obtain⟨rfl,un,rfl⟩:=hR;refine PS ?_;refine nx J18 (ai (WK [0,0,1,0] (au rfl rfl ?_)));exact .inr ⟨by omega,by omega,rfl,un,rfl⟩
theorem xy(b:Nat)(ls:List (List UInt8))(h8:ls.length≤8)(hb: ∀x∈ls,x.length≤1000000):DT 101 #[.pointer (some ⟨b,0,none⟩)] T0 [gF 208 5 b ls] (RI (.bool (GS ls)) [gF 208 5 b (CB ls)]):=
 Leg.Does.pack (B:=[]) λq=>Leg.Does.fold (wR b q.1 q.2.2.1 q.2.2.2 q.2.1 ls h8 hb) λe H hp=>by
  cases e with
  |returned v=>
   unfold GS CB;rcases hp with⟨h,rfl,rfl⟩| ⟨h1,h2,rfl,un,rfl⟩
   · exact⟨[gF 208 5 b ls],λ_ s=>bj (p:=λq:Nat×List Value×Nat×Nat=>[ah b [.chan (some q.1)] 208,dZ q.1 8 q.2.1 q.2.2.1 q.2.2.2,eA q.2.1 ls 5]) (H:=[]) q s,by rw[decide_eq_false (by omega)],by rw[if_neg (by omega)]⟩
   · refine⟨[gF 208 5 b (ls++[ls.getD 0 []])],λ_ s=>?_,by rw[decide_eq_true (by omega)],by rw[if_pos (by omega)];rfl⟩
     have s1:=zc 3 rfl rfl s;have s2:=aC [2,2] rfl s1;have s3:=tE s2;exact bj (p:=λq:Nat×List Value×Nat×Nat=>[ah b [.chan (some q.1)] 208,dZ q.1 8 q.2.1 q.2.2.1 q.2.2.2,eA q.2.1 (ls++[ls.getD 0 []]) 5]) (H:=[]) (q.1,q.2.1++[un],q.2.2.1+q.2.1.length+1,q.2.2.2+q.2.1.length) (aC [1,1,0] rfl s3)
  |panicked c=>exact hp.elim
  |outgrown=>exact hp.elim
theorem sH(b:Nat)(ls:List (List UInt8))(h8:ls.length≤8)(hb: ∀x∈ls,x.length≤1000000):
 DT 102 #[(.pointer (some ⟨b,0,none⟩))] T0 [gF 208 5 b (ls)] (dm (λv H=>H=[gF 208 5 b (rM ls)])):=by
 refine BD 16 Tryz.func102 rfl rfl rfl λw0 F hF=>sr λ_ J1=>PS ?_
 refine nx J1 (sr λ_ J2=>PS ?_);refine CR Kb (sI b ls) ID λvR HR hR=>?_
 rcases hR with⟨rfl,rfl,rfl⟩| ⟨u,f,lt,rfl,rfl,rfl⟩
 refine P4 ?_;refine PS ?_;refine nx J2 (sr λ_ J3=>P2 ?_)
 iterate 3 refine UF ?_
 refine P2 ?_;exact nx J3 (ai (WK [0] (au rfl rfl rfl)));refine P4 ?_;refine PS ?_;refine nx J2 (sr λ_ J4=>P4 ?_);refine CF Hv (uq b lt u f (hb f (ki ..))) ID (λg d s=>Iy (zJ 0 rfl rfl g d s)) ?_;refine P2 ?_;refine nx J4 (ai (WK [0] (au rfl rfl ?_)));exact congrArg (λq=>[gF 208 5 b q]) (if_pos (show lt.length<8 by have:=h8;rw[ay]at this;omega))
end Go.Proofs.YtjblgopghhgflaaGreat
end

section
namespace Leg
open Go
def RdG(S:World→Prop)(b:Nat){α:Type}(c:α→List Value)(T:TypeId):Prop:=∀w,S w→∃a,w.heap[b]?=some (.cells (c a).toArray T (0,0))
abbrev hid{α:Type}(b:Nat)(c:α→List Value)(T:TypeId)(R:α→List HP):HP:=pack (λa=>ah b (c a) T::R a)
section
variable {P:Program} {w0:World} {F:Hl} {n:Nat} {ops:Array Oper} {Q:QQ} {D:List Deferred} {L:List (Nat×Value)} {H:List HP} {o:Oper} {l:List Oper} {d:Nat} {S:World→Prop} {α:Type} {b j:Nat} {c c':α→List Value} {T:TypeId} {R R':α→List HP}
theorem Sat.packOpen{p:α→List HP}{w:World}(i:Nat)(s:Sat H F w)(hi:i<H.length)(hH:H.getD i (λ_=>True)=pack p): ∃a,Sat (p a++H.eraseIdx i) F w:=by
 obtain⟨h,d,e,x⟩:=s;have y:=eW i hi x;rw[hH]at y;obtain⟨a,z⟩:=fo (p:=p) (H:=H.eraseIdx i) (h:=h) y;exact⟨a,h,d,e,z⟩
theorem Sat.packShut{p:α→List HP}{w:World}(i:Nat)(hi:i<H.length)(a:α)(s:Sat (p a++H.eraseIdx i) F w):Sat (H.set i (pack p)) F w:=by
 obtain⟨h,d,e,x⟩:=s;exact⟨h,d,e,kr i hi (bj a x)⟩
theorem RdG.own(i:Nat)(hi:Nat.blt i H.length=true)(hH:H.getD i (λ_=>True)=hid b c T R):RdG (Sat H F) b c T:=λw s=>by
 obtain⟨a,t⟩:=s.packOpen i (lb hi) hH;exact⟨a,t.block 0 (by simp) rfl⟩
abbrev cO:= @RdG.own
theorem PV.load1G{t:TypeId}{x:Operand}{dt:TypeDesc}{v:Value}(ho:o.op= .load t x)(ht:P.underlying t=some dt)(hp:ei dt=true)(hx:cG L x=some (.pointer (some ⟨b,j,none⟩)))(hR:RdG S b c T)(hc: ∀a,(c a)[j]?=some v):PV P n D L S o v:=
 λa w f m=>by
  obtain⟨y,hy⟩:=hR w m;exact fc (S:=λw'=>w'=w) ho ht hp hx (λ_ e=>e▸hy) (hc y) a w f rfl
abbrev c8:= @PV.load1G
theorem PV.loadNG{t:TypeId}{x:Operand}{dt:TypeDesc}{m:Nat}{vs:List Value}(ho:o.op= .load t x)(ht:P.underlying t=some dt)(hp:ei dt=false)(hm:(P.info? t).map (·.size)=some m)(hx:cG L x=some (.pointer (some ⟨b,j,none⟩)))(hR:RdG S b c T)(hl:vs.length=m)(hc: ∀a,((c a).drop j).take m=vs):PV P n D L S o (.agg vs.toArray):=
 λa w f s=>by
  obtain⟨y,hy⟩:=hR w s;exact aN (S:=λw'=>w'=w) ho ht hp hm hx (λ_ e=>e▸hy) hl (hc y) a w f rfl
abbrev fT:= @PV.loadNG
theorem TL.storeG{i:Nat}{t:TypeId}{x y:Operand}{v:Value}{vs:List Value}(hw:Want n D ops o L)(ho:o.op= .store t x y)(hd:o.dst=none)
 (hx:cG L x=some (.pointer (some ⟨b,j,none⟩))) (hy:cG L y=some v) (hv:v.cells=vs.toArray) (hs:(P.info? t).map (·.size)=some vs.length) (h1: ∀u∈vs,u.oneCell'=true)
 (hi:Nat.blt i H.length=true) (hH:H.getD i (λ_=>True)=hid b c T R) (hl: ∀a,j+vs.length≤(c a).length) (hcs: ∀a,wr (c a) j vs=c' a)
 (h:TL P w0 F n ops Q l D L (H.set i (hid b c' T R))):TL P w0 F n ops Q (o::l) D L H:=
 TL.eff hw hd (λa w f _ m=>by
  obtain⟨q,m1⟩:=m.packOpen i (lb hi) hH;have hb:=m1.block 0 (by simp) rfl;refine⟨w.setRow b (wr (c q) j vs).toArray,by simp[execOp,ho,f.eval hx,f.eval hy,vF hv hs h1 hb (hl q)],⟨rfl,rfl,rfl,by simp⟩,?_⟩;rw[hcs q]
  exact Sat.packShut (p:=λa=>ah b (c' a) T::R a) i (lb hi) q (m1.write 0 (by simp) rfl (setRow_heap w b (c q).toArray _ T _ hb) (λk hk=>setRow_other w b k _ hk))) h
abbrev gH:= @TL.storeG
theorem TL.store1G{i:Nat}{t:TypeId}{x y:Operand}{v:Value}(hw:Want n D ops o L)(ho:o.op= .store t x y)(hd:o.dst=none)
 (hx:cG L x=some (.pointer (some ⟨b,j,none⟩))) (hy:cG L y=some v) (h1:v.oneCell'=true) (hs:(P.info? t).map (·.size)=some 1)
 (hi:Nat.blt i H.length=true) (hH:H.getD i (λ_=>True)=hid b c T R) (hl: ∀a,j< (c a).length) (hcs: ∀a,(c a).set j v=c' a)
 (h:TL P w0 F n ops Q l D L (H.set i (hid b c' T R))):TL P w0 F n ops Q (o::l) D L H:=
 gH (vs:=[v]) hw ho hd hx hy (by cases v<;>simp[Value.cells,Value.oneCell']at h1 ⊢) hs (by simpa using h1) hi hH (λa=>by have:=hl a;simp;omega)
  (λa=>by rw[←hcs a,wr,nA,if_pos (hl a)];simp) h
theorem Fo{p p' a b c d:HP}{h:Hl}(e: ∀h,p h→p' h)(s:bE (a::b::c::d::p::H) h):bE (a::b::c::d::p'::H) h:=
 cB s (λ_ x=>x) λ_ s=>cB s (λ_ x=>x) λ_ s=>cB s (λ_ x=>x) λ_ s=>cB s (λ_ x=>x) λ_ s=>cB s e λ_ x=>x
theorem Does.hid{f:FuncId}{args:Array Value}{A:List HP}{q:Value→Prop}(h: ∀a,Does P f args (λ_=>True) (ah b (c a) T::A) (dm λv H=>q v∧H=ah b (c' a) T::A)):Does P f args (λ_=>True) (Leg.hid b c T R::A) (dm λv H=>q v∧H=Leg.hid b c' T R::A):=
 Does.pack λa=>Does.withinR (B:=R a) (h a) (λ_ _ _ _=>trivial) (λ_ s=>eg (List.Perm.cons (ah b (c a) T) (List.perm_append_comm (l₁:=R a) (l₂:=A))) s) λv H hp=>by
  obtain⟨h1,rfl⟩:=hp;exact⟨_,λ_ s=>bj (p:=λa=>ah b (c' a) T::R a) a (eg (List.Perm.cons (ah b (c' a) T) (List.perm_append_comm (l₁:=A) (l₂:=R a))) s),h1,rfl⟩
end
open Api
variable {P:Program} {w0:World} {F:Hl} {n:Nat} {ops:Array Oper} {Q:QQ} {D:List Deferred} {L:List (Nat×Value)} {H:List HP} {d:Nat} {o:Oper} {l:List Oper}
section
variable {A:Type} {b:Nat} {c:A→List Value} {T:TypeId} {R:A→List HP}
theorem LG{t:TypeId}{x:Operand}{dt:TypeDesc}{j:Nat}(k:Nat)(ht:P.underlying t=some dt)(v:Value)(h:TL P w0 F n ops Q l D ((d,v)::L) H)(hw:Want n D ops o L:=by first|exact aa rfl|exact bN rfl rfl rfl)(hd:o.dst=some d:=by exact rfl)(hn:Nat.blt d n=true:=by exact rfl)(ho:o.op= .load t x:=by exact rfl)(hp:ei dt=true:=by exact rfl)(hx:cG L x=some (.pointer (some ⟨b,j,none⟩)):=by exact rfl)(hk:Nat.blt k H.length=true:=by exact rfl)(hH:H.getD k (λ_=>True)=hid b c T R:=by exact rfl)(hc: ∀a,(c a)[j]?=some v):TL P w0 F n ops Q (o::l) D L H:=dq hw hd hn (c8 ho ht hp hx (cO k hk hH) hc) h
theorem LZ{α:Type}{f:α→List Int}{t:TypeId}{x:Operand}{dt:TypeDesc}{j m:Nat}(k:Nat)(ht:P.underlying t=some dt)(hs:(P.info? t).map (·.size)=some m)(hf: ∀x,(ints (f x)).length=m)(y:α)(h:TL P w0 F n ops Q l D ((d, .agg (ints (f y)).toArray)::L) H)(hw:Want n D ops o L:=by first|exact aa rfl|exact bN rfl rfl rfl)(hd:o.dst=some d:=by exact rfl)(hn:Nat.blt d n=true:=by exact rfl)(ho:o.op= .load t x:=by exact rfl)(hp:ei dt=false:=by exact rfl)(hx:cG L x=some (.pointer (some ⟨b,j,none⟩)):=by exact rfl)(hk:Nat.blt k H.length=true:=by exact rfl)(hH:H.getD k (λ_=>True)=hid b c T R:=by exact rfl)(hc: ∀a,((c a).drop j).take m=ints (f y)):TL P w0 F n ops Q (o::l) D L H:=dq hw hd hn (fT ho ht hp hs hx (cO k hk hH) (hf y) hc) h
theorem SK{o:Oper}{l:List Oper}{t:TypeId}{x y:Operand}{j m:Nat}{v:Value}{c':A→List Value}(k:Nat)(hs:(P.info? t).map (·.size)=some 1)(hl: ∀a,(c a).length=m)(h:TL P w0 F n ops Q l D L (H.set k (hid b c' T R)))(hw:Want n D ops o L:=by first|exact aa rfl|exact bN rfl rfl rfl)(hd:o.dst=none:=by exact rfl)(ho:o.op= .store t x y:=by exact rfl)(hx:cG L x=some (.pointer (some ⟨b,j,none⟩)):=by exact rfl)(hy:cG L y=some v:=by exact rfl)(h1:v.oneCell'=true:=by exact rfl)(hk:Nat.blt k H.length=true:=by exact rfl)(hH:H.getD k (λ_=>True)=hid b c T R:=by exact rfl)(hj:Nat.blt j m=true:=by first|exact rfl|exact Nat.ble_eq_true_of_le (by omega))(hc: ∀a,(c a).set j v=c' a):TL P w0 F n ops Q (o::l) D L H:=TL.store1G hw ho hd hx hy h1 hs hk hH (λa=>(hl a)▸lb hj) hc h
end
end Leg
end

section
namespace Go.Proofs.YtjblgopghhgflaaGreat
open Go Leg Codec Api Dsk Wal
structure Env(δ:Type) extends Dk δ where
 T:Nat
 ov:Value
 sf:Nat
 E:δ→List SaidT→HP
 lg:Nat→δ→HP
 me : w8 Tryz.prog T ov "Send" sf
 nm:Named Tryz.prog sf
 say: ∀(e:δ) (l:List SaidT) (to':Int) (m:MsgT),ok e→Leg.Does Tryz.prog sf #[ov, .int .i64 to', .agg (ints m.flat).toArray] (λ_=>True) [E e l] (dm (λ_ H=>H=[E e (if dn e then l else l++[SaidT.mk to' m])]))
 put: ∀(g:Nat) (x:Value) (bs:List UInt8) (e:δ) (l:List SaidT),ok e→bs.length≤3000→Leg.Does Tryz.prog 166 #[.pointer (some ⟨g,0,none⟩),x] (IsW x bs) [lg g e,E e l] (dm (λv H=>v= .int .i64 (pt e bs).2∧H=[lg g (pt e bs).1,E (pt e bs).1 l]))
def Ed(vo:Value):Option VoteT→HP
 |none=>λ_=>vo= .pointer none
 |some vt=>λh=>∃b,vo= .pointer (some ⟨b,0,none⟩)∧ah b (VoteT.cells vt) 227 h
abbrev cD{δ:Type}(V:Env δ)(r:Nat)(s:MS δ):HP:=hid r (λa:Adr=>RepT.cells (s.rep a)) 123 (λa=>[V.lg a.lg s.e,own a.rs s.replies.length (ints (s.replies.flatMap ReplyT.flat)) 37 3,Ed a.vo s.vote,V.E s.e s.o])
abbrev uU{δ:Type}(V:Env δ)(r:Nat)(s:MS δ)(vo:Value):HP:=hid r (λa:Nat×Value=>RepT.cells (s.rep ⟨a.1,vo,a.2⟩)) 123 (λa=>[V.lg a.1 s.e,own a.2 s.replies.length (ints (s.replies.flatMap ReplyT.flat)) 37 3,V.E s.e s.o])
theorem jA{δ:Type}{V:Env δ}{r:Nat}{f:MS δ×Int}{X:MS δ}{y:Int}(e:f=(X,y)):Value.int .i64 y= .int .i64 f.2∧[cD V r X]=[cD V r f.1]:=by
 subst e;exact⟨rfl,rfl⟩
theorem Fx{δ:Type}(V:Env δ)(r:Nat)(s:MS δ)(to':Int)(m:MsgT)[hs:OkR V.toDk s]:DT V.sf #[V.ov, .int .i64 to', .agg (ints m.flat).toArray] T0 [cD V r s] (dm (λ_ H=>H=[cD V r (C2 V.toDk s to' m)])):=
 Leg.Does.pack λa=>Leg.Does.withinR (V.say s.e s.o to' m hs.e) (λ_ _ _ _=>trivial) (λ_ q=>aC [4] rfl q) λv H hp=>by
  subst hp;refine⟨_,λ_ q=>?_,rfl⟩;have q2:=aC [1,1,1,1,0] rfl q;exact bj (p:=λa:Adr=>[ah r (RepT.cells (s.rep a)) 123,V.lg a.lg s.e,own a.rs s.replies.length (ints (s.replies.flatMap ReplyT.flat)) 37 3,Ed a.vo s.vote,V.E s.e (if V.dn s.e then s.o else s.o++[SaidT.mk to' m])]) a q2
theorem gf{δ:Type}(V:Env δ)(r:Nat)(s:MS δ)(to':Int)(m:MsgT)(f:MS δ→MS δ)(hT:to'=s.id→DT 105 #[.pointer (some ⟨r,0,none⟩), .iface V.T V.ov, .int .i64 s.id, .agg (ints m.flat).toArray] T0 [cD V r s] (dm (λ_ H=>H=[cD V r (f s)])))[OkR V.toDk s]:
 DT 149 #[(.pointer (some ⟨r,0,none⟩)),(.iface V.T V.ov),(.int .i64 (to')),(.agg (ints m.flat).toArray)] T0 [cD V r s] (dm (λ_ H=>H=[cD V r (nb V.toDk f s to' m)])):=by
 refine Leg.Does.body (vs:=[(.pointer (some ⟨r,0,none⟩)),(.iface V.T V.ov),(.int .i64 (to')),(.agg (ints m.flat).toArray)]) (n:=28) Tryz.func149 rfl rfl rfl (λw0 F hF=>?_);refine sr λ_ J1=>?_
 refine TL.box (aa rfl) rfl rfl rfl rfl (λb7=>?_);change TL _ _ _ _ _ _ _ _ _ [ah b7 (ints m.flat) 178,cD V r s];refine nx J1 ?_;refine ab λ_ J2=>?_
 refine sr λ_ J3=>?_
 refine mv ?_;refine mv ?_;refine tp (fX rfl rfl) ?_;refine tp (aY (r:=0) rfl bi rfl aQ rfl rfl) ?_;refine tp (c8 (v:=(.int .i64 (s.id))) rfl Y3 rfl rfl (cO 1 rfl rfl) (λa_=>(cy (s.rep a_) rfl))) ?_;refine tp (M9 rfl rfl rfl) ?_;refine an (λh13=>?_) (λh13=>?_);refine nx J3 ?_;refine iO rfl ?_;refine ab λ_ J4=>?_
 refine n8 (λw=>Frm F w∧w.heap[b7]?=some (.cells (ints m.flat).toArray 178 (0,0))∧True) bh rfl (λ_ s=>⟨ez s,s.block 0 (lb rfl) rfl,trivial⟩) ?_;refine ta 0 rfl (ck rfl rfl) ?_;refine ta 1 rfl (ck rfl rfl) ?_;refine ta 2 rfl (ck rfl rfl) ?_;refine ta 3 rfl (fX rfl rfl) ?_;refine ta 4 rfl (aY (r:=0) rfl bi rfl aQ rfl rfl) ?_;refine ta 6 rfl (aN (vs:=ints m.flat) rfl bb rfl bW rfl (λ_ h=>h.2.1) (aG m) (whole (aG m))) ?_;refine cx [5] (by kernel_rfl) rfl ?_;refine aE rfl ?_ ?_;refine tp (c8 (v:=(.int .i64 (s.id))) rfl Y3 rfl rfl (cO 1 rfl rfl) (λa_=>(cy (s.rep a_) rfl))) ?_;refine ap ?_;refine mZ (λ_ s=>⟨ez s,s.block 0 (lb rfl) rfl,trivial⟩) ?_;refine cx [7] (by kernel_rfl) rfl ?_;refine aE rfl ?_ ?_;refine gV (aa rfl) rfl rfl rfl Ki rfl ((by have h:=hT h13;exact h)) (λ_ s=>aC [1] rfl s) (λ_ _ _=>trivial) (λvR HR hR=>?_);obtain rfl:=hR;refine ap ?_;refine mZ (λ_ s=>⟨ez s,s.block 1 (lb rfl) rfl,trivial⟩) ?_;refine OE (by kernel_rfl) ?_;refine ac J4 ?_;refine ai ?_;refine ae ?_;refine aF (di _) (λ_ s=>ak [0] rfl s) ?_;refine dE rfl ?_;exact(congrArg (λq=>[cD V r q]) (if_pos h13)).symm;exact bz;exact bz;refine nx J3 ?_;refine sO rfl ?_;refine aR ?_;refine ac J2 ?_;refine sr λ_ J5=>?_
 refine mv ?_;refine tp (PV.ifaceNotNil rfl Tryz.underlying168 rfl) ?_;refine nx J5 ?_;refine iO rfl ?_;refine ad ?_;refine mv ?_;refine mv ?_;refine tp (aN (vs:=ints m.flat) rfl bb rfl bW rfl (dN 0 rfl rfl) (aG m) (whole (aG m))) ?_;refine TL.callI (aa rfl) rfl rfl rfl rfl V.me V.nm rfl (Fx V r s to' m) (λ_ s=>aC [1] rfl s) (λ_ _ _=>trivial) (λvR HR hR=>?_);obtain rfl:=hR;refine ap ?_;refine aF (di _) (λ_ s=>ak [0] rfl s) ?_;refine bA rfl ?_;exact(congrArg (λq=>[cD V r q]) (if_neg h13)).symm
theorem jq{δ:Type}(V:Env δ)(r:Nat)(s:MS δ)(to':Int)(m:MsgT)(hto:to'≠s.id)[OkR V.toDk s]:DT 149 #[.pointer (some ⟨r,0,none⟩), .iface V.T V.ov, .int .i64 to', .agg (ints m.flat).toArray] T0 [cD V r s] (dm (λ_ H=>H=[cD V r (iJ V.toDk s [⟨to',m⟩])])):=by
 have h:=gf V r s to' m id (λe=>absurd e hto)
 rwa [show nb V.toDk id s to' m=iJ V.toDk s [⟨to',m⟩]from if_neg hto]at h
theorem nK{δ:Type}(V:Env δ)(r:Nat)(s:MS δ)(l:List SaidT)(to':Int)(m:MsgT)(hto:to'≠s.id)[OkR V.toDk s]:DT 149 #[.pointer (some ⟨r,0,none⟩), .iface V.T V.ov, .int .i64 to', .agg (ints m.flat).toArray] T0 [cD V r (iJ V.toDk s l)] (dm (λ_ H=>H=[cD V r (iJ V.toDk s (l++[⟨to',m⟩]))])):=by
 have h:=jq V r (iJ V.toDk s l) to' m hto
 rwa [G4]at h
theorem MQ{δ:Type}{V:Env δ}{r:Nat}{a b:MS δ}(h:a=b):[cD V r a]=[cD V r b]:=by rw[h]
theorem nq{δ:Type}(V:Env δ)(r:Nat)(s:MS δ)[OkR V.toDk s]:
 DT 106 #[(.pointer (some ⟨r,0,none⟩)),(.iface V.T V.ov)] T0 [cD V r s] (dm (λ_ H=>H=[cD V r (fm V.toDk s)])):=by
 refine BD 40 Tryz.func106 rfl rfl rfl λw0 F hF=>?_
 have hid:cI s.id=true:=OkR.id;have hid2:0≤s.id∧s.id<5:=of_decide_eq_true hid;refine ab λ_ J1=>DB bh (cO 0 rfl rfl) ?_
 refine PD 0 ?_;refine PD 1 ?_;refine FD 2 0 bi aQ ?_;refine ta 3 rfl (c8 (v:=(.int .i64 (s.id))) rfl Y3 rfl rfl (λ_ h=>h.2.1) (λa_=>(cy _ rfl))) ?_;refine PD 4 ?_;refine PD 5 ?_;refine FD 6 9 bi aZ ?_;refine ta 7 rfl (fT (vs:=ints s.own.flat) rfl dD rfl aZ rfl (λ_ h=>h.2.1) (ag s.own) (λa_=>(xH (s.rep a_) 0 rfl (by decide) (whole (ag ((s.rep a_).own)))))) ?_;refine ta 8 rfl (kI MsgT.zero (MsgT.mk 0 s.id s.own 0 0 BallotT.zero BallotT.zero ChangeT.zero ViewT.zero) [(0,[Value.int .i64 0]),(1,[Value.int .i64 s.id]),(2,ints s.own.flat)] bb bq (g:=MsgT.sg)) ?_;refine AL 9 ?_;refine XZ l9 (ints MsgT.zero.flat) λb4=>?_
 refine EN (AL 10 ?_);refine SW 0 bW aG ?_;refine EN (DN (ac J1 (sr λ_ J2=>P2 ?_)));refine FA 0 bi aQ ?_;refine LG 1 Y3 (.int .i64 (s.id)) ?_ (hc:=by exact λa_=>(cy _ rfl));refine CR Hr (p4 s.id hid) ID λvR HR hR=>?_
 obtain⟨_,rfl,rfl⟩:=hR;revert vR;intro uw;refine ib 0 rfl rfl (λhluw _=>jO 0 rfl rfl (by omega) (λgw capw hvw hcapw=>tp (dF rfl j9 rfl hluw) ?_));refine PS ?_;refine nx J2 (aq (ru 2 (sr λ_ J3=>PS ?_)));refine nx J3 (ab λ_ J4=>CY (qx J4 (ab λ_ J5=>aq (sr λ_ J6=>tp (bT (r:=0) hvw rfl j9 aQ rfl rfl (by omega) (by omega) rfl) ?_))));refine tp (c7 (v:=(.int .i64 (((s.id+1)%5)))) rfl Y3 rfl rfl (fZ 0 rfl hvw rfl) rfl) ?_;refine PS ?_;refine nx J6 (sr λ_ J7=>P2 ?_);refine FA 1939 bi aQ ?_;refine LG 2 Y3 (.int .i64 (s.kept)) ?_ (hc:=by exact λa_=>(rj _ rfl));refine PS ?_;refine tp (lJ (r:=(s.kept.fdiv (2^min (((s.id+1)%5)).toNat IntKind.i64.bits))) rfl rfl rfl (by omega) rfl) ?_;refine tp (uK (r:=((s.kept.fdiv (2^min (((s.id+1)%5)).toNat IntKind.i64.bits))%2)) rfl rfl rfl (mask (k:=1) (by decide) _)) ?_;refine PS ?_;refine an ?_ ?_<;>intro h33;refine nx J7 (CY (ad (P3 ?_)));refine LW 1 bb bW aG ?_;refine CZ jb (jq V r s ((s.id+1)%5) (MsgT.mk 0 s.id s.own 0 0 BallotT.zero BallotT.zero ChangeT.zero ViewT.zero) (by omega)) (SM [2]) λvR=>?_
 refine ap (af (ac J5 (ad (tp (ci (r:=1) rfl rfl rfl (by decide)) ?_))));refine PS ?_;refine ap (ek (sr λ_ J8=>PS ?_));refine nx J8 (ab λ_ J9=>CY (qx J9 (ab λ_ J10=>aq (sr λ_ J11=>tp (bT (r:=1) hvw rfl j9 aQ rfl rfl (by omega) (by omega) rfl) ?_))));refine tp (c7 (v:=(.int .i64 (((s.id+2)%5)))) rfl Y3 rfl rfl (fZ 1 rfl hvw rfl) rfl) ?_;refine PS ?_;refine nx J11 (sr λ_ J12=>P2 ?_);refine FA 1939 bi aQ ?_;refine LG 0 Y3 (.int .i64 (s.kept)) ?_ (hc:=by exact λa_=>(rj _ rfl));refine PS ?_;refine tp (lJ (r:=(s.kept.fdiv (2^min (((s.id+2)%5)).toNat IntKind.i64.bits))) rfl rfl rfl (by omega) rfl) ?_;refine tp (uK (r:=((s.kept.fdiv (2^min (((s.id+2)%5)).toNat IntKind.i64.bits))%2)) rfl rfl rfl (mask (k:=1) (by decide) _)) ?_;refine PS ?_;refine an ?_ ?_<;>intro h33;refine nx J12 (CY (ad (P3 ?_)));refine LW 2 bb bW aG ?_;refine CZ jb (nK V r s ([SaidT.mk ((s.id+1)%5) (MsgT.mk 0 s.id s.own 0 0 BallotT.zero BallotT.zero ChangeT.zero ViewT.zero)]) ((s.id+2)%5) (MsgT.mk 0 s.id s.own 0 0 BallotT.zero BallotT.zero ChangeT.zero ViewT.zero) (by omega)) ID λvR=>?_
 refine ap (af (ac J10 (ad (tp (ci (r:=2) rfl rfl rfl (by decide)) ?_))));refine PS ?_;refine ap (ek (sr λ_ J13=>PS ?_));refine nx J13 (ab λ_ J14=>CN (aW (az (az (bm (WK [0] (bA rfl ?_)))))));exact MQ (by rw[fm,show pp (s.rep .nil)=[SaidT.mk ((s.id+1)%5) (MsgT.mk 0 s.id s.own 0 0 BallotT.zero BallotT.zero ChangeT.zero ViewT.zero)]++[SaidT.mk ((s.id+2)%5) (MsgT.mk 0 s.id s.own 0 0 BallotT.zero BallotT.zero ChangeT.zero ViewT.zero)]by rw[pp,gI,if_pos hid];simp[Af,vI,MsgT.zero,Adr.nil, *]]);refine nx J12 (CN (aR (af (ac J10 (ad (tp (ci (r:=2) rfl rfl rfl (by decide)) ?_))))));refine PS ?_;refine ap (ek (sr λ_ J15=>PS ?_));refine nx J15 (ab λ_ J16=>CN (aW (az (az (bm (WK [0] (bA rfl ?_)))))));exact MQ (by rw[fm,show pp (s.rep .nil)=[SaidT.mk ((s.id+1)%5) (MsgT.mk 0 s.id s.own 0 0 BallotT.zero BallotT.zero ChangeT.zero ViewT.zero)]by rw[pp,gI,if_pos hid];simp[Af,vI,MsgT.zero,Adr.nil, *]]);refine nx J7 (CN (aR (af (ac J5 (ad (tp (ci (r:=1) rfl rfl rfl (by decide)) ?_))))));refine PS ?_;refine ap (ek (sr λ_ J17=>PS ?_));refine nx J17 (ab λ_ J18=>CY (qx J18 (ab λ_ J19=>aq (sr λ_ J20=>tp (bT (r:=1) hvw rfl j9 aQ rfl rfl (by omega) (by omega) rfl) ?_))));refine tp (c7 (v:=(.int .i64 (((s.id+2)%5)))) rfl Y3 rfl rfl (fZ 0 rfl hvw rfl) rfl) ?_;refine PS ?_;refine nx J20 (sr λ_ J21=>P2 ?_);refine FA 1939 bi aQ ?_;refine LG 2 Y3 (.int .i64 (s.kept)) ?_ (hc:=by exact λa_=>(rj _ rfl))
 refine PS ?_;refine tp (lJ (r:=(s.kept.fdiv (2^min (((s.id+2)%5)).toNat IntKind.i64.bits))) rfl rfl rfl (by omega) rfl) ?_;refine tp (uK (r:=((s.kept.fdiv (2^min (((s.id+2)%5)).toNat IntKind.i64.bits))%2)) rfl rfl rfl (mask (k:=1) (by decide) _)) ?_;refine PS ?_;refine an ?_ ?_<;>intro h33;refine nx J21 (CY (ad (P3 ?_)));refine LW 1 bb bW aG ?_;refine CZ jb (jq V r s ((s.id+2)%5) (MsgT.mk 0 s.id s.own 0 0 BallotT.zero BallotT.zero ChangeT.zero ViewT.zero) (by omega)) (SM [2]) λvR=>?_
 refine ap (af (ac J19 (ad (tp (ci (r:=2) rfl rfl rfl (by decide)) ?_))));refine PS ?_;refine ap (ek (sr λ_ J22=>PS ?_));refine nx J22 (ab λ_ J23=>CN (aW (az (az (bm (WK [0] (bA rfl ?_)))))));exact MQ (by rw[fm,show pp (s.rep .nil)=[SaidT.mk ((s.id+2)%5) (MsgT.mk 0 s.id s.own 0 0 BallotT.zero BallotT.zero ChangeT.zero ViewT.zero)]by rw[pp,gI,if_pos hid];simp[Af,vI,MsgT.zero,Adr.nil, *]]);refine nx J21 (CN (aR (af (ac J19 (ad (tp (ci (r:=2) rfl rfl rfl (by decide)) ?_))))));refine PS ?_;refine ap (ek (sr λ_ J24=>PS ?_));refine nx J24 (ab λ_ J25=>CN (aW (az (az (bm (WK [2] (bA rfl ?_)))))));exact MQ (by rw[fm,show pp (s.rep .nil)=[]by rw[pp,gI,if_pos hid];simp[Af,vI,MsgT.zero,Adr.nil, *]];exact(pB _ _).symm)
theorem mH{δ:Type}(V:Env δ)(r:Nat)(s:MS δ)(y:RowT)[OkR V.toDk s]:
 DT 110 #[(.pointer (some ⟨r,0,none⟩)),(.iface V.T V.ov),(.agg (ints y.flat).toArray)] T0 [cD V r s] (dm (λ_ H=>H=[cD V r (mw V.toDk s y)])):=by
 refine BD 27 Tryz.func110 rfl rfl rfl λw0 F hF=>sr λ_ J1=>XY (ints y.flat) λb5=>?_
 refine nx J1 (sr λ_ J2=>PS ?_);refine nx J2 (aq ?_)
 refine bp (α:=(Nat)) (λk=>k≤5) (λk=>[(0,(.pointer (some ⟨r,0,none⟩))),(1,(.iface V.T V.ov)),(5,(.pointer (some ⟨b5,0,none⟩))),(7,(.int .i64 (((k:Nat):Int))))]) (λk=>[ah b5 (ints y.flat) 60,cD V r (iJ V.toDk s (nO s.id (sh s.id y) (λ_=>true) k))]) (λk=>5-k) 0
  (aO _) SB
  (λ_ q=>by
  rw[show nO s.id (sh s.id y) (λ_=>true) 0=[]from rfl,pB]
  exact q) (λk hinv=>?_)
 obtain hk:=hinv;refine sr λ_ J3=>PS ?_
 refine an ?_ ?_<;>intro h8;refine nx J3 (ab λ_ J4=>CY (qx J4 (ab λ_ J5=>aq (sr λ_ J6=>P2 ?_))));refine nx J6 (sr λ_ J7=>P3 ?_);refine FA 0 bi aQ ?_;refine LG 1 Y3 (.int .i64 (s.id)) ?_ (hc:=by exact λa_=>(cy _ rfl));refine PS ?_;refine an ?_ ?_<;>intro h15;refine nx J7 (CY (DC bh (cO 1 rfl rfl) (BL 0) ?_));refine PD 0 ?_;refine PD 1 ?_;refine PD 2 ?_;refine PD 3 ?_;refine PD 4 ?_;refine FD 5 0 bi aQ ?_;refine ta 6 rfl (c8 (v:=(.int .i64 (s.id))) rfl Y3 rfl rfl (λ_ h=>h.2.1) (λa_=>(cy _ rfl))) ?_;refine LY 7 dD aZ ag ?_;refine ta 8 rfl (kI MsgT.zero (MsgT.mk 2 s.id y 0 0 BallotT.zero BallotT.zero ChangeT.zero ViewT.zero) [(0,[Value.int .i64 2]),(1,[Value.int .i64 s.id]),(2,ints y.flat)] bb bq (g:=MsgT.sg)) ?_;refine AL 9 ?_;refine CZ jb (nK V r s (nO s.id (sh s.id y) (λ_=>true) k) ((k:Nat):Int) (MsgT.mk 2 s.id y 0 0 BallotT.zero BallotT.zero ChangeT.zero ViewT.zero) h15) (SM [1]) λvR=>?_
 refine EN (DN (af (ac J5 (ad (AD ?_)))));refine PS ?_;refine ap ?_
 exact aI ((k+1):(Nat)) (by omega) (by show 5- (k+1)<5-k;omega)
  SB
  (λ_ q=>by
   rw[it,if_pos ⟨h15,rfl⟩]
   exact ak [1,0] rfl q)
 refine nx J7 (CN (aR (af (ac J5 (ad (AD ?_))))));refine PS ?_;refine ap ?_
 exact aI ((k+1):(Nat)) (by omega) (by show 5- (k+1)<5-k;omega)
  SB
  (λ_ q=>by
   rw[it,if_neg (by omega)];rw[ba]
   exact ak [0,0] rfl q)
 refine nx J3 (ab λ_ J8=>CN (aW (az (az (bm (WK [1] (bA rfl ?_)))))));obtain rfl:k=5:=by omega
 exact rfl
theorem mG{δ:Type}(V:Env δ)(r:Nat)(s:MS δ)(v:ViewT)[OkR V.toDk s]:
 DT 109 #[(.pointer (some ⟨r,0,none⟩)),(.iface V.T V.ov),(.agg (ints v.flat).toArray)] T0 [cD V r s] (dm (λ_ H=>H=[cD V r (nG V.toDk s v)])):=by
 refine BD 23 Tryz.func109 rfl rfl rfl λw0 F hF=>sr λ_ J1=>XY (ints v.flat) λb5=>?_
 refine nx J1 (sr λ_ J2=>PS ?_);refine nx J2 (aq ?_)
 refine bp (α:=(Nat)) (λk=>k≤5) (λk=>[(0,(.pointer (some ⟨r,0,none⟩))),(1,(.iface V.T V.ov)),(5,(.pointer (some ⟨b5,0,none⟩))),(7,(.int .i64 (((k:Nat):Int))))]) (λk=>[ah b5 (ints v.flat) 44,cD V r (iJ V.toDk s (nO s.id (jT v) (λ_=>true) k))]) (λk=>5-k) 0
  (aO _) SB
  (λ_ q=>by
  rw[show nO s.id (jT v) (λ_=>true) 0=[]from rfl,pB]
  exact q) (λk hinv=>?_)
 obtain hk:=hinv;refine sr λ_ J3=>PS ?_
 refine an ?_ ?_<;>intro h8;refine nx J3 (ab λ_ J4=>CY (qx J4 (ab λ_ J5=>aq (sr λ_ J6=>P2 ?_))));refine nx J6 (sr λ_ J7=>P3 ?_);refine FA 0 bi aQ ?_;refine LG 1 Y3 (.int .i64 (s.id)) ?_ (hc:=by exact λa_=>(cy _ rfl));refine PS ?_;refine an ?_ ?_<;>intro h15;refine nx J7 (CY (ad (P3 ?_)));refine LW 0 eD bc am ?_;refine tp (kI MsgT.zero (MsgT.mk 7 0 RowT.zero 0 0 BallotT.zero BallotT.zero ChangeT.zero v) [(0,[Value.int .i64 7]),(8,ints v.flat)] bb bq (g:=MsgT.sg)) ?_;refine CZ jb (nK V r s (nO s.id (jT v) (λ_=>true) k) ((k:Nat):Int) (MsgT.mk 7 0 RowT.zero 0 0 BallotT.zero BallotT.zero ChangeT.zero v) h15) (SM [1]) λvR=>?_
 refine ap (af (ac J5 (ad (AD ?_))));refine PS ?_;refine ap ?_
 exact aI ((k+1):(Nat)) (by omega) (by show 5- (k+1)<5-k;omega)
  SB
  (λ_ q=>by
   rw[it,if_pos ⟨h15,rfl⟩]
   exact ak [1,0] rfl q)
 refine nx J7 (CN (aR (af (ac J5 (ad (AD ?_))))));refine PS ?_;refine ap ?_
 exact aI ((k+1):(Nat)) (by omega) (by show 5- (k+1)<5-k;omega)
  SB
  (λ_ q=>by
   rw[it,if_neg (by omega)];rw[ba]
   exact ak [0,0] rfl q)
 refine nx J3 (ab λ_ J8=>CN (aW (az (az (bm (WK [1] (bA rfl ?_)))))));obtain rfl:k=5:=by omega
 exact rfl
end Go.Proofs.YtjblgopghhgflaaGreat
end
