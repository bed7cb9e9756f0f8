/-
  Joined texts:what a statement's proof reaches.
-/
import Derived.Test.YtjblgopghhgflaaGreatPAL3
set_option maxHeartbeats 8000000
set_option maxRecDepth 100000
set_option linter.unusedSimpArgs false
set_option linter.unusedVariables false
section
namespace Go.Proofs.YtjblgopghhgflaaGreat
open Go Leg Codec Api Dsk Wal
theorem Ea(x:Value)(ps:List (List UInt8)):
 DT 128 #[x] (MU x ps) [] (RI (.int .u32 (fO ps.flatten)) []):=by
 refine BD 39 Tryz.func128 rfl rfl rfl λw0 F hF=>sr λ_ J1=>PS ?_
 refine nx J1 (sr λ_ J2=>PS ?_);refine nx J2 (ab λ_ J3=>sr λ_ J4=>PS ?_);refine tp (dX rfl um rfl hF.len) ?_;refine PS ?_;refine nx J4 (aq ?_)
 refine bn (α:=(Nat)) (λk=>k≤ps.length) (λk=>[(2,(.int .u32 0)),(3,(.int .u32 (fg 4294967295 (ps.take k).flatten))),(8,x),(9,(.int .i64 (((ps.length:Nat):Int)))),(10,(.int .i64 (((k:Nat):Int))))]) (λk=>[]) (λk=>ps.length-k) 0
  (aN _) SB
  (λ_ s=>s) (λk hinv=>?_)
 obtain hk:=hinv;refine sr λ_ J5=>PS ?_
 refine an ?_ ?_<;>intro h11;obtain⟨b_a,off_a,cap_a,cs_a,T_a,z_a,us_a,hv_a,hc_a,hb_a,hl_a,hs_a,hE_a⟩:=IsL.at hF (j:=k) (by omega);obtain⟨u_a,rfl,hu_a⟩:=hE_a;refine nx J5 (ab λ_ J6=>CY (qx J6 (ab λ_ J7=>aq (sr λ_ J8=>tp (bS (r:=off_a+k) hv_a rfl um ni rfl rfl (by omega) (by omega) (by omega)) ?_))));refine tp (cX (v:=u_a) rfl gq rfl rfl (B6 hb_a (λ_ h=>dT h)) (by have:=Av (j:=0) hs_a rfl;simpa using this)) ?_;refine PS ?_;refine nx J8 (sr λ_ J9=>PS ?_);refine tp (dX rfl gq rfl hu_a.len) ?_;refine PS ?_;refine nx J9 (aq ?_)
 refine bn (α:=(Nat)) (λj=>j≤ps[k].length) (λj=>[(2,(.int .u32 0)),(3,(.int .u32 (fg (fg 4294967295 (ps.take k).flatten) (ps[k].take j)))),(8,x),(9,(.int .i64 (((ps.length:Nat):Int)))),(10,(.int .i64 (((k:Nat):Int)))),(14,u_a),(15,(.int .i64 (((ps[k].length:Nat):Int)))),(16,(.int .i64 (((j:Nat):Int))))]) (λj=>[]) (λj=>ps[k].length-j) 0
  (aN _) SB
  (λ_ s=>s) (λj hinv=>?_)
 obtain hj:=hinv;refine sr λ_ J10=>PS ?_
 refine an ?_ ?_<;>intro h17;obtain⟨b_b,off_b,cap_b,cs_b,T_b,z_b,hv_b,hb_b,hcs_b,hcp_b⟩:=IsW.at hu_a (j:=j) (by omega);have hlt_b:=IsW.lt hu_a;refine nx J10 (ab λ_ J11=>CY (qx J11 (ab λ_ J12=>aq (sr λ_ J13=>tp (bS (r:=off_b+j) hv_b rfl gq kV rfl rfl (by omega) (by omega) (by omega)) ?_))));refine tp (cX (v:=(.int .u8 (((((ps[k]).getD j 0).toNat:Nat):Int)))) rfl Y5 rfl rfl (B6 hb_b (λ_ h=>dT h)) (hcs_b j (by omega))) ?_;refine PS ?_;refine nx J13 (sr λ_ J14=>P2 ?_);refine tp (ej (r:=((((ps[k]).getD j 0).toNat:Nat):Int)) rfl Y5 zS rfl (ke (by omega) (by have:=(ps[k].getD j 0).toNat_lt;omega))) ?_;refine tp (PV.xor (r:=o5 .u32 (fg (fg 4294967295 (ps.take k).flatten) (ps[k].take j)) (((((ps[k]).getD j 0).toNat:Nat):Int))) rfl rfl rfl rfl) ?_;refine PS ?_;refine nx J14 (sr λ_ J15=>PS ?_);refine nx J15 (aq ?_)
 refine bn (α:=(Nat)) (λi=>i≤8) (λi=>[(2,(.int .u32 0)),(3,(.int .u32 (mf (o5 .u32 (fg (fg 4294967295 (ps.take k).flatten) (ps[k].take j)) ((((ps[k]).getD j 0).toNat:Nat):Int)) i))),(8,x),(9,(.int .i64 (((ps.length:Nat):Int)))),(10,(.int .i64 (((k:Nat):Int)))),(14,u_a),(15,(.int .i64 (((ps[k].length:Nat):Int)))),(16,(.int .i64 (((j:Nat):Int)))),(24,(.int .i64 (((i:Nat):Int))))]) (λi=>[]) (λi=>8-i) 0
  (aN _) SB
  (λ_ s=>s) (λi hinv=>?_)
 obtain hi:=hinv;refine sr λ_ J16=>PS ?_
 refine an ?_ ?_<;>intro h25;refine nx J16 (ab λ_ J17=>CY (qx J17 (ab λ_ J18=>aq (sr λ_ J19=>PS ?_))));refine tp (uu (r:=sw .u32 (mf (o5 .u32 (fg (fg 4294967295 (ps.take k).flatten) (ps[k].take j)) ((((ps[k]).getD j 0).toNat:Nat):Int)) i) 1) rfl rfl rfl rfl) ?_;refine PS ?_;refine an ?_ ?_<;>intro h28;refine nx J19 (CY (ad (PS ?_)));refine tp (lD (r:=(mf (o5 .u32 (fg (fg 4294967295 (ps.take k).flatten) (ps[k].take j)) ((((ps[k]).getD j 0).toNat:Nat):Int)) i).fdiv 2) rfl rfl rfl (by omega) rfl) ?_;refine tp (PV.xor (r:=o5 .u32 ((mf (o5 .u32 (fg (fg 4294967295 (ps.take k).flatten) (ps[k].take j)) ((((ps[k]).getD j 0).toNat:Nat):Int)) i).fdiv 2) 3988292384) rfl rfl rfl rfl) ?_;refine PS ?_;refine ap (af (ac J18 (ad (AD ?_))));refine PS ?_;refine ap ?_
 exact aI ((i+1):(Nat)) (by omega) (by show 8- (i+1)<8-i;omega)
  (aL (bd rfl (congrArg (Value.int .u32) (by rw[mf,Dv,if_pos h28])) SB))
  (λ_ s=>s)
 refine nx J19 (CN (ad (PS ?_)));refine tp (lD (r:=(mf (o5 .u32 (fg (fg 4294967295 (ps.take k).flatten) (ps[k].take j)) ((((ps[k]).getD j 0).toNat:Nat):Int)) i).fdiv 2) rfl rfl rfl (by omega) rfl) ?_;refine PS ?_;refine ap (af (ac J18 (ad (AD ?_))));refine PS ?_;refine ap ?_
 exact aI ((i+1):(Nat)) (by omega) (by show 8- (i+1)<8-i;omega)
  (aL (bd rfl (congrArg (Value.int .u32) (by rw[mf,Dv,if_neg h28])) SB))
  (λ_ s=>s)
 refine nx J16 (ab λ_ J20=>CN (aS (ay (ay (bj (af (ac J12 (ad (AD ?_)))))))));refine PS ?_;refine ap ?_
 exact aI ((j+1):(Nat)) (by omega) (by show ps[k].length- (j+1)<ps[k].length-j;omega)
  (aL (bd rfl (congrArg (Value.int .u32) (by obtain rfl:i=8:=(by omega);rw[BE (by omega)];rfl)) SB))
  (λ_ s=>s)
 refine nx J10 (ab λ_ J21=>CN (aS (ay (ay (bj (af (ac J7 (ad (AD ?_)))))))));refine PS ?_;refine ap ?_
 exact aI ((k+1):(Nat)) (by omega) (by show ps.length- (k+1)<ps.length-k;omega)
  (aL (bd rfl (congrArg (Value.int .u32) (by rw[show j=ps[k].length by omega,hO,BF (by omega)])) SB))
  (λ_ s=>s)
 refine nx J5 (ab λ_ J22=>CN (aS (ay (ay (bj (ac J3 (sr λ_ J23=>PS ?_)))))));refine tp (PV.com (r:=o5 .u32 4294967295 (fg 4294967295 (ps.take k).flatten)) rfl rfl rfl) ?_;refine PS ?_;refine nx J23 (ai (WK [] (au rfl rfl ?_)));obtain rfl:k=ps.length:=by omega
 rw[hO];exact⟨rfl,rfl⟩
theorem tr(x:Value)(bs:List UInt8)(hb:bs.length≤1000000000):
 DT 90 #[x] (IsW x bs) [] (c9 (λv H=>H=[dK v (pA bs) 5])):=by
 refine BD 29 Tryz.func90 rfl rfl rfl λw0 F hF=>sr λ_ J1=>PS ?_
 refine nx J1 (sr λ_ J2=>PS ?_);refine aU (cells:=#[x]) (aa rfl) rfl rfl rfl um FY rfl rfl rfl (sd hF.one (by simp)) (λb6=>CF JI (Ea (.slice (some ⟨b6,0,none⟩) (1) (1)) [bs]) ID (Bi hF 0 rfl rfl) ?_);rw[show [bs].flatten=bs by simp];refine PS ?_;refine nx J2 (sr λ_ J3=>PS ?_);refine tp (dX rfl gq rfl hF.len) ?_;refine AD ?_;refine TL.makeB (0) (bs.length+4) (aa rfl) rfl rfl rfl gq yl rfl rfl rfl (by omega) (by omega) (by omega) (λb11=>cq (H':=[dK (.slice (some ⟨b11,0,none⟩) 0 (bs.length+4)) ([]) 5,ag b6 [x] 93]) (λ_ s=>DY 0 rfl rfl (by omega) (by simp only[maxLen];omega) (by simp[dY]) rfl s) (PS ?_));refine nx J3 (sr λ_ J4=>P2 ?_);refine cE (k:=0) (news:=dY (bs)) (nn':=(bs:List UInt8).length) (xs':=dY (bs)) (aa rfl) rfl rfl rfl gq yl rfl rfl rfl rfl rfl rfl (λ_ _=>hF.src (λ_ h=>dT h)) (eN _) (by simp only[maxLen,aC];omega) (by simp only[aC];omega) (by simp) (cb _) (λv14 ov14=>PS ?_);refine nx J4 (sr λ_ J5=>P2 ?_);refine tp (ej (r:=(((r8 (fO bs)).toNat:Nat):Int)) rfl zS Y5 rfl (r8_wrap _)) ?_;refine PS ?_;refine tp (lD (r:=(fO bs).fdiv 256) rfl rfl rfl (by omega) rfl) ?_;refine tp (ej (r:=(((r8 ((fO bs).fdiv 256)).toNat:Nat):Int)) rfl zS Y5 rfl (r8_wrap _)) ?_;refine PS ?_;refine tp (lD (r:=(fO bs).fdiv 65536) rfl rfl rfl (by omega) rfl) ?_;refine tp (ej (r:=(((r8 ((fO bs).fdiv 65536)).toNat:Nat):Int)) rfl zS Y5 rfl (r8_wrap _)) ?_;refine PS ?_
 refine tp (lD (r:=(fO bs).fdiv 16777216) rfl rfl rfl (by omega) rfl) ?_;refine tp (ej (r:=(((r8 ((fO bs).fdiv 16777216)).toNat:Nat):Int)) rfl zS Y5 rfl (r8_wrap _)) ?_;refine aU (cells:=#[(.int .u8 ((((r8 (fO bs)).toNat:Nat):Int))),(.int .u8 ((((r8 ((fO bs).fdiv 256)).toNat:Nat):Int))),(.int .u8 ((((r8 ((fO bs).fdiv 65536)).toNat:Nat):Int))),(.int .u8 ((((r8 ((fO bs).fdiv 16777216)).toNat:Nat):Int)))]) (aa rfl) rfl rfl rfl gq yl rfl rfl rfl (by as_aux_lemma=>kernel_rfl) (λb27=>cE (k:=1) (news:=dY ([(r8 (fO bs)),(r8 ((fO bs).fdiv 256)),(r8 ((fO bs).fdiv 65536)),(r8 ((fO bs).fdiv 16777216))])) (nn':=(bs++[(r8 (fO bs)),(r8 ((fO bs).fdiv 256)),(r8 ((fO bs).fdiv 65536)),(r8 ((fO bs).fdiv 16777216))]:List UInt8).length) (xs':=dY (bs++[(r8 (fO bs)),(r8 ((fO bs).fdiv 256)),(r8 ((fO bs).fdiv 65536)),(r8 ((fO bs).fdiv 16777216))])) (aa rfl) rfl rfl rfl gq yl rfl rfl rfl rfl rfl rfl (λ_ _=>jl rfl (RO 0) rfl) (eN [(r8 (fO bs)),(r8 ((fO bs).fdiv 256)),(r8 ((fO bs).fdiv 65536)),(r8 ((fO bs).fdiv 16777216))]) (by simp only[maxLen];omega) (by omega) (by simp) (iL _ _).symm (λv28 ov28=>PS ?_));exact nx J5 (ai (WK [1] (au rfl rfl rfl)))
theorem ES(a:Option Addr)(c:Nat)(bs:List UInt8)(hc:bs.length≤c)(hb:bs.length≤1000000000):
 DT 167 #[(.slice a bs.length c)] (IsW (.slice a bs.length c) bs) [] (c9 (λv H=>(mA bs=none∧v= .tuple #[.slice none 0 0, .bool false]∧H=[])∨∃t u,mA bs=some t∧v= .tuple #[u, .bool true]∧H=[dK u t 5])):=by
 refine BD 50 Tryz.func167 rfl rfl rfl λw0 F hF=>sr λ_ J1=>P2 ?_
 refine nx J1 (ab λ_ J2=>sr λ_ J3=>PS ?_);refine tp (dX rfl gq rfl ⟨_,_,rfl⟩) ?_;refine PS ?_;refine an ?_ ?_<;>intro h9;refine nx J3 (CY (sr λ_ J4=>P2 ?_));refine nx J4 (ai (ae (WK [] (iq rfl rfl rfl ?_))));exact .inl ⟨by rw[mA,if_pos (by omega)],rfl,rfl⟩;have hT:IsW (jH (.slice a bs.length c) 0 (bs.length-4)) (bs.take (bs.length-4)) F:=by have:=hF.cut (lo:=0) (hi:=bs.length-4) (by omega) (by omega);simpa using this
 have hU:IsW (jH (.slice a bs.length c) (bs.length-4) bs.length) (bs.drop (bs.length-4)) F:=by have:=hF.cut (lo:=bs.length-4) (hi:=bs.length) (by omega) (by omega);rwa [hO]at this
 have hq:(bs.drop (bs.length-4)).length=4:=by rw[dS];omega
 obtain⟨b_b,off_b,cap_b,cs_b,T_b,z_b,hv_b,hb_b,hcs_b,hcp_b⟩:=IsW.at hU (j:=0) (by omega);have hlt_b:=IsW.lt hU;refine nx J3 (CN (qx J2 (ab λ_ J5=>D0 df ?_)));refine PD 0 ?_;refine PD 1 ?_;refine ta 2 rfl (dX rfl gq rfl ⟨_,_,rfl⟩) ?_;refine ta 3 rfl (iH (r:=(((bs.length-4:Nat):Nat):Int)) rfl rfl rfl (by rw[show(((bs.length:Nat):Int)-4)=((bs.length-4:Nat):Int)by omega];exact bH (by omega) (by omega))) ?_;refine ta 4 rfl (PV.sliceH (hi:=bs.length-4) rfl gq kV rfl rfl rfl (by omega)) ?_;refine PD 5 ?_;refine PD 6 ?_;refine ta 7 rfl (dX rfl gq rfl ⟨_,_,rfl⟩) ?_;refine ta 8 rfl (iH (r:=(((bs.length-4:Nat):Nat):Int)) rfl rfl rfl (by rw[show(((bs.length:Nat):Int)-4)=((bs.length-4:Nat):Int)by omega];exact bH (by omega) (by omega))) ?_;refine ta 9 rfl (PV.sliceL (lo:=bs.length-4) rfl gq kV rfl rfl rfl (by omega)) ?_;refine PD 10 ?_;refine PD 11 ?_;refine DN (ac J5 (ab λ_ J6=>D0 df ?_));refine PD 0 ?_;refine ta 1 rfl (bS (r:=off_b) hv_b rfl gq kV rfl rfl (by omega) (by omega) (by omega)) ?_;refine ta 2 rfl (cX (v:=(.int .u8 ((((((bs.drop (bs.length-4))).getD 0 0).toNat:Nat):Int)))) rfl Y5 rfl rfl (B6 hb_b (λ_ h=>h.1)) (hcs_b 0 (by omega))) ?_;refine ta 3 rfl (ej (r:=(((((bs.drop (bs.length-4))).getD 0 0).toNat:Nat):Int)) rfl Y5 zS rfl (ke (by omega) (by have:=UInt8.toNat_lt (n:=(bs.drop (bs.length-4)).getD 0 0);omega))) ?_;refine PD 4 ?_
 refine ta 5 rfl (bS (r:=off_b+1) hv_b rfl gq kV rfl rfl (by omega) (by omega) (by omega)) ?_;refine ta 6 rfl (cX (v:=(.int .u8 ((((((bs.drop (bs.length-4))).getD 1 0).toNat:Nat):Int)))) rfl Y5 rfl rfl (B6 hb_b (λ_ h=>h.1)) (hcs_b 1 (by omega))) ?_;refine ta 7 rfl (ej (r:=(((((bs.drop (bs.length-4))).getD 1 0).toNat:Nat):Int)) rfl Y5 zS rfl (ke (by omega) (by have:=UInt8.toNat_lt (n:=(bs.drop (bs.length-4)).getD 1 0);omega))) ?_;refine ta 8 rfl (xC (r:=IntKind.u32.wrap ((((((bs.drop (bs.length-4))).getD 1 0).toNat:Nat):Int)*2^8)) rfl rfl rfl (by omega) rfl) ?_;refine ta 9 rfl (H4 (r:=iu .u32 (((((bs.drop (bs.length-4))).getD 0 0).toNat:Nat):Int) (IntKind.u32.wrap ((((((bs.drop (bs.length-4))).getD 1 0).toNat:Nat):Int)*2^8))) rfl rfl rfl rfl) ?_;refine PD 10 ?_;refine ta 11 rfl (bS (r:=off_b+2) hv_b rfl gq kV rfl rfl (by omega) (by omega) (by omega)) ?_;refine ta 12 rfl (cX (v:=(.int .u8 ((((((bs.drop (bs.length-4))).getD 2 0).toNat:Nat):Int)))) rfl Y5 rfl rfl (B6 hb_b (λ_ h=>h.1)) (hcs_b 2 (by omega))) ?_;refine ta 13 rfl (ej (r:=(((((bs.drop (bs.length-4))).getD 2 0).toNat:Nat):Int)) rfl Y5 zS rfl (ke (by omega) (by have:=UInt8.toNat_lt (n:=(bs.drop (bs.length-4)).getD 2 0);omega))) ?_;refine ta 14 rfl (xC (r:=IntKind.u32.wrap ((((((bs.drop (bs.length-4))).getD 2 0).toNat:Nat):Int)*2^16)) rfl rfl rfl (by omega) rfl) ?_
 refine ta 15 rfl (H4 (r:=iu .u32 (iu .u32 (((((bs.drop (bs.length-4))).getD 0 0).toNat:Nat):Int) (IntKind.u32.wrap ((((((bs.drop (bs.length-4))).getD 1 0).toNat:Nat):Int)*2^8))) (IntKind.u32.wrap ((((((bs.drop (bs.length-4))).getD 2 0).toNat:Nat):Int)*2^16))) rfl rfl rfl rfl) ?_;refine PD 16 ?_;refine ta 17 rfl (bS (r:=off_b+3) hv_b rfl gq kV rfl rfl (by omega) (by omega) (by omega)) ?_;refine ta 18 rfl (cX (v:=(.int .u8 ((((((bs.drop (bs.length-4))).getD 3 0).toNat:Nat):Int)))) rfl Y5 rfl rfl (B6 hb_b (λ_ h=>h.1)) (hcs_b 3 (by omega))) ?_;refine ta 19 rfl (ej (r:=(((((bs.drop (bs.length-4))).getD 3 0).toNat:Nat):Int)) rfl Y5 zS rfl (ke (by omega) (by have:=UInt8.toNat_lt (n:=(bs.drop (bs.length-4)).getD 3 0);omega))) ?_;refine ta 20 rfl (xC (r:=IntKind.u32.wrap ((((((bs.drop (bs.length-4))).getD 3 0).toNat:Nat):Int)*2^24)) rfl rfl rfl (by omega) rfl) ?_;refine ta 21 rfl (H4 (r:=Ht ((bs.drop (bs.length-4)).getD 0 0) ((bs.drop (bs.length-4)).getD 1 0) ((bs.drop (bs.length-4)).getD 2 0) ((bs.drop (bs.length-4)).getD 3 0)) rfl rfl rfl rfl) ?_;refine PD 22 ?_;refine DN (ac J6 (ab λ_ J7=>sr λ_ J8=>PS ?_));refine aU (cells:=#[(jH (.slice a bs.length c) 0 (bs.length-4))]) (aa rfl) rfl rfl rfl um FY rfl rfl rfl (sd hT.one (by simp)) (λb43=>CF JI (Ea (.slice (some ⟨b43,0,none⟩) (1) (1)) [(bs.take (bs.length-4))]) ID (Bi hT 0 rfl rfl) ?_)
 rw[show [(bs.take (bs.length-4))].flatten=(bs.take (bs.length-4))by simp];refine P2 ?_;refine an ?_ ?_<;>intro h46;refine nx J8 (CY (sr λ_ J9=>P2 ?_));refine nx J9 (ai (ae (WK [] (iq rfl rfl rfl ?_))));exact .inl ⟨by rw[mA,if_neg (by omega),if_neg h46],rfl,rfl⟩;refine nx J8 (CN (qx J7 (sr λ_ J10=>BX (aa rfl) rfl rfl rfl gq kV (λv47=>PS ?_))));refine cE (k:=0) (news:=dY ((bs.take (bs.length-4)))) (nn':=((bs.take (bs.length-4)):List UInt8).length) (xs':=dY ((bs.take (bs.length-4)))) (aa rfl) rfl rfl rfl gq yl rfl rfl rfl rfl rfl rfl (λ_ _=>hT.src (λ_ h=>dT h)) (eN _) (by simp only[maxLen,aC,bG];omega) (by simp only[aC,bG];omega) (by simp) (cb _) (λv49 ov49=>P2 ?_);refine nx J10 (ai (WK [0] (iq rfl rfl rfl ?_)));exact .inr ⟨_,_,by rw[mA,if_neg (by omega),if_pos (by simpa using h46)],rfl,rfl⟩
theorem xQ(x:Value)(bs:List UInt8)(hb:bs.length≤1000000000):DT 167 #[x] (IsW x bs) [] (c9 (λv H=>(mA bs=none∧v= .tuple #[.slice none 0 0, .bool false]∧H=[])∨∃t u,mA bs=some t∧v= .tuple #[u, .bool true]∧H=[dK u t 5])):=λw G h m=>by
 obtain⟨a,c,rfl,hc,_⟩:=h.form;exact ES a c bs hc hb w G h m
theorem tE(n:Nat)(hn:n≤1000000000000):
 DT 176 #[(.int .i64 (((n:Nat):Int)))] T0 [] (RI (.int .i64 ((bq n:Nat):Int)) []):=by
 refine BD 9 Tryz.func176 rfl rfl rfl λw0 F hF=>sr λ_ J1=>PS ?_
 refine nx J1 (ab λ_ J2=>sr λ_ J3=>P2 ?_);refine an ?_ ?_<;>intro h4;refine nx J3 (CY (sr λ_ J4=>PS ?_));refine nx J4 (ai (ae (WK [] (au rfl rfl ?_))));obtain rfl:n=0:=by omega
 exact⟨rfl,rfl⟩;refine nx J3 (CN (qx J2 (sr λ_ J5=>PS ?_)));refine tp (iH rfl rfl rfl (bH (by omega) (by omega))) ?_;refine tp (PV.quo (r:=(((n-1) / 52:Nat):Int)) rfl rfl rfl (by omega) (by rw[show(((n:Nat):Int)-1)=((n-1:Nat):Int)by omega];exact Kf (n-1) 52 (by omega))) ?_;refine AD ?_;refine PS ?_;refine nx J5 (ai (WK [] (au rfl rfl ?_)));rw[bq,if_neg (by omega)];exact⟨by simp,rfl⟩
theorem Cu{number:Int}{bs:List UInt8}{k:Nat}:mD number bs (k+1)=mD number bs k++[pA (jp number k (bq bs.length) (gg bs k))++[1]]:=Ct number bs k
theorem yY(a:Option Addr)(c number:Nat)(bs:List UInt8)(hc:bs.length≤c)(hb:bs.length≤3000):
 DT 178 #[(.int .i64 (((number:Nat):Int))),(.slice a bs.length c)] (IsW (.slice a bs.length c) bs) [] (c9 (λv H=>H=[lY 93 5 v (cf ((number:Nat):Int) bs)])):=by
 refine BD 68 Tryz.func178 rfl rfl rfl λw0 F hF=>sr λ_ J1=>PS ?_
 refine nx J1 (sr λ_ J2=>PS ?_);refine tp (dX rfl gq rfl ⟨_,_,rfl⟩) ?_;refine CE Ju (tE bs.length (by omega)) ID ?_;refine PS ?_;refine nx J2 (sr λ_ J3=>PS ?_);refine nx J3 (ab λ_ J4=>sr λ_ J5=>P2 ?_);refine nx J5 (aq ?_)
 refine bn (α:=(Nat)×(Value)) (λ⟨k,vr⟩=>k≤bq bs.length∧vr.oneCell'=true) (λ⟨k,vr⟩=>[(0,(.int .i64 (((number:Nat):Int)))),(1,(.slice a bs.length c)),(4,(.slice none 0 0)),(5,(.int .i64 (((bq bs.length:Nat):Int)))),(6,vr),(14,(.int .i64 (((bq bs.length:Nat):Int)))),(15,(.int .i64 (((k:Nat):Int))))]) (λ⟨k,vr⟩=>[lY 93 5 vr (mD ((number:Nat):Int) bs k)]) (λ⟨k,vr⟩=>bq bs.length-k) (0,(.slice none 0 0))
  ⟨aN _,rfl⟩ SB
  (λ_ s=>tu 93 5 s) (λ⟨k,vr⟩ hinv=>?_)
 obtain⟨hk,hvr⟩:=hinv;refine sr λ_ J6=>PS ?_
 refine an ?_ ?_<;>intro h16;have hkn:=IA (n:=bs.length) (k:=k) (by omega);have hpe:=IB bs k;have hP:IsW (jH (.slice a bs.length c) (k*52) (min ((k+1)*52) bs.length)) (gg bs k) F:=by rw[←hpe];exact hF.cut (by omega) (by omega)
 have hpl:=sX bs k;have hpk:=vG hb;have hP2:=hP.len;refine nx J6 (ab λ_ J7=>CY (qx J7 (ab λ_ J8=>aq (sr λ_ J9=>P2 ?_))));refine nx J9 (sr λ_ J10=>P2 ?_);refine tp (Jg (r:=((k*52:Nat):Int)) rfl rfl rfl (by rw[show((k:Nat):Int)*52=((k*52:Nat):Int)by omega];exact bH (by omega) (by omega))) ?_;refine PS ?_;refine AD ?_;refine tp (Jg (r:=(((k+1)*52:Nat):Int)) rfl rfl rfl (by rw[show(((k:Nat):Int)+1)*52=(((k+1)*52:Nat):Int)by omega];exact bH (by omega) (by omega))) ?_;refine PS ?_;refine tp (dX rfl gq rfl ⟨_,_,rfl⟩) ?_;refine tp (PV.minI rfl rfl rfl) ?_;refine tp (PV.sliceLH (lo:=k*52) (hi:=min ((k+1)*52) bs.length) rfl gq kV rfl rfl rfl rfl (by omega) (by omega) (by omega)) ?_;refine PS ?_;refine nx J10 (sr λ_ J11=>TL.makeB (59) (59) (aa rfl) rfl rfl rfl gq yl rfl rfl rfl rfl (by omega) (by omega) (λb28=>PS ?_));refine nx J11 (ab λ_ J12=>sr λ_ J13=>PS ?_);refine nx J13 (aq (ra 5 (sr λ_ J14=>PS ?_)));refine nx J14 (ab λ_ J15=>CY (qx J15 (ab λ_ J16=>aq (sr λ_ J17=>P2 ?_))));refine nx J17 (ad (P4 ?_));refine tp (iH (r:=3) rfl rfl rfl (by decide)) ?_;refine tp (Jg (r:=24) rfl rfl rfl (by decide)) ?_;refine tp (lD (r:=((number:Nat):Int).fdiv 16777216) rfl rfl rfl (by omega) rfl) ?_;refine tp (ej (r:=(((r8 (((number:Nat):Int).fdiv 16777216)).toNat:Nat):Int)) rfl Y3 Y5 rfl (r8_wrap _)) ?_
 refine tp (jm (r:=0) rfl gq kV rfl rfl (by first|omega|decide) (by first|omega|decide) rfl) ?_;refine S0 0 kV ?_;refine ap (af (ac J16 (ad (tp (cg (r:=1) rfl rfl rfl (by decide)) ?_))));refine PS ?_;refine ap (ei (sr λ_ J18=>PS ?_));refine nx J18 (ab λ_ J19=>CY (qx J19 (ab λ_ J20=>aq (sr λ_ J21=>P2 ?_))));refine nx J21 (ad (P4 ?_));refine tp (iH (r:=2) rfl rfl rfl (by decide)) ?_;refine tp (Jg (r:=16) rfl rfl rfl (by decide)) ?_;refine tp (lD (r:=((number:Nat):Int).fdiv 65536) rfl rfl rfl (by omega) rfl) ?_;refine tp (ej (r:=(((r8 (((number:Nat):Int).fdiv 65536)).toNat:Nat):Int)) rfl Y3 Y5 rfl (r8_wrap _)) ?_;refine tp (jm (r:=1) rfl gq kV rfl rfl (by first|omega|decide) (by first|omega|decide) rfl) ?_;refine S0 0 kV ?_;refine ap (af (ac J20 (ad (tp (cg (r:=2) rfl rfl rfl (by decide)) ?_))));refine PS ?_;refine ap (ei (sr λ_ J22=>PS ?_));refine nx J22 (ab λ_ J23=>CY (qx J23 (ab λ_ J24=>aq (sr λ_ J25=>P2 ?_))));refine nx J25 (ad (P4 ?_));refine tp (iH (r:=1) rfl rfl rfl (by decide)) ?_;refine tp (Jg (r:=8) rfl rfl rfl (by decide)) ?_;refine tp (lD (r:=((number:Nat):Int).fdiv 256) rfl rfl rfl (by omega) rfl) ?_;refine tp (ej (r:=(((r8 (((number:Nat):Int).fdiv 256)).toNat:Nat):Int)) rfl Y3 Y5 rfl (r8_wrap _)) ?_;refine tp (jm (r:=2) rfl gq kV rfl rfl (by first|omega|decide) (by first|omega|decide) rfl) ?_;refine S0 0 kV ?_
 refine ap (af (ac J24 (ad (tp (cg (r:=3) rfl rfl rfl (by decide)) ?_))));refine PS ?_;refine ap (ei (sr λ_ J26=>PS ?_));refine nx J26 (ab λ_ J27=>CY (qx J27 (ab λ_ J28=>aq (sr λ_ J29=>P2 ?_))));refine nx J29 (ad (P4 ?_));refine tp (iH (r:=0) rfl rfl rfl (by decide)) ?_;refine tp (Jg (r:=0) rfl rfl rfl (by decide)) ?_;refine tp (lD (r:=((number:Nat):Int)) rfl rfl rfl (by omega) (Int.fdiv_one _)) ?_;refine tp (ej (r:=(((r8 (((number:Nat):Int))).toNat:Nat):Int)) rfl Y3 Y5 rfl (r8_wrap _)) ?_;refine tp (jm (r:=3) rfl gq kV rfl rfl (by first|omega|decide) (by first|omega|decide) rfl) ?_;refine S0 0 kV ?_;refine ap (af (ac J28 (ad (tp (cg (r:=4) rfl rfl rfl (by decide)) ?_))));refine PS ?_;refine ap (ei (sr λ_ J30=>PS ?_));refine nx J30 (ab λ_ J31=>CN (aS (ay (ay (bj (ac J12 (sr λ_ J32=>P4 ?_)))))));refine tp (ej (r:=(((r8 (((k:Nat):Int))).toNat:Nat):Int)) rfl Y3 Y5 rfl (r8_wrap _)) ?_;refine PS ?_;refine tp (ej (r:=(((r8 (((bq bs.length:Nat):Int))).toNat:Nat):Int)) rfl Y3 Y5 rfl (r8_wrap _)) ?_;refine PS ?_;refine tp (dX rfl gq rfl hP2) ?_;refine tp (ej (r:=(((r8 ((((gg bs k).length:Nat):Int))).toNat:Nat):Int)) rfl Y3 Y5 rfl (r8_wrap _)) ?_;refine tp (jm (r:=4) rfl gq kV rfl rfl (by first|omega|decide) (by first|omega|decide) rfl) ?_;refine S0 0 kV ?_;refine tp (jm (r:=5) rfl gq kV rfl rfl (by first|omega|decide) (by first|omega|decide) rfl) ?_;refine S0 0 kV ?_
 refine tp (jm (r:=6) rfl gq kV rfl rfl (by first|omega|decide) (by first|omega|decide) rfl) ?_;refine S0 0 kV ?_;refine nx J32 (sr λ_ J33=>PS ?_);refine tp (PV.sliceLo (k:=7) (v:=(.slice (some ⟨b28,7,none⟩) (52) (52))) rfl gq kV rfl rfl rfl (by decide) rfl) ?_;refine PS ?_;refine KT (i:=0) (m:=(gg bs k).length) (news:=(dY (gg bs k))) (H':=[ag b28 (dY (jp ((number:Nat):Int) k (bq bs.length) (gg bs k))) 5,lY 93 5 vr (mD ((number:Nat):Int) bs k)]) (aa rfl) rfl rfl rfl gq kV rfl rfl rfl rfl (λ_ _=>hP.src (λ_ h=>dT h)) (eN _) (by show 7+min (gg bs k).length 52≤59;omega) (ER (number:=((number:Nat):Int)) (place:=k) (all:=bq bs.length) hpl) rfl (nx J33 (ad (P2 ?_)));refine CQ Ls (tr (.slice (some ⟨b28,0,none⟩) (59) (59)) (jp ((number:Nat):Int) k (bq bs.length) (gg bs k)) (by rw[jd hpl];decide)) ID (λg d s=>H9 (Bh 0 59 (jd hpl) (by decide) rfl rfl g d s)) λvR HR hR=>?_
 subst hR;refine aU (cells:=#[(.int .u8 1)]) (aa rfl) rfl rfl rfl gq yl rfl rfl rfl (by as_aux_lemma=>kernel_rfl) (λb62=>cE (k:=1) (news:=dY ([1])) (nn':=(pA (jp ((number:Nat):Int) k (bq bs.length) (gg bs k))++[1]:List UInt8).length) (xs':=dY (pA (jp ((number:Nat):Int) k (bq bs.length) (gg bs k))++[1])) (aa rfl) rfl rfl rfl gq yl rfl rfl rfl rfl rfl rfl (λ_ _=>jl rfl (RO 0) rfl) (eN [1]) (by rw[kq,jd hpl];simp only[maxLen];omega) (by rw[kq,jd hpl];omega) (by simp) (iL _ _).symm (λv63 ov63=>aU (cells:=#[v63]) (aa rfl) rfl rfl rfl um FY rfl rfl rfl (sd ov63 (by simp)) (λb64=>?_)));change TL _ _ _ _ _ _ _ _ _ [ag b64 [v63] 93,ag b62 [(.int .u8 1)] 5,dK v63 (pA (jp ((number:Nat):Int) k (bq bs.length) (gg bs k))++[1]) 5,ag b28 (dY (jp ((number:Nat):Int) k (bq bs.length) (gg bs k))) 5,lY 93 5 vr (mD ((number:Nat):Int) bs k)];refine cq (λ_ s=>az [4] rfl s) (JU (λus65=>cE (k:=0) (m:=1) (news:=[v63]) (nn':=(mD ((number:Nat):Int) bs k).length+1) (xs':=us65++[v63]) (aa rfl) rfl rfl rfl um FY rfl rfl rfl rfl rfl rfl (λ_ _=>jl rfl (RO 2) rfl) (List.forall_mem_cons.2 ⟨ov63,λ_ h=>by cases h⟩) (by rw[xS];simp only[maxLen];omega) (by rw[xS];omega) rfl rfl (λv65 ov65=>?_)))
 change TL _ _ _ _ _ _ _ _ _ [own v65 ((mD ((number:Nat):Int) bs k).length+1) (us65++[v63]) 93 1,en us65 (mD ((number:Nat):Int) bs k) 5,ag b64 [v63] 93,ag b62 [(.int .u8 1)] 5,dK v63 (pA (jp ((number:Nat):Int) k (bq bs.length) (gg bs k))++[1]) 5,ag b28 (dY (jp ((number:Nat):Int) k (bq bs.length) (gg bs k))) 5];refine cq (λ_ s=>yW 4 rfl rfl s) (cq (H':=[own v65 ((mD ((number:Nat):Int) bs k).length+1) (us65++[v63]) 93 1,en us65 (mD ((number:Nat):Int) bs k) 5,gm v63 (pA (jp ((number:Nat):Int) k (bq bs.length) (gg bs k))++[1]) 5,ag b64 [v63] 93,ag b62 [(.int .u8 1)] 5,ag b28 (dY (jp ((number:Nat):Int) k (bq bs.length) (gg bs k))) 5]) (λ_ s=>az [0,0,2] rfl s) (cq (λ_ s=>tw s) ?_));rw[←Cu];refine PS ?_;refine ap (af (ac J8 (ad (AD ?_))));refine PS ?_;refine ap ?_
 exact aI ((k+1,v65):(Nat)×(Value)) ⟨by omega,ov65⟩ (by show bq bs.length- (k+1)<bq bs.length-k;omega)
  SB
  (λ_ s=>ak [0] rfl s)
 refine nx J6 (ab λ_ J34=>CN (aS (ay (ay (bj (ac J4 (sr λ_ J35=>P2 ?_)))))));refine nx J35 (ai (WK [0] (au rfl rfl ?_)));obtain rfl:k=bq bs.length:=by omega
 exact rfl
theorem yZ(x:Value)(number:Nat)(bs:List UInt8)(hb:bs.length≤3000):DT 178 #[.int .i64 ((number:Nat):Int),x] (IsW x bs) [] (c9 (λv H=>H=[lY 93 5 v (cf ((number:Nat):Int) bs)])):=λw G h m=>by
 obtain⟨a,c,rfl,hc,_⟩:=h.form;exact yY a c number bs hc hb w G h m
theorem vI(s:jK)(number place:Int)(hs:s.length=64):
 DT 159 #[(.agg (dY s).toArray),(.int .i64 (number)),(.int .i64 (place))] T0 [] (c9 (λv H=>(fe s number place=none∧v= .tuple #[.slice none 0 0, .int .i64 0, .bool false]∧H=[])∨∃b all u,fe s number place=some (b,all)∧v= .tuple #[u, .int .i64 all, .bool true]∧H=[gm u b 5])):=by
 refine BD 74 Tryz.func159 rfl rfl rfl λw0 F hF=>sr λ_ J1=>XY (dY s) λb3=>?_
 refine P3 ?_;refine nx J1 (sr λ_ J2=>tp (NZ (k:=63) rfl oR kV rfl rfl (by omega) (by omega) rfl) ?_);refine CQ Jx (xQ (.slice (some ⟨b3,0,none⟩) (63) (64)) (s.take 63) (by rw[bG];omega)) ID (λg d s'=>H9 (FW 0 63 (by omega) (by omega) (by decide) (by rw[aB (by rw[aX];omega)]) hs.symm rfl rfl g d s')) λvR HR hR=>?_
 rcases hR with⟨ht,rfl,rfl⟩| ⟨t,u,ht,rfl,rfl⟩
 refine P4 ?_;refine PS ?_;refine nx J2 (ab λ_ J3=>sr λ_ J4=>PS ?_);refine PS ?_;refine PS ?_
 iterate 3 refine UT ?_
 refine PS ?_;refine nx J4 (CY (sr λ_ J5=>P3 ?_));exact nx J5 (ai (ae (WK [] (mS rfl rfl rfl rfl (.inl ⟨zf ht,rfl,rfl⟩)))));have htl:=xR ht;rw[bG]at htl;have ht59:t.length=59:=by omega
 refine jJ 0 rfl rfl (by omega) (λg cap hv hcap=>P4 ?_);refine PS ?_;refine nx J2 (ab λ_ J6=>sr λ_ J7=>PS ?_);refine PS ?_;refine PS ?_;refine IX 63 oR kV ?_;refine LT 1 Y5 (.int .u8 ((((s.getD 63 0).toNat:Nat):Int))) ?_ (hc:=by exact qt (by omega));refine PS ?_;refine an ?_ ?_<;>intro h26;refine PS ?_;refine nx J7 (CY (sr λ_ J8=>P3 ?_));refine nx J8 (ai (ae (WK [] (mS rfl rfl rfl rfl ?_))));exact .inl ⟨qH (λh=>h26 (by rw[h];rfl)),rfl,rfl⟩;refine PS ?_;refine nx J7 (CN (qx J6 (sr λ_ J9=>PS ?_)));refine nx J9 (ab λ_ J10=>sr λ_ J11=>PS ?_);refine tp (N4 (PV.sliceH (a:=some ⟨g,0,none⟩) (len:=t.length) (cap:=cap) (hi:=4) rfl gq kV (by rw[←hv];rfl) rfl rfl (by omega)) (I3 (by omega))) ?_;refine tp (sA rfl gq rfl) ?_;refine PS ?_;refine nx J11 (aq ?_)
 refine bn (α:=(Nat)) (λk=>k≤4) (λk=>[(1,(.int .i64 (number))),(2,(.int .i64 (place))),(6,(.slice none 0 0)),(7,(.int .i64 0)),(8,(.bool false)),(9,u),(11,(.int .i64 (Gg (t.take k)))),(29,(.slice (some ⟨g,0,none⟩) (4) (cap))),(30,(.int .i64 4)),(31,(.int .i64 (((k:Nat):Int))))]) (λk=>[dK u (t) 5,ag b3 (dY s) 128]) (λk=>4-k) 0
  (aN _) SB
  (λ_ s=>s) (λk hinv=>?_)
 obtain hk:=hinv;refine sr λ_ J12=>PS ?_
 refine an ?_ ?_<;>intro h32;refine nx J12 (ab λ_ J13=>CY (qx J13 (ab λ_ J14=>aq (sr λ_ J15=>tp (jm (r:=k) rfl gq kV rfl rfl (by first|omega|decide) (by first|omega|decide) (by omega)) ?_))));refine tp (cX (v:=(.int .u8 ((((t.getD k 0).toNat:Nat):Int)))) rfl Y5 rfl rfl (fU 0 rfl hv rfl) (qt (by omega))) ?_;refine PS ?_;refine nx J15 (ad (PS ?_));refine tp (xC (r:=IntKind.i64.wrap ((Gg (t.take k))*2^8)) rfl rfl rfl (by omega) rfl) ?_;refine PS ?_;refine tp (ej (r:=(((t.getD k 0).toNat:Nat):Int)) rfl Y5 Y3 rfl (bH (by omega) (by have:=UInt8.toNat_lt (n:=t.getD k 0);omega))) ?_;refine tp (H4 (r:=iu .i64 (IntKind.i64.wrap ((Gg (t.take k))*2^8)) (((t.getD k 0).toNat:Nat):Int)) rfl rfl rfl rfl) ?_;refine PS ?_;refine ap (af (ac J14 (ad (AD ?_))));refine PS ?_;refine ap ?_
 exact aI ((k+1):(Nat)) (by omega) (by show 4- (k+1)<4-k;omega)
  (aL (aL (aL (aL (aL (aL (bd rfl (congrArg (Value.int .i64) (HU (by omega)).symm) SB)))))))
  (λ_ s=>s)
 refine nx J12 (ab λ_ J16=>CN (aS (ay (ay (bj (ac J10 (ab λ_ J17=>lR (λw=>Frm F w∧Hx g (dY (t)) w∧True) df rfl (λ_ s=>⟨dT s,fU 0 rfl hv rfl _ s,trivial⟩) (PD 0 ?_))))))));refine ta 1 rfl (bS (r:=5) hv rfl gq kV rfl rfl (by omega) (by omega) rfl) ?_;refine ta 2 rfl (cX (v:=(.int .u8 ((((t.getD 5 0).toNat:Nat):Int)))) rfl Y5 rfl rfl (λ_ h=>h.2.1) (qt (by omega))) ?_;refine ta 3 rfl (ej (r:=(((t.getD 5 0).toNat:Nat):Int)) rfl Y5 Y3 rfl (bH (by omega) (by have:=UInt8.toNat_lt (n:=t.getD 5 0);omega))) ?_;refine PD 4 ?_;refine ta 5 rfl (bS (r:=6) hv rfl gq kV rfl rfl (by omega) (by omega) rfl) ?_;refine ta 6 rfl (cX (v:=(.int .u8 ((((t.getD 6 0).toNat:Nat):Int)))) rfl Y5 rfl rfl (λ_ h=>h.2.1) (qt (by omega))) ?_;refine ta 7 rfl (ej (r:=(((t.getD 6 0).toNat:Nat):Int)) rfl Y5 Y3 rfl (bH (by omega) (by have:=UInt8.toNat_lt (n:=t.getD 6 0);omega))) ?_;refine PD 8 ?_;refine PD 9 ?_;refine DN (ac J17 (ab λ_ J18=>sr λ_ J19=>P3 ?_));refine an ?_ ?_<;>intro h51;refine PS ?_
 iterate 6 refine UT ?_
 refine P2 ?_
 iterate 3 refine UT ?_
 refine P2 ?_;refine UT ?_;refine UT ?_;refine PS ?_;refine nx J19 (CY (sr λ_ J20=>P3 ?_));refine nx J20 (ai (ae (WK [] (mS rfl rfl rfl rfl ?_))));exact .inl ⟨l9 ht (.inl (by have:k=4:=(by omega);subst this;exact h51)),rfl,rfl⟩;refine P2 ?_;refine tq (bS (r:=4) hv rfl gq kV rfl rfl (by omega) (by omega) rfl) ?_;refine tq (cX (v:=(.int .u8 ((((t.getD 4 0).toNat:Nat):Int)))) rfl Y5 rfl rfl (fU 0 rfl hv rfl) (qt (by omega))) ?_;refine tq (ej (r:=(((t.getD 4 0).toNat:Nat):Int)) rfl Y5 Y3 rfl (bH (by omega) (by have:=UInt8.toNat_lt (n:=t.getD 4 0);omega))) ?_;refine P2 ?_;refine an ?_ ?_<;>intro h58;refine P2 ?_
 iterate 3 refine UT ?_
 refine P2 ?_;refine UT ?_;refine UT ?_;refine PS ?_;refine nx J19 (CY (sr λ_ J21=>P3 ?_));exact nx J21 (ai (ae (WK [] (mS rfl rfl rfl rfl (.inl ⟨l9 ht (.inr (.inl h58)),rfl,rfl⟩)))))
 iterate 5 refine PS ?_
 refine an ?_ ?_<;>intro h63;refine P2 ?_;refine UT ?_;refine UT ?_;refine PS ?_;refine nx J19 (CY (sr λ_ J22=>P3 ?_));exact nx J22 (ai (ae (WK [] (mS rfl rfl rfl rfl (.inl ⟨l9 ht (.inr (.inr (.inl h63))),rfl,rfl⟩)))));refine P4 ?_;refine an ?_ ?_<;>intro h67;refine PS ?_;refine nx J19 (CY (sr λ_ J23=>P3 ?_));exact nx J23 (ai (ae (WK [] (mS rfl rfl rfl rfl (.inl ⟨l9 ht (.inr (.inr (.inr h67))),rfl,rfl⟩)))));refine PS ?_;refine nx J19 (CN (qx J18 (sr λ_ J24=>P2 ?_)));refine tp (cg (r:=((7+(t.getD 6 0).toNat:Nat):Int)) rfl rfl rfl (by rw[show(7:Int)+(((t.getD 6 0).toNat:Nat):Int)=((7+(t.getD 6 0).toNat:Nat):Int)by omega];have:=UInt8.toNat_lt (n:=t.getD 6 0);exact bH (by omega) (by omega))) ?_;refine tp (N4 (PV.sliceLH (a:=some ⟨g,0,none⟩) (len:=t.length) (cap:=cap) (lo:=7) (hi:=7+(t.getD 6 0).toNat) rfl gq kV (by rw[←hv];rfl) rfl rfl rfl rfl (by omega) (by omega)) (congrArg (λq=>jH q 7 (7+(t.getD 6 0).toNat)) hv.symm)) ?_;refine P4 ?_;refine nx J24 (ai (aF (H':=[gm (jH u 7 (7+(t.getD 6 0).toNat)) ((t.drop 7).take (t.getD 6 0).toNat) 5]) (dh _) (λ_ s'=>ak [0] rfl (vf 0 rfl rfl hv (by omega) (by omega) (by omega) (by rw[n4,ci]) s')) (mS rfl rfl rfl rfl ?_)));obtain rfl:k=4:=by omega
 have h1:s.getD 63 0=1:=UInt8.toNat_inj.1 (by have h1':(1:UInt8).toNat=1:=rfl;omega);exact .inr ⟨_,_,_,A1 ht h1 (by omega),rfl,rfl⟩
end Go.Proofs.YtjblgopghhgflaaGreat
end

section
namespace Wal
open Go Leg Codec Api Dsk
theorem tc(i:Nat){us:List Value}{ls:List (List UInt8)}{e k:Nat}{B:List HP}{F:Hl}(hk:k<ls.length)(hi:Nat.blt i B.length=true)(hH:B.getD i (λ_=>True)=en us ls e): ∀g,Dj g F→bC B g→IsB (us.getD k undef) ls[k] (jn g F):=λg d s=>by
 obtain⟨h1,h2,d',rfl,a,_⟩:=eO i (lb hi) s;rw[hH]at a;obtain⟨hl,a⟩:=a;obtain⟨u,e1,k1,k2,dk,rfl,a3⟩:=wD us ls e _ hl a k hk;rw[List.getD_eq_getElem?_getD,e1];exact Au a3 λb o e=>gH (gH (gH e))
theorem In.read{s ws:fx}(h1:In s)(h2:In ws)(at':Int)(h: ¬(0≤at'∧at'<2048)): ∀k,k≤ws.length→iQ s ws at' k=zs
 |0,_=>by
  show it s at'=zs
  induction s with
  |nil=>rfl
  |cons p s ih=>
   obtain⟨a,b⟩:=p;simp only[it];have hh:=h1 (a,b) (by simp);rw[if_neg (λe=>h (by simp only at hh;omega))];exact ih λq hq=>h1 q (by simp[hq])
 |k+1,hk=>by
  simp only[iQ];rw[if_neg,In.read h1 h2 at' h k (by omega)];intro e;rw[uQ (by omega)]at e;have hh:=h2 ws[k] (eY _);exact h (by omega)
theorem DS.In.read{D:DS}(h:Wal.DS.In D){at':Int}(h2: ¬(0≤at'∧at'<2048)):D.read at'=zs:=Wal.In.read h.1 h.2 at' h2 _ (aK _)
theorem Fw(number place:Int):fe zs number place=none:=qH (by decide)
theorem vQ{rd:Int→jK}{number at' all:Int}: ∀(m:Nat) {b:List UInt8},kw rd number at' all m=some b→∀k,k<m→∃x,fe (rd (at'+k)) number k=some (x,all)
 |0,_,_,k,hk=>by omega
 |m+1,b,h,k,hk=>by
  simp only[kw]at h;split at h
  · cases h
  · rename_i b' hb
    split at h
    · cases h
    · rename_i x same hx
      split at h
      · rename_i hs
        by_cases e:k=m
        · subst e;exact⟨x,by rw[hx,hs]⟩
        · exact vQ m hb k (by omega)
      · cases h
theorem kW{rd:Int→jK}{number at' all:Int}{b:List UInt8}(hl:(rd at').length=64)(h:fG rd number at'=some (b,all)):0<all∧all≤255∧∀k:Nat,(k:Int)<all→∃x,fe (rd (at'+k)) number k=some (x,all):=by
 unfold fG at h;split at h
 · cases h
 · rename_i x al hp
   obtain⟨f1,f2,_⟩:=oj hl hp;obtain⟨c,hc,e⟩:=Option.map_eq_some_iff.1 h;injection e with e1 e2
   subst e1;subst e2;exact⟨f1,f2,λk hk=>vQ _ hc k (by omega)⟩
theorem oc{D:DS}(hI:Wal.DS.In D)(hD:D.Ok){number at' all:Int}{b:List UInt8}(h0:0≤at')(h:fG D.read number at'=some (b,all)):at'+all≤2048:=by
 obtain⟨f1,f2,f3⟩:=kW (lI hD _) h;obtain⟨x,hx⟩:=f3 (all-1).toNat (by omega)
 by_cases q:at'+all≤2048
 · exact q
 · rw[DS.In.read hI (by omega),Fw]at hx;cases hx
theorem xT{rd:Int→jK}{f:Nat}{cnt used:Int}(h:fG rd (cnt+1) used=none):fN rd f cnt used=([],used):=by
 cases f with
 |zero=>rfl
 |succ f=>simp only[fN,h]
theorem DZ{rd:Int→jK}{f:Nat}{cnt used all:Int}{b:List UInt8}(h:fG rd (cnt+1) used=some (b,all)):fN rd (f+1) cnt used=(b::(fN rd f (cnt+1) (used+all)).1,(fN rd f (cnt+1) (used+all)).2):=by simp only[fN,h]
def Scan(D:DS)(f:Nat)(rs:List (List UInt8))(used:Int):Prop:=
 fN D.read iX 0 0=(rs++(fN D.read f rs.length used).1,(fN D.read f rs.length used).2)∧0≤used∧used≤2048∧2049≤(f:Int)+used∧(rs.length:Int)≤used
theorem Scan.start(D:DS):Scan D iX [] 0:=by
 refine⟨?_,by omega,by omega,by rw[r9];omega,by simp⟩;have e:((([]:List (List UInt8)).length:Nat):Int)=0:=rfl;rw[cb,e]
theorem Scan.next{D:DS}(hI:Wal.DS.In D)(hD:D.Ok){f:Nat}{rs:List (List UInt8)}{used all:Int}{b:List UInt8}(h:Scan D f rs used)(h2:fG D.read ((rs.length:Int)+1) used=some (b,all)): ∃f',f=f'+1∧Scan D f' (rs++[b]) (used+all):=by
 obtain⟨h1,h0,h3,h4,h5⟩:=h;have hr:=oc hI hD h0 h2;have hf:=(kW (lI hD _) h2).1;obtain⟨f',rfl⟩: ∃f',f=f'+1:=⟨f-1,by omega⟩;refine⟨f',rfl,?_,by omega,by omega,by omega,by simp;omega⟩;rw[h1,DZ h2];simp
theorem Scan.stop{D:DS}{f:Nat}{rs:List (List UInt8)}{used:Int}(h:Scan D f rs used)(h2:fG D.read ((rs.length:Int)+1) used=none):fN D.read iX 0 0=(rs,used):=by
 rw[h.1,xT h2];simp
theorem Ab{D:DS}{at':Int}(h:2048≤at'):jo (2048-at').toNat at' D=(0,D):=by rw[show(2048-at').toNat=0 by omega];rfl
theorem EE{D:DS}{at':Int}(h:at'<2048)(h2:D.read at'=zs):jo (2048-at').toNat at' D=jo (2048- (at'+1)).toNat (at'+1) D:=by
 rw[show(2048-at').toNat=(2048- (at'+1)).toNat+1 by omega,jo,if_pos h2]
theorem Ii{D:DS}{at':Int}(h:at'<2048)(h2:D.read at'≠zs)(h3:(D.write at' []).1=0):jo (2048-at').toNat at' D=jo (2048- (at'+1)).toNat (at'+1) (D.write at' []).2:=by
 rw[show(2048-at').toNat=(2048- (at'+1)).toNat+1 by omega,jo,if_neg h2,if_pos h3]
theorem EG{D:DS}{at':Int}(h:at'<2048)(h2:D.read at'≠zs)(h3:(D.write at' []).1≠0):jo (2048-at').toNat at' D=D.write at' []:=by
 rw[show(2048-at').toNat=(2048- (at'+1)).toNat+1 by omega,jo,if_neg h2,if_neg h3]
theorem CI{D D':DS}{rs:List (List UInt8)}{used e:Int}(h:fN D.read iX 0 0=(rs,used))(h2:jo (2048-used).toNat used D=(e,D'))(h3:e≠0):bJ D=⟨e,[],0,D'⟩:=by
 simp only[bJ,h,h2];rw[if_pos h3]
theorem CH{D D':DS}{rs:List (List UInt8)}{used:Int}(h:fN D.read iX 0 0=(rs,used))(h2:jo (2048-used).toNat used D=(0,D'))(h3:D'.sync.1≠0):bJ D=⟨D'.sync.1,[],0,D'.sync.2⟩:=by
 simp only[bJ,h,h2,ne_eq,not_true_eq_false,if_false];rw[if_pos h3]
theorem D9{D D':DS}{rs:List (List UInt8)}{used:Int}(h:fN D.read iX 0 0=(rs,used))(h2:jo (2048-used).toNat used D=(0,D'))(h3:D'.sync.1=0):bJ D=⟨0,rs,used,D'.sync.2⟩:=by
 simp only[bJ,h,h2,ne_eq,not_true_eq_false,if_false];rw[if_neg (by simp[h3])]
def gG:List jK→Int→DS→Int×DS
 | [],_,D=>(0,D)
 |s::ss,at',D=>if(D.write at' s).1=0 then gG ss (at'+1) (D.write at' s).2 else D.write at' s
structure PutR where
 err:Int
 cnt:Nat
 used:Int
 D:DS
def oi(D:DS)(cnt:Nat)(used:Int)(bs:List UInt8):PutR:=
 if 3000<bs.length then⟨2,cnt,used,D⟩
 else if(bq bs.length:Int)>2048-used then⟨3,cnt,used,D⟩
 else
  let w:=gG (cf ((cnt+1:Nat):Int) bs) used D
  if w.1≠0 then⟨w.1,cnt,used,w.2⟩else if w.2.sync.1≠0 then⟨w.2.sync.1,cnt,used,w.2.sync.2⟩else⟨0,cnt+1,used+bq bs.length,w.2.sync.2⟩
theorem zZ{ss:List jK}{at':Int}{D:DS}{k:Nat}(hk:k<ss.length)(h:(D.write (at'+k) ss[k]).1=0):gG (ss.drop k) (at'+k) D=gG (ss.drop (k+1)) (at'+(k+1:Nat)) (D.write (at'+k) ss[k]).2:=by
 rw[di hk,gG,if_pos h];congr 1;omega
theorem z0{ss:List jK}{at':Int}{D:DS}{k:Nat}(hk:k<ss.length)(h:(D.write (at'+k) ss[k]).1≠0):gG (ss.drop k) (at'+k) D=D.write (at'+k) ss[k]:=by
 rw[di hk,gG,if_neg h]
section
variable {D D':DS} {cnt:Nat} {used:Int} {bs:List UInt8}
theorem GT(h:3000<bs.length):oi D cnt used bs=⟨2,cnt,used,D⟩:=by rw[oi,if_pos h]
theorem GU(h: ¬3000<bs.length)(h2:(bq bs.length:Int)>2048-used):oi D cnt used bs=⟨3,cnt,used,D⟩:=by rw[oi,if_neg h,if_pos h2]
theorem Fp{e:Int}(h: ¬3000<bs.length)(h2: ¬(bq bs.length:Int)>2048-used)(h3:gG (cf ((cnt+1:Nat):Int) bs) used D=(e,D'))(h4:e≠0):oi D cnt used bs=⟨e,cnt,used,D'⟩:=by
 rw[oi,if_neg h,if_neg h2];simp only[h3];rw[if_pos h4]
theorem Fo(h: ¬3000<bs.length)(h2: ¬(bq bs.length:Int)>2048-used)(h3:gG (cf ((cnt+1:Nat):Int) bs) used D=(0,D'))(h4:D'.sync.1≠0):oi D cnt used bs=⟨D'.sync.1,cnt,used,D'.sync.2⟩:=by
 rw[oi,if_neg h,if_neg h2];simp only[h3,ne_eq,not_true_eq_false,if_false];rw[if_pos h4]
theorem put_ok(h: ¬3000<bs.length)(h2: ¬(bq bs.length:Int)>2048-used)(h3:gG (cf ((cnt+1:Nat):Int) bs) used D=(0,D'))(h4:D'.sync.1=0):oi D cnt used bs=⟨0,cnt+1,used+bq bs.length,D'.sync.2⟩:=by
 rw[oi,if_neg h,if_neg h2];simp only[h3,ne_eq,not_true_eq_false,if_false];rw[if_neg (by simp[h4])]
end
end Wal
end

section
namespace Go.Proofs.YtjblgopghhgflaaGreat
open Go Leg Codec Api Dsk Wal
abbrev Eo(lg d:Nat)(cnt used:Int):HP:=ag lg [.pointer (some ⟨d,0,none⟩), .int .i64 cnt, .int .i64 used] 210
abbrev M8(v:Value)(ls:List (List UInt8)):HP:=lY 93 5 v ls
theorem AF(d:Nat)(D:DS)(number at':Int)(hD:D.Ok)(hb:D.ws.length≤1000000000)(ha:0≤at'∧at'≤1000000):
 DT 129 #[(.pointer (some ⟨d,0,none⟩)),(.int .i64 (number)),(.int .i64 (at'))] T0 [dk d (D)] (c9 (λv H=>(fG D.read number at'=none∧v= .tuple #[.slice none 0 0, .int .i64 0, .bool false]∧H=[dk d D])∨∃b all u,fG D.read number at'=some (b,all)∧v= .tuple #[u, .int .i64 all, .bool true]∧H=[gm u b 5,dk d D])):=by
 refine BD 56 Tryz.func129 rfl rfl rfl λw0 F hF=>sr λ_ J1=>P3 ?_
 refine nx J1 (sr λ_ J2=>P2 ?_);refine CR Ha (zF d (D) at' hD hb) ID λvR HR hR=>?_
 obtain⟨hv,rfl⟩:=hR;subst hv;refine PS ?_;refine CR Jz (vI ((D).read at') number 0 (lI hD _)) ID λvR HR hR=>?_
 rcases hR with⟨hp,rfl,rfl⟩| ⟨b,all,u,hp,rfl,rfl⟩
 refine P4 ?_;refine P3 ?_;refine nx J2 (ab λ_ J3=>sr λ_ J4=>PS ?_);refine PS ?_;refine nx J4 (CY (sr λ_ J5=>P3 ?_));exact nx J5 (ai (ae (WK [0] (mS rfl rfl rfl rfl (.inl ⟨qf hp,rfl,rfl⟩)))));refine TL.subLen 0 rfl rfl (λhul hu=>?_);have hpf:=oj (lI hD _) hp;refine P4 ?_;refine P3 ?_;refine nx J2 (ab λ_ J6=>sr λ_ J7=>PS ?_);refine PS ?_;refine nx J7 (CN (qx J6 (ab λ_ J8=>sr λ_ J9=>PS ?_)));refine nx J9 (aq ?_)
 refine bn (α:=(Nat)×(List UInt8)×(Value)) (λ⟨k,c,w⟩=>1≤k∧k≤all.toNat∧kw D.read number at' all k=some c∧c.length≤k*52∧w.oneCell'=true) (λ⟨k,c,w⟩=>[(0,(.pointer (some ⟨d,0,none⟩))),(1,(.int .i64 (number))),(2,(.int .i64 (at'))),(9,w),(10,(.int .i64 (all))),(12,(.int .i64 (((k:Nat):Int))))]) (λ⟨k,c,w⟩=>[gm w (c) 5,dk d (D)]) (λ⟨k,c,w⟩=>all.toNat-k) (1,b,u)
  ⟨aK _,by omega,FN hp,by omega,hu⟩ SB
  (λ_ s=>s) (λ⟨k,c,w⟩ hinv=>?_)
 obtain⟨hk1,hk2,hk3,hk4,hw⟩:=hinv;refine ab λ_ J10=>sr λ_ J11=>P3 ?_
 refine an ?_ ?_<;>intro h29;refine nx J11 (CY (qx J10 (ab λ_ J12=>aq (sr λ_ J13=>P3 ?_))));refine AD ?_;refine CR Ha (zF d (D) (at'+((k:Nat):Int)) hD hb) (SM [1]) λvR HR hR=>?_
 obtain⟨hv,rfl⟩:=hR;subst hv;refine P2 ?_;refine CR Jz (vI ((D).read (at'+((k:Nat):Int))) number ((k:Nat):Int) (lI hD _)) ID λvR HR hR=>?_
 rcases hR with⟨hp2,rfl,rfl⟩| ⟨b2,all2,u2,hp2,rfl,rfl⟩
 refine P4 ?_;refine P3 ?_;refine nx J13 (ab λ_ J14=>sr λ_ J15=>PS ?_);refine PS ?_;refine PS ?_
 iterate 3 refine UT ?_
 refine PS ?_;refine nx J15 (CY (sr λ_ J16=>P3 ?_));refine nx J16 (ai (ae (aH (ae (ae (aH (ae (WK [0] (mS rfl rfl rfl rfl ?_)))))))));exact .inl ⟨qe hp (vO (.inl hp2) _ (by omega)),rfl,rfl⟩;refine TL.subLen 0 rfl rfl (λhul2 hu2=>?_);have hpf2:=oj (lI hD _) hp2;refine P4 ?_;refine P3 ?_;refine nx J13 (ab λ_ J17=>sr λ_ J18=>PS ?_);refine PS ?_;refine P4 ?_;refine an ?_ ?_<;>intro h49;refine PS ?_;refine nx J18 (CY (sr λ_ J19=>P3 ?_));refine nx J19 (ai (ae (aH (ae (ae (aH (ae (WK [1] (mS rfl rfl rfl rfl ?_)))))))));exact .inl ⟨qe hp (vO (.inr ⟨b2,all2,hp2,h49⟩) _ (by omega)),rfl,rfl⟩;refine PS ?_;refine nx J18 (CN (qx J17 (ad (P2 ?_))));refine TL.appendS (k:=2) (news:=b2) (bs':=c++b2) (aa rfl) rfl rfl rfl gq yl rfl rfl rfl rfl (λ_ s=>Src.sub 0 rfl rfl s) (by omega) rfl (λv53 ov53=>PS ?_);refine ap (af (ac J12 (ad (PS ?_))));refine AD ?_;refine PS ?_;refine ap ?_
 exact aI ((k+1,c++b2,v53):(Nat)×(List UInt8)×(Value)) ⟨by omega,by omega,vS hk3 (by rw[hp2,show all2=all by omega]),by rw[aj];omega,ov53⟩ (by show all.toNat- (k+1)<all.toNat-k;omega)
  SB
  (λ_ s=>ak [2,1] rfl s)
 refine nx J11 (CN (aS (ay (ay (bj (ac J8 (sr λ_ J20=>?_)))))))
 iterate 5 refine PS ?_
 refine nx J20 (ai (WK [0,0] (mS rfl rfl rfl rfl ?_)));exact .inr ⟨c,all,w,rD hp (by rw[show all.toNat=k by omega];exact hk3),rfl,rfl⟩
theorem Ff(lg d:Nat)(cnt used:Int)(h:0≤used∧used≤2048):
 DT 177 #[(.pointer (some ⟨lg,0,none⟩))] T0 [ag lg [(.pointer (some ⟨d,0,none⟩)),(.int .i64 (cnt)),(.int .i64 (used))] 210] (RI (.int .i64 (2048-used)) [Eo lg d cnt used]):=by
 refine BD 8 Tryz.func177 rfl rfl rfl λw0 F hF=>sr λ_ J1=>PS ?_
 refine nx J1 (sr λ_ J2=>P2 ?_);refine FA 2 qb aP ?_;refine LA 0 Y3 ?_;refine tp (iH rfl rfl rfl (bH (by omega) (by omega))) ?_;refine PS ?_;exact nx J2 (ai (WK [0] (au rfl rfl ⟨rfl,rfl⟩)))
theorem Ai(lg d cnt:Nat)(used:Int)(x:Value)(bs:List UInt8)(D:DS)(hD:D.Ok)(hb:D.ws.length≤1000000)(hu:0≤used∧used≤2048)(hc:cnt≤1000000):
 DT 166 #[(.pointer (some ⟨lg,0,none⟩)),x] (IsW x bs) [ag lg [(.pointer (some ⟨d,0,none⟩)),(.int .i64 (((cnt:Nat):Int))),(.int .i64 (used))] 210,dk d (D)] (RI (.int .i64 (oi D cnt used bs).err) [Eo lg d (((oi D cnt used bs).cnt:Nat):Int) (oi D cnt used bs).used,dk d (oi D cnt used bs).D]):=by
 refine BD 72 Tryz.func166 rfl rfl rfl λw0 F hF=>sr λ_ J1=>PS ?_
 refine nx J1 (ab λ_ J2=>sr λ_ J3=>PS ?_);refine tp (dX rfl gq rfl hF.len) ?_;refine PS ?_;refine an ?_ ?_<;>intro h12;refine nx J3 (CY (sr λ_ J4=>PS ?_));refine nx J4 (ai (ae (WK [0,0] (au rfl rfl ?_))));rw[GT (by omega)];exact⟨rfl,rfl⟩;refine nx J3 (CN (qx J2 (sr λ_ J5=>PS ?_)));refine tp (dX rfl gq rfl hF.len) ?_;refine CE Ju (tE bs.length (by omega)) ID ?_;refine PS ?_;refine nx J5 (ab λ_ J6=>sr λ_ J7=>P2 ?_);refine CE L2 (Ff lg d ((cnt:Nat):Int) used hu) ID ?_;refine PS ?_;refine an ?_ ?_<;>intro h19;refine nx J7 (CY (sr λ_ J8=>PS ?_));refine nx J8 (ai (ae (WK [0,0] (au rfl rfl ?_))));rw[GU (by omega) (by omega)];exact⟨rfl,rfl⟩;refine nx J7 (CN (qx J6 (ab λ_ J9=>sr λ_ J10=>P2 ?_)));refine FA 1 qb aP ?_;refine LA 0 Y3 ?_;refine tp (N4 (v':=(.int .i64 (((cnt+1:Nat):Int)))) (cg rfl rfl rfl (bH (by omega) (by omega))) rfl) ?_;refine PS ?_;refine CQ L1 (yZ x (cnt+1) bs (by omega)) ID (λg d _=>MT hF d) λvR HR hR=>?_
 have hR:=hR;subst hR;change TL _ _ _ _ _ _ _ _ _ [lY 93 5 vR (cf ((cnt+1:Nat):Int) bs),ag lg [(.pointer (some ⟨d,0,none⟩)),(.int .i64 (((cnt:Nat):Int))),(.int .i64 (used))] 210,dk d (D)];refine TL.recsLen 0 rfl rfl (λhrl hro=>?_);rw[eu]at hrl;refine tp (dX rfl um rfl hrl) ?_;refine PS ?_;refine nx J10 (aq ?_)
 refine bn (α:=(Nat)×(DS)) (λ⟨k,D'⟩=>k≤bq bs.length∧gG (cf ((cnt+1:Nat):Int) bs) used D=gG ((cf ((cnt+1:Nat):Int) bs).drop k) (used+(k:Nat)) D'∧D'.Ok∧D'.ws.length≤D.ws.length+k) (λ⟨k,D'⟩=>[(0,(.pointer (some ⟨lg,0,none⟩))),(5,(.int .i64 (((bq bs.length:Nat):Int)))),(26,vR),(27,(.int .i64 ((((bq bs.length):Nat):Int)))),(28,(.int .i64 (((k:Nat):Int))))]) (λ⟨k,D'⟩=>[ag lg [(.pointer (some ⟨d,0,none⟩)),(.int .i64 (((cnt:Nat):Int))),(.int .i64 (used))] 210,dk d (D'),lY 93 5 vR (cf ((cnt+1:Nat):Int) bs)]) (λ⟨k,D'⟩=>bq bs.length-k) (0,D)
  ⟨aN _,by simp,hD,by omega⟩ SB
  (λ_ s=>az [1,1,0] rfl s) (λ⟨k,D'⟩ hinv=>?_)
 obtain⟨hk,hwr,hD',hws⟩:=hinv;refine sr λ_ J11=>PS ?_
 refine an ?_ ?_<;>intro h29;refine cq (λ_ s=>az [2] rfl s) (JU (λus=>?_));change TL _ _ _ _ _ _ _ _ _ [own vR ((cf ((cnt+1:Nat):Int) bs).length) (us) 93 1,en us (cf ((cnt+1:Nat):Int) bs) 5,ag lg [(.pointer (some ⟨d,0,none⟩)),(.int .i64 (((cnt:Nat):Int))),(.int .i64 (used))] 210,dk d (D')];refine xw (p:=us.length=(cf ((cnt+1:Nat):Int) bs).length*1) (λw m=>m.own_len (i:=0) (lb rfl) rfl) (λhul=>?_);rw[eu,fC]at hul;have hkl:k< (cf ((cnt+1:Nat):Int) bs).length:=by rw[eu];omega
 obtain⟨sk,hsk⟩: ∃x,(cf ((cnt+1:Nat):Int) bs)[k]=x:=⟨_,rfl⟩;refine jJ 0 rfl rfl (by omega) (λg cap hv hcap=>nx J11 (ab λ_ J12=>CY (qx J12 (ab λ_ J13=>aq (sr λ_ J14=>PS ?_)))));refine tp (bS (r:=k) hv rfl um ni rfl rfl (by omega) (by omega) (by omega)) ?_;refine tp (cX (v:=(us.getD k undef)) rfl gq rfl rfl (fU 0 rfl hv rfl) (by simp[List.getD_eq_getElem?_getD,show k<us.length by omega])) ?_;refine P2 ?_;refine nx J14 (ab λ_ J15=>D1 2 df ?_);refine PD 0 ?_;refine PD 1 ?_;refine FD 2 0 qb oF ?_;refine LX 3 sx (.pointer (some ⟨d,0,none⟩)) ?_ (hc:=by exact rfl);refine PD 4 ?_;refine PD 5 ?_;refine FD 6 2 qb aP ?_;refine LX 7 Y3 (.int .i64 (used)) ?_ (hc:=by exact rfl);refine PD 8 ?_;refine ta 9 rfl (cg rfl rfl rfl (bH (by omega) (by omega))) ?_;refine PD 10 ?_;refine AL 11 ?_;refine CQ Kr (wx d D' (used+((k:Nat):Int)) (us.getD k undef) sk hD' (by omega)) (SM [3]) (λg d s=>H9 (hsk▸tc 1 hkl rfl rfl g d s)) λvR HR hR=>?_
 obtain⟨hv2,rfl⟩:=hR;subst hv2;refine EN (PD 12 ?_);refine DN (ac J15 (sr λ_ J16=>P2 ?_));refine an ?_ ?_<;>intro h46;refine nx J16 (CY (sr λ_ J17=>P2 ?_));refine nx J17 (ai (aH (ae (ae (aH (ae (WK [3,0] (au rfl rfl ?_))))))));have hf:=z0 (D:=D') (at':=used) hkl (by rw[hsk];exact h46);rw[hsk]at hf;rw[Fp (by omega) (by omega) (hwr.trans hf) h46];exact⟨rfl,rfl⟩;refine nx J16 (CN (aQ (af (ac J13 (ad (AD ?_))))));refine PS ?_;refine ap ?_
 exact aI ((k+1,(D'.write (used+((k:Nat):Int)) sk).2):(Nat)×(DS)) ⟨by omega,by rw[hwr];subst hsk;exact zZ hkl (by simpa using h46),DS.write_ok hD' _ _,by have:=DS.write_ws (D:=D') (at':=used+((k:Nat):Int)) (bs:=sk);omega⟩ (by show bq bs.length- (k+1)<bq bs.length-k;omega)
  SB
  (λ_ s=>az [1,1,0] rfl (bi (p:=λus:List Value=>[own vR (cf ((cnt+1:Nat):Int) bs).length us 93 1,en us (cf ((cnt+1:Nat):Int) bs) 5]) us (ak [1,1,1,0] rfl s)))
 refine nx J11 (ab λ_ J18=>CN (aS (ay (ay (bj (ac J9 (ab λ_ J19=>sr λ_ J20=>P2 ?_)))))));refine FA 0 qb oF ?_;refine LA 0 sx ?_;refine CR Kq (zE d (D') hD') (SM [1]) λvR HR hR=>?_
 obtain⟨hv,rfl⟩:=hR;subst hv;refine PS ?_;refine nx J20 (sr λ_ J21=>P2 ?_);refine an ?_ ?_<;>intro h55;refine nx J21 (CY (sr λ_ J22=>P2 ?_));refine nx J22 (ai (ae (WK [1,0] (au rfl rfl ?_))));have hf:gG (cf ((cnt+1:Nat):Int) bs) used D=(0,D'):=by rw[hwr,cD (by rw[eu];omega)];rfl
 rw[Fo (by omega) (by omega) hf h55];exact⟨rfl,rfl⟩;refine nx J21 (CN (qx J19 (sr λ_ J23=>P2 ?_)));refine FA 1 qb aP ?_;refine LA 1 Y3 ?_;refine AD ?_;refine PS ?_;refine FA 1 qb aP ?_;refine S0 1 aP ?_;refine nx J23 (sr λ_ J24=>P2 ?_);refine FA 2 qb aP ?_;refine LA 1 Y3 ?_;refine PS ?_;refine AD ?_;refine PS ?_;refine FA 2 qb aP ?_;refine S0 1 aP ?_;refine nx J24 (sr λ_ J25=>PS ?_);refine nx J25 (ai (WK [1,0] (au rfl rfl ?_)));have hf:gG (cf ((cnt+1:Nat):Int) bs) used D=(0,D'):=by rw[hwr,cD (by rw[eu];omega)];rfl
 rw[put_ok (by omega) (by omega) hf (by simpa using h55)];exact⟨rfl,rfl⟩
theorem FE(d:Nat)(D:DS)(hD:D.Ok)(hI:Wal.DS.In D)(hb:D.ws.length≤1000000):
 DT 92 #[(.pointer (some ⟨d,0,none⟩))] T0 [dk d (D)] (c9 (λv H=>((bJ D).err≠0∧v= .tuple #[.pointer none, .slice none 0 0, .int .i64 (bJ D).err]∧H=[dk d (bJ D).D])∨((bJ D).err=0∧∃lg vr,v= .tuple #[.pointer (some ⟨lg,0,none⟩),vr, .int .i64 0]∧H=[Eo lg d (((bJ D).recs.length:Nat):Int) (bJ D).used,M8 vr (bJ D).recs,dk d (bJ D).D]))):=by
 refine BD 80 Tryz.func92 rfl rfl rfl λw0 F hF=>sr λ_ J1=>P3 ?_
 refine nx J1 (ab λ_ J2=>sr λ_ J3=>PS ?_);refine tp (hJ rfl sx rfl rfl) ?_;refine nx J3 (CN (qx J2 (sr λ_ J4=>PS ?_)));refine BV #[(.pointer (some ⟨d,0,none⟩)),(.int .i64 0),(.int .i64 0)] ?_;refine XB λb17=>?_
 refine PS ?_;refine nx J4 (sr λ_ J5=>PS ?_);refine nx J5 (ab λ_ J6=>aq ?_)
 refine bn (α:=(Nat)×(List (List UInt8))×(Int)×(Value)) (λ⟨f,rs,used,vr⟩=>Scan D f rs used∧vr.oneCell'=true) (λ⟨f,rs,used,vr⟩=>[(0,(.pointer (some ⟨d,0,none⟩))),(2,(.pointer none)),(3,(.slice none 0 0)),(4,(.int .i64 0)),(5,(.pointer (some ⟨b17,0,none⟩))),(6,vr)]) (λ⟨f,rs,used,vr⟩=>[ag b17 [(.pointer (some ⟨d,0,none⟩)),(.int .i64 (((rs.length:Nat):Int))),(.int .i64 (used))] 210,dk d (D),lY 93 5 vr (rs)]) (λ⟨f,rs,used,vr⟩=>f) (iX,[],0,(.slice none 0 0))
  ⟨Scan.start D,rfl⟩ SB
  (λ_ s=>ee (List.Perm.trans (List.Perm.swap _ _ _) (List.Perm.cons _ (List.Perm.swap _ _ _))) (tu 93 5 s)) (λ⟨f,rs,used,vr⟩ hinv=>?_)
 obtain⟨hsc,hvr⟩:=hinv;obtain⟨hs1,hs2,hs3,hs4,hs5⟩:=id hsc;refine aq (ab λ_ J7=>D1 0 df ?_);refine PD 0 ?_;refine PD 1 ?_;refine PD 2 ?_;refine FD 3 1 qb aP ?_;refine LX 4 Y3 (.int .i64 (((rs.length:Nat):Int))) ?_ (hc:=by exact rfl);refine ta 5 rfl (cg rfl rfl rfl (bH (by omega) (by omega))) ?_;refine PD 6 ?_;refine PD 7 ?_;refine FD 8 2 qb aP ?_;refine LX 9 Y3 (.int .i64 (used)) ?_ (hc:=by exact rfl);refine AL 10 ?_;refine CR Mq (AF d D (((rs.length:Nat):Int)+1) used hD (by omega) (by omega)) (SM [1]) λvR HR hR=>?_
 rcases hR with⟨hst,rfl,rfl⟩| ⟨b,all,u,hst,rfl,rfl⟩
 have hss:=Scan.stop hsc hst;refine EN (PD 11 ?_);refine PD 12 ?_;refine PD 13 ?_;refine PD 14 ?_;refine PD 15 ?_;refine PD 16 ?_;refine PD 17 ?_;refine DN (ac J7 (ab λ_ J8=>sr λ_ J9=>PS ?_));refine PS ?_;refine nx J9 (CY (aS (ay (TE.miss (by decide) (ay (bj (ac J6 (ab λ_ J10=>sr λ_ J11=>P2 ?_))))))));refine FA 2 qb aP ?_;refine LA 1 Y3 ?_;refine PS ?_;refine nx J11 (aq ?_)
 refine bn (α:=(Int)×(DS)) (λ⟨at',D'⟩=>used≤at'∧at'≤2048∧jo (2048-used).toNat used D=jo (2048-at').toNat at' D'∧D'.Ok∧D'.ws.length≤D.ws.length+(at'-used).toNat) (λ⟨at',D'⟩=>[(0,(.pointer (some ⟨d,0,none⟩))),(5,(.pointer (some ⟨b17,0,none⟩))),(6,vr),(10,(.int .i64 (at')))]) (λ⟨at',D'⟩=>[ag b17 [(.pointer (some ⟨d,0,none⟩)),(.int .i64 (((rs.length:Nat):Int))),(.int .i64 (used))] 210,dk d (D'),lY 93 5 vr (rs)]) (λ⟨at',D'⟩=>(2048-at').toNat) (used,D)
  ⟨by omega,by omega,rfl,hD,by omega⟩ SB
  (λ_ s=>ak [1,0,0] rfl s) (λ⟨at',D'⟩ hinv=>?_)
 obtain⟨ha1,ha2,hwi,hD',hws⟩:=hinv;refine ab λ_ J12=>sr λ_ J13=>P2 ?_
 refine an ?_ ?_<;>intro h59;refine nx J13 (CY (qx J12 (ab λ_ J14=>aq (ab λ_ J15=>sr λ_ J16=>P2 ?_))));refine CR Ha (zF d (D') at' hD' (by omega)) (SM [1]) λvR HR hR=>?_
 obtain⟨hv,rfl⟩:=hR;subst hv;refine BV ((dY zs).toArray) ?_;refine tp (PV.eqlBy (a:=((D').read at')) (b:=zs) (m:=2) Jm Jk rfl Jn Jp Jo (lI hD' _) (by decide) rfl rfl rfl) ?_;refine an ?_ ?_<;>intro h66;refine nx J16 (CY (aS (ay (bj (ac J14 (ad (PS ?_)))))));refine AD ?_;refine PS ?_;refine ap ?_
 exact aI ((at'+1,D'):(Int)×(DS)) ⟨by omega,by omega,by rw[hwi];exact EE (by omega) h66,hD',by omega⟩ (by show(2048- (at'+1)).toNat< (2048-at').toNat;omega)
  SB
  (λ_ s=>ak [1,0,0] rfl s)
 refine nx J16 (CN (qx J15 (sr λ_ J17=>P2 ?_)));refine CQ Kr (wx d (D') at' (.slice none 0 0) ([]) hD' (by omega)) ID (λ_ _ _=> .inl (.inl ⟨rfl,rfl⟩)) λvR HR hR=>?_
 obtain⟨hv,rfl⟩:=hR;subst hv;refine PS ?_;refine nx J17 (sr λ_ J18=>P2 ?_);refine an ?_ ?_<;>intro h71;refine nx J18 (CY (sr λ_ J19=>P4 ?_));refine nx J19 (ai (aH (ae (ae (aH (ae (WK [0] (mS rfl rfl rfl rfl ?_))))))));rw[CI hss (hwi.trans (EG (by omega) h66 h71)) h71];exact .inl ⟨h71,rfl,rfl⟩;refine nx J18 (CN (aQ (af (ac J14 (ad (PS ?_))))));refine AD ?_;refine PS ?_;refine ap ?_
 exact aI ((at'+1,(D'.write at' []).2):(Int)×(DS)) ⟨by omega,by omega,by rw[hwi];exact Ii (by omega) h66 (by simpa using h71),DS.write_ok hD' _ _,by have:=DS.write_ws (D:=D') (at':=at') (bs:=[]);omega⟩ (by show(2048- (at'+1)).toNat< (2048-at').toNat;omega)
  SB
  (λ_ s=>ak [1,0,0] rfl s)
 refine nx J13 (CN (aS (ay (ay (bj (ac J10 (ab λ_ J20=>sr λ_ J21=>PS ?_)))))));refine CR Kq (zE d (D') hD') (SM [1]) λvR HR hR=>?_
 obtain⟨hv,rfl⟩:=hR;subst hv;refine PS ?_;refine nx J21 (sr λ_ J22=>P2 ?_);refine an ?_ ?_<;>intro h76;refine nx J22 (CY (sr λ_ J23=>P4 ?_));refine nx J23 (ai (ae (WK [0] (mS rfl rfl rfl rfl ?_))));rw[CH hss (hwi.trans (Ab (by omega))) h76];exact .inl ⟨h76,rfl,rfl⟩;refine nx J22 (CN (qx J20 (sr λ_ J24=>?_)))
 iterate 5 refine PS ?_
 refine nx J24 (ai (WK [1,1,0] (mS rfl rfl rfl rfl ?_)));have h76':D'.sync.1=0:=by omega
 rw[D9 hss (hwi.trans (Ab (by omega))) h76'];exact .inr ⟨rfl,b17,vr,rfl,rfl⟩;have hro:=oc hI hD (by omega) hst;have hfa:=(kW (lI hD _) hst).1;obtain⟨f',rfl,hsn⟩:=Scan.next hI hD hsc hst;refine TL.subLen 0 rfl rfl (λhul hu=>EN (PD 11 ?_));refine PD 12 ?_;refine PD 13 ?_;refine PD 14 ?_;refine PD 15 ?_;refine PD 16 ?_;refine PD 17 ?_;refine DN (ac J7 (ab λ_ J25=>sr λ_ J26=>PS ?_));refine PS ?_;refine nx J26 (CN (qx J25 (sr λ_ J27=>P2 ?_)));refine aU (cells:=#[u]) (aa rfl) rfl rfl rfl um FY rfl rfl rfl (sd hu (by simp)) (λb37=>?_);change TL _ _ _ _ _ _ _ _ _ [ag b37 [u] 93,gm u (b) 5,dk d (D),ag b17 [(.pointer (some ⟨d,0,none⟩)),(.int .i64 (((rs.length:Nat):Int))),(.int .i64 (used))] 210,lY 93 5 vr (rs)];refine cq (λ_ s=>az [4] rfl s) (JU (λus38=>cE (k:=0) (m:=1) (news:=[u]) (nn':=(rs).length+1) (xs':=us38++[u]) (aa rfl) rfl rfl rfl um FY rfl rfl rfl rfl rfl rfl (λ_ _=>jl rfl (RO 2) rfl) (List.forall_mem_cons.2 ⟨hu,λ_ h=>by cases h⟩) (by simp only[maxLen];omega) (by omega) rfl rfl (λv38 ov38=>?_)));change TL _ _ _ _ _ _ _ _ _ [own v38 ((rs).length+1) (us38++[u]) 93 1,en us38 (rs) 5,ag b37 [u] 93,gm u (b) 5,dk d (D),ag b17 [(.pointer (some ⟨d,0,none⟩)),(.int .i64 (((rs.length:Nat):Int))),(.int .i64 (used))] 210]
 refine cq (H':=[own v38 ((rs).length+1) (us38++[u]) 93 1,en us38 (rs) 5,gm u (b) 5,ag b37 [u] 93,dk d (D),ag b17 [(.pointer (some ⟨d,0,none⟩)),(.int .i64 (((rs.length:Nat):Int))),(.int .i64 (used))] 210]) (λ_ s=>az [0,0,1] rfl s) (cq (λ_ s=>tw s) (PS ?_));refine nx J27 (sr λ_ J28=>P2 ?_);refine FA 1 qb aP ?_;refine LA 3 Y3 ?_;refine tp (N4 (v':=(.int .i64 ((((rs++[b]).length:Nat):Int)))) (cg rfl rfl rfl (bH (by omega) (by omega))) (congrArg (Value.int .i64) (by simp))) ?_;refine PS ?_;refine FA 1 qb aP ?_;refine S0 3 aP ?_;refine nx J28 (ad (P2 ?_));refine FA 2 qb aP ?_;refine LA 3 Y3 ?_;refine PS ?_;refine AD ?_;refine PS ?_;refine FA 2 qb aP ?_;refine S0 3 aP ?_;refine ap (af ?_)
 exact aI ((f',rs++[b],used+all,v38):(Nat)×(List (List UInt8))×(Int)×(Value)) ⟨hsn,ov38⟩ (Nat.lt_succ_self _)
  SB
  (λ_ s=>ak [3,2,0] rfl s)
end Go.Proofs.YtjblgopghhgflaaGreat
end

section
namespace Wal
open Go Leg Codec Api Dsk
theorem AH(s ws:fx)(j:Int): ∀k,it (Be s ws k) j=iQ s ws j k
 |0=>rfl
 |k+1=>by
  rw[Be,iQ,GG,AH s ws j k]
  by_cases h:j=(kC ws k).1
  · rw[if_pos h,if_pos h.symm]
  · rw[if_neg h,if_neg (λq=>h q.symm)]
theorem Gu{ws x:fx}{k:Nat}(h:k<ws.length):kC (ws++x) k=kC ws k:=by simp[kC,List.getD_eq_getElem?_getD,List.getElem?_append_left h]
theorem vz{s ws x:fx}{j:Int}: ∀k,k≤ws.length→iQ s (ws++x) j k=iQ s ws j k
 |0,_=>rfl
 |k+1,h=>by rw[iQ,iQ,Gu (by omega),vz k (by omega)]
theorem Fl(s ws:fx)(p:Int×jK)(j:Int):iQ s (ws++[p]) j (ws++[p]).length=if j=p.1 then p.2 else iQ s ws j ws.length:=by
 rw[aj,ax,aC,bk,iQ,vz _ (aK _)];have:kC (ws++[p]) ws.length=p:=by simp[kC,List.getD_eq_getElem?_getD]
 rw[this]
 by_cases h:j=p.1
 · rw[if_pos h,if_pos h.symm]
 · rw[if_neg h,if_neg (λq=>h q.symm)]
def zc(D:DS)(at':Int)(bs:List UInt8):DS:= {D with ws:=D.ws++[(at',eG bs)],lf:=if D.ar=true then D.lf-1 else D.lf,dn:=false}
theorem qq{D:DS}{at':Int}{bs:List UInt8}(h1:0≤at'∧at'<2048)(h2:bs.length≤64)(h3:D.dn=false)(h4:D.ar=false∨0<D.lf):D.write at' bs=(0,zc D at' bs):=by
 rw[DS.write,if_neg (by omega),if_neg]
 · rfl
 · rintro (h| ⟨h,h5⟩)
   · rw[h3]at h;cases h
   · rcases h4 with h4|h4
     · rw[h4]at h;cases h
     · omega
theorem Cb{D:DS}{at':Int}{bs:List UInt8}(h1:0≤at'∧at'<2048)(h2:bs.length≤64)(h4:D.ar=true∧D.lf=0):D.write at' bs=(4,{D with dn:=true}):=by
 rw[DS.write,if_neg (by omega),if_pos (.inr h4)]
theorem Fs(D:DS)(at':Int)(bs:List UInt8)(j:Int):(zc D at' bs).read j=if j=at' then eG bs else D.read j:=Fl _ _ _ _
theorem D6{D:DS}(h:D.Ok){at':Int}{bs:List UInt8}(h2:bs.length≤64)(h4:D.ar=false∨0<D.lf):(zc D at' bs).Ok:=by
 refine⟨h.s,h.ws.add _ (du h2),?_⟩;have:=h.lf;show 0≤(if D.ar=true then D.lf-1 else D.lf)∧(if D.ar=true then D.lf-1 else D.lf)≤9223372036854775807;split
 · rename_i h5
   rcases h4 with h4|h4
   · rw[h4]at h5;cases h5
   · omega
 · exact this
theorem D7{D:DS}(h:Wal.DS.In D){at':Int}{bs:List UInt8}(h1:0≤at'∧at'<2048):Wal.DS.In (zc D at' bs):=⟨h.1,λp hp=>by
 rcases ez.1 hp with hp|hp
 · exact h.2 p hp
 · simp only[ii]at hp;subst hp;exact h1⟩
theorem In.put{s:fx}(h:In s){k:Int}{v:jK}(h1:0≤k∧k<2048):In (nG s k v):=by
 induction s with
 |nil=>intro p hp;simp only[nG,ii]at hp;subst hp;exact h1
 |cons p s ih=>
  obtain⟨a,b⟩:=p;intro q hq;simp only[nG]at hq;split at hq
  · rcases cn.1 hq with rfl|hq
    · exact h (a,b) (by simp)
    · exact h q (by simp[hq])
  · rcases cn.1 hq with rfl|hq
    · exact h (a,b) (by simp)
    · exact ih (λq hq=>h q (by simp[hq])) q hq
theorem In.lay{s ws:fx}(h:In s)(hw:In ws): ∀k,k≤ws.length→In (Be s ws k)
 |0,_=>h
 |k+1,hk=>by
  have:=hw (kC ws k) (by rw[uQ (by omega)];exact eY _);exact(In.lay h hw k (by omega)).put this
theorem In.crash{mask torn:Int}{c:Nat}{s ws:fx}(h:In s)(hw:In ws): ∀k,k≤ws.length→In (mN mask torn c s ws k)
 |0,_=>h
 |k+1,hk=>by
  have h1:=hw (kC ws k) (by rw[uQ (by omega)];exact eY _);have ih:=In.crash (mask:=mask) (torn:=torn) (c:=c) h hw k (by omega);simp only[mN,mn];split
  · exact ih.put h1
  · split
    · exact ih.put h1
    · exact ih
theorem In.nil:In []:=λ_ h=>absurd h (by simp)
abbrev Oi:= @In.nil
structure Calm(D:DS):Prop where
 ok:D.Ok
 inn:Wal.DS.In D
 ar:D.ar=false
 dn:D.dn=false
theorem Calm.crash{D:DS}(h:D.Ok)(hi:Wal.DS.In D)(mask torn n:Int):Calm (D.crash mask torn n):=⟨DS.crash_ok h _ _ _,⟨hi.1.crash hi.2 _ (aK _),Oi⟩,rfl,rfl⟩
theorem ET{D:DS}(h:D.dn=false)(j:Int):D.sync.2.read j=D.read j:=by
 unfold DS.sync;rw[if_neg (by simp[h])];exact AH _ _ _ _
theorem sP{D:DS}(h:D.dn=false):D.sync.1=0∧D.sync.2.ws=[]∧D.sync.2.dn=false∧D.sync.2.ar=D.ar∧D.sync.2.lf=D.lf:=by
 unfold DS.sync;rw[if_neg (by simp[h])];exact⟨rfl,rfl,h,rfl,rfl⟩
theorem DW{D:DS}(h:Wal.DS.In D):Wal.DS.In D.sync.2:=by
 unfold DS.sync;split
 · exact h
 · exact⟨h.1.lay h.2 _ (aK _),Oi⟩
theorem Calm.sync{D:DS}(h:Calm D):Calm D.sync.2:=by
 obtain⟨_,_,h3,h4,_⟩:=sP h.dn;exact⟨DS.sync_ok h.ok,DW h.inn,h4.trans h.ar,h3⟩
theorem Calm.put{D:DS}(h:Calm D){at':Int}{bs:List UInt8}(h1:0≤at'∧at'<2048)(h2:bs.length≤64):Calm (zc D at' bs):=⟨D6 h.ok h2 (.inl h.ar),D7 h.inn h1,h.ar,rfl⟩
theorem GY:eG []=zs:=rfl
theorem sE: ∀(n:Nat) (at':Int) (D:DS),Calm D→0≤at'→at'+n≤2048→∃D',jo n at' D=(0,D')∧Calm D'∧∀j,D'.read j=if at'≤j∧j<at'+n then zs else D.read j
 |0,at',D,h,_,_=>⟨D,rfl,h,λj=>by rw[if_neg (by omega)]⟩
 |n+1,at',D,h,h0,h1=>by
  by_cases hz:D.read at'=zs
  · obtain⟨D',e,c,r⟩:=sE n (at'+1) D h (by omega) (by omega)
    refine⟨D',by rw[jo,if_pos hz,e],c,λj=>?_⟩;rw[r j]
    by_cases q:j=at'
    · subst q;rw[if_neg (by omega),if_pos (by omega),hz]
    · by_cases q2:at'+1≤j∧j<at'+1+n
      · rw[if_pos q2,if_pos (by omega)]
      · rw[if_neg q2,if_neg (by omega)]
  · have hw:=qq (D:=D) (at':=at') (bs:=[]) (by omega) (by simp) h.dn (.inl h.ar)
    obtain⟨D',e,c,r⟩:=sE n (at'+1) (zc D at' []) (h.put (by omega) (by simp)) (by omega) (by omega);refine⟨D',by rw[jo,if_neg hz,hw,if_pos rfl,e],c,λj=>?_⟩;rw[r j,Fs,GY]
    by_cases q:j=at'
    · subst q;rw[if_neg (by omega),if_pos rfl,if_pos (by omega)]
    · rw[if_neg q]
      by_cases q2:at'+1≤j∧j<at'+1+n
      · rw[if_pos q2,if_pos (by omega)]
      · rw[if_neg q2,if_neg (by omega)]
theorem E7{D:DS}(h:Calm D):0≤(fN D.read iX 0 0).2∧(fN D.read iX 0 0).2≤2048∧((fN D.read iX 0 0).1.length:Int)≤(fN D.read iX 0 0).2:=by
 have key: ∀f rs used,Scan D f rs used→∃rs' used',fN D.read iX 0 0=(rs',used')∧0≤used'∧used'≤2048∧(rs'.length:Int)≤used':=by
  intro f
  induction f with
  |zero=>
   intro rs used hs;cases hst:fG D.read ((rs.length:Int)+1) used with
   |none=>exact⟨rs,used,hs.stop hst,hs.2.1,hs.2.2.1,hs.2.2.2.2⟩
   |some p=>obtain⟨b,all⟩:=p;obtain⟨f',e,_⟩:=Scan.next h.inn h.ok hs hst;omega
  |succ f ih=>
   intro rs used hs;cases hst:fG D.read ((rs.length:Int)+1) used with
   |none=>exact⟨rs,used,hs.stop hst,hs.2.1,hs.2.2.1,hs.2.2.2.2⟩
   |some p=>
    obtain⟨b,all⟩:=p;obtain⟨f',e,hs'⟩:=Scan.next h.inn h.ok hs hst;obtain rfl:f=f':=by omega
    exact ih _ _ hs'
 obtain⟨rs,used,e,h1,h2,h3⟩:=key _ _ _ (Scan.start D);rw[e];exact⟨h1,h2,h3⟩
theorem FF{D:DS}(h:Calm D): ∃D',bJ D=⟨0,(fN D.read iX 0 0).1,(fN D.read iX 0 0).2,D'⟩∧Calm D'∧D'.ws=[]∧∀j,D'.read j=if(fN D.read iX 0 0).2≤j∧j<2048 then zs else D.read j:=by
 obtain⟨h1,h2,_⟩:=E7 h;generalize hr:fN D.read iX 0 0=r at*;obtain⟨rs,used⟩:=r;simp only at h1 h2 ⊢;obtain⟨D',e,c,rd⟩:=sE (2048-used).toNat used D h h1 (by omega);obtain⟨s1,s2,_⟩:=sP c.dn;refine⟨D'.sync.2,D9 hr e s1,c.sync,s2,λj=>?_⟩;rw[ET c.dn,rd j]
 by_cases q:used≤j∧j<2048
 · rw[if_pos q,if_pos (by omega)]
 · rw[if_neg q,if_neg (by omega)]
def jF:Nat→List (List UInt8)→List jK
 |_,[]=>[]
 |n,b::ls=>cf ((n+1:Nat):Int) b++jF (n+1) ls
def pp(ls:List (List UInt8)):Nat:=(jF 0 ls).length
theorem zw: ∀(a:List (List UInt8)) (n:Nat) (b:List (List UInt8)),jF n (a++b)=jF n a++jF (n+a.length) b
 | [],n,b=>by simp[jF]
 |x::a,n,b=>by
  simp only[wT,jF,zw a (n+1) b,be,ax];rw[show n+1+a.length=n+(a.length+1)by omega]
theorem yn: ∀(ls:List (List UInt8)) (n m:Nat),(jF n ls).length=(jF m ls).length
 | [],_,_=>rfl
 |b::ls,n,m=>by simp only[jF,aj,eu,yn ls (n+1) (m+1)]
theorem AG: ∀ls:List (List UInt8),ls.length≤pp ls
 | []=>aK _
 |b::ls=>by
  have h1:=AG ls;have h2:=pB b.length;have h3:=yn ls 1 0;simp only[pp,jF,aj,eu,ax,h3]at*;omega
theorem y2{number:Int}{b:List UInt8}{k:Nat}(h:k< (cf number b).length):(cf number b)[k]=pv number k (bq b.length) (gg b k):=by simp[cf]
theorem y1(number:Int)(b:List UInt8): ∀s∈cf number b,s.length=64:=λs hs=>by
 obtain⟨i,_,rfl⟩:=eX.1 hs;exact E6 (sX b i)
theorem vH{number:Int}{b:List UInt8}{k:Nat}(h:k< (cf number b).length)(h0:0≤number)(h1:number<4294967296)(hb:b.length≤3000):fe (cf number b)[k] number k=some (gg b k,((bq b.length:Nat):Int)):=by
 rw[y2 h];rw[eu]at h;exact A2 (sX b k) h0 h1 h (by have:=vG hb;omega)
theorem ye{rd:Int→jK}{number at':Int}{b:List UInt8}(h0:0≤number)(h1:number<4294967296)(hb:b.length≤3000): ∀k,k≤bq b.length→(∀j (h:j< (cf number b).length),j<k→rd (at'+j)=(cf number b)[j])→
 kw rd number at' ((bq b.length:Nat):Int) k=some ((List.range k).map (gg b)).flatten
 |0,_,_=>rfl
 |k+1,hk,h=>by
  have ih:=ye h0 h1 hb k (by omega) (λj hj hj2=>h j hj (by omega));have hl:k< (cf number b).length:=by rw[eu];omega
  rw[vS ih (by rw[h k hl (by omega)];exact vH hl h0 h1 hb)];simp[cO]
theorem AE{rd:Int→jK}{number at':Int}{b:List UInt8}(h0:0≤number)(h1:number<4294967296)(hb:b.length≤3000)(h: ∀j (h:j< (cf number b).length),rd (at'+j)=(cf number b)[j]):fG rd number at'=some (b,((bq b.length:Nat):Int)):=by
 have hl:0< (cf number b).length:=by rw[eu];exact pB _
 have hp:fe (rd at') number 0=some (gg b 0,((bq b.length:Nat):Int)):=by
  have e:=h 0 hl;rw[show at'+((0:Nat):Int)=at' by omega]at e;rw[e];exact vH hl h0 h1 hb
 refine rD hp ?_;rw[Ia,ye h0 h1 hb _ (aK _) (λj hj _=>h j hj),Fy b _ (xc _)]
def Shows(rd:Int→jK)(at':Int)(l:List jK):Prop:=∀j (h:j<l.length),rd (at'+j)=l[j]
theorem Shows.left{rd:Int→jK}{at':Int}{a b:List jK}(h:Shows rd at' (a++b)):Shows rd at' a:=λj hj=>by
 rw[h j (by rw[aj];omega),List.getElem_append_left hj]
theorem Shows.right{rd:Int→jK}{at':Int}{a b:List jK}(h:Shows rd at' (a++b)):Shows rd (at'+a.length) b:=λj hj=>by
 have:=h (a.length+j) (by rw[aj];omega);rw[show at'+((a.length+j:Nat):Int)=at'+a.length+j by omega]at this;rw[this,List.getElem_append_right (by omega)];congr 1;omega
theorem AQ{rd:Int→jK}: ∀(ls:List (List UInt8)) (n:Nat) (at':Int) (f:Nat),(∀b∈ls,b.length≤3000)→n+ls.length<4294967296→Shows rd at' (jF n ls)→
 fN rd (ls.length+f) n at'=(ls++(fN rd f ((n+ls.length:Nat):Int) (at'+(jF n ls).length)).1,(fN rd f ((n+ls.length:Nat):Int) (at'+(jF n ls).length)).2)
 | [],n,at',f,_,_,_=>by simp[jF]
 |b::ls,n,at',f,hl,hn,h=>by
  simp only[jF]at h ⊢;simp only[ax]at hn ⊢;have hs:=AE (rd:=rd) (number:=((n+1:Nat):Int)) (at':=at') (by omega) (by omega) (hl b (by simp)) h.left;have ih:=AQ (rd:=rd) ls (n+1) (at'+(cf ((n+1:Nat):Int) b).length) f (λx hx=>hl x (by simp[hx])) (by omega) h.right;rw[eu]at ih;rw[show ls.length+1+f=(ls.length+f)+1 by omega,DZ (b:=b) (all:=((bq b.length:Nat):Int)) (by rw[←hs];congr 1)];rw[show((n:Nat):Int)+1=((n+1:Nat):Int)by omega,ih];rw[aj,eu,show n+1+ls.length=n+(ls.length+1)by omega,show at'+((bq b.length+(jF (n+1) ls).length:Nat):Int)=at'+((bq b.length:Nat):Int)+(((jF (n+1) ls).length:Nat):Int)by omega];simp
structure LogD(D:DS)(ls:List (List UInt8)):Prop where
 ok:D.Ok
 inn:Wal.DS.In D
 ws:D.ws=[]
 short: ∀b∈ls,b.length≤3000
 room:pp ls≤2048
 shows:Shows D.read 0 (jF 0 ls)
 zero: ∀j,((pp ls:Nat):Int)≤j→D.read j=zs
theorem LogD.len{D:DS}{ls:List (List UInt8)}(h:LogD D ls):ls.length≤2048:=by have:=AG ls;have:=h.room;omega
theorem EV{rd:Int→jK}{number at':Int}(h:(rd at').getD 63 0≠1):fG rd number at'=none:=qf (qH h)
theorem JX:zs.getD 63 0≠1:=by decide
theorem LogD.scan{D:DS}{ls:List (List UInt8)}(h:LogD D ls):fN D.read iX 0 0=(ls,((pp ls:Nat):Int)):=by
 have hl:=h.len;obtain⟨f,hf⟩: ∃f,iX=ls.length+f:=⟨iX-ls.length,by rw[r9];omega⟩;have:=AQ (rd:=D.read) ls 0 0 f h.short (by omega) h.shows;rw[←hf]at this;rw[show((0:Nat):Int)=0 from rfl]at this;have hz:=h.zero _ (Int.le_refl _);simp only[pp]at hz;rw[this,Int.zero_add,xT (EV (by rw[hz];exact JX))];simp[pp]
theorem LogD.new:LogD DS.new []:=⟨DS.new_ok,⟨Oi,Oi⟩,rfl,λ_ h=>absurd h (by simp),by decide,λj h=>absurd h (by simp[jF]),λj _=>rfl⟩
theorem LogD.open{D:DS}{ls:List (List UInt8)}(h:LogD D ls)(ha:D.ar=false)(hd:D.dn=false): ∃D',bJ D=⟨0,ls,((pp ls:Nat):Int),D'⟩∧LogD D' ls∧D'.ar=false∧D'.dn=false:=by
 obtain⟨D',e,c,hw,hr⟩:=FF (D:=D) ⟨h.ok,h.inn,ha,hd⟩;rw[h.scan]at e hr
 have hrd: ∀j,D'.read j=D.read j:=λj=>by
  rw[hr j];split
  · rename_i q;rw[h.zero j q.1]
  · rfl
 exact⟨D',e,⟨c.ok,c.inn,hw,h.short,h.room,λj hj=>by rw[hrd];exact h.shows j hj,λj hj=>by rw[hrd];exact h.zero j hj⟩,c.ar,c.dn⟩
def KY:Int→List jK→fx
 |_,[]=>[]
 |at',s::ss=>(at',s)::KY (at'+1) ss
structure Half(D:DS)(ls:List (List UInt8))(bs:List UInt8):Prop where
 ok:D.Ok
 inn:Wal.DS.In D
 short: ∀b∈ls,b.length≤3000
 short':bs.length≤3000
 room:pp ls+bq bs.length≤2048
 shows:Shows (it D.s) 0 (jF 0 ls)
 zero: ∀j,((pp ls:Nat):Int)≤j→it D.s j=zs
 ws: ∃m,m≤bq bs.length∧D.ws=KY ((pp ls:Nat):Int) ((cf ((ls.length+1:Nat):Int) bs).take m)
end Wal
end

section
namespace Go.Proofs.YtjblgopghhgflaaGreat
open Go Leg Codec Api
theorem Cc(wb b off cap:Nat)(v:Value)(bs:List UInt8)(l:List Int)(cs:List Value)(T:TypeId)(z:Nat×Nat)(hlen:bs.length+10*l.length≤140737488355328)(hb: ∀j,j<l.length→cs[off+j]?=some (.int .i64 (l.getD j 0))):
 DT 84 #[(.pointer (some ⟨wb,0,none⟩)),(.slice (some ⟨b,off,none⟩) (l.length) (cap))] (λF=>F b=some (.cells cs.toArray T z)) [ag wb [v] 144,dK v (bs) 5] (pT 144 5 wb (bs++bf l)):=by
 refine BD 45 Tryz.func84 rfl rfl rfl λw0 F hF=>sr λ_ J1=>PS ?_
 refine nx J1 (ab λ_ J2=>sr λ_ J3=>PS ?_);refine tp (sA rfl jZ rfl) ?_;refine PS ?_;refine nx J3 (aq ?_)
 refine bn (α:=(Nat)×(Value)×(List UInt8)) (λ⟨k,u,laid⟩=>k≤l.length∧laid++bf (l.drop k)=bs++bf l) (λ⟨k,u,laid⟩=>[(0,(.pointer (some ⟨wb,0,none⟩))),(4,(.pointer none)),(8,(.slice (some ⟨b,off,none⟩) (l.length) (cap))),(9,(.int .i64 (((l.length:Nat):Int)))),(10,(.int .i64 ((k:Nat))))]) (λ⟨k,u,laid⟩=>[ag wb [u] 144,dK u (laid) 5]) (λ⟨k,u,laid⟩=>l.length-k) (0,v,bs)
  ⟨by omega,rfl⟩ SB
  (λ_ s=>s) (λ⟨k,u,laid⟩ hinv=>?_)
 obtain⟨hk,hL⟩:=hinv;refine sr λ_ J4=>PS ?_
 refine an ?_ ?_<;>intro h11;refine nx J4 (ab λ_ J5=>CY (qx J5 (ab λ_ J6=>aq (sr λ_ J7=>tp (jm (r:=off+k) rfl jZ aP rfl rfl (by first|omega|decide) (by first|omega|decide) (by omega)) ?_))));refine tp (e7 (v:=(.int .i64 ((l.getD k 0)))) rfl Y3 rfl rfl (Rd.ro hF) (hb k (by omega))) ?_;refine PS ?_;refine nx J7 (sr λ_ J8=>PS ?_);refine tp (ej (r:=((((l.getD k 0%18446744073709551616).toNat:Nat)):Int)) rfl Y3 Tryz.underlying202 rfl (yE _)) ?_;refine PS ?_;refine nx J8 (ab λ_ J9=>aq ?_)
 refine bn (α:=(Nat)×(Value)×(List UInt8)) (λ⟨m,u2,laid2⟩=>laid2++(wq m++bf (l.drop (k+1)))=bs++bf l) (λ⟨m,u2,laid2⟩=>[(0,(.pointer (some ⟨wb,0,none⟩))),(4,(.pointer none)),(7,(.int .u64 ((m:Nat)))),(8,(.slice (some ⟨b,off,none⟩) (l.length) (cap))),(9,(.int .i64 (((l.length:Nat):Int)))),(10,(.int .i64 ((k:Nat))))]) (λ⟨m,u2,laid2⟩=>[ag wb [u2] 144,dK u2 (laid2) 5]) (λ⟨m,u2,laid2⟩=>m) ((l.getD k 0%18446744073709551616).toNat,u,laid)
  (by rw[←hL,F6 (l:=l) (k:=k) (by omega)];rfl) SB
  (λ_ s=>s) (λ⟨m,u2,laid2⟩ hinv=>?_)
 have hM:=hinv;refine ab λ_ J10=>sr λ_ J11=>P2 ?_
 refine an ?_ ?_<;>intro h17;refine nx J11 (CY (qx J10 (aq (sr λ_ J12=>P3 ?_))));refine FA 0 H0 ni ?_;refine LA 0 gq ?_;refine PS ?_;refine tp (ej (r:=(IntKind.u8.wrap ((m:Nat):Int))) rfl Tryz.underlying202 Y5 rfl rfl) ?_;refine tp (H4 (r:=(((UInt8.ofNat (m%128+128)).toNat:Nat):Int)) rfl rfl rfl (Lq m)) ?_;refine aU (cells:=#[(.int .u8 ((((UInt8.ofNat (m%128+128)).toNat:Nat):Int)))]) (aa rfl) rfl rfl rfl gq yl rfl rfl rfl (by as_aux_lemma=>kernel_rfl) (λb26=>cE (k:=2) (news:=dY ([(UInt8.ofNat (m%128+128))])) (nn':=(laid2++[(UInt8.ofNat (m%128+128))]:List UInt8).length) (xs':=dY (laid2++[(UInt8.ofNat (m%128+128))])) (aa rfl) rfl rfl rfl gq yl rfl rfl rfl rfl rfl rfl (λ_ _=>jl rfl (RO 0) rfl) (eN [(UInt8.ofNat (m%128+128))]) (by have:=congrArg List.length hM;have:=aT l;have:=pK m;simp only[aj,maxLen]at*;omega) (by have:=congrArg List.length hM;have:=aT l;have:=pK m;simp only[aj]at*;omega) (by simp) (iL _ _).symm (λv27 ov27=>PS ?_));refine FA 0 H0 ni ?_;refine bv (i:=1) (aa rfl) rfl rfl rfl rfl ov27 ni rfl rfl (lb rfl) rfl rfl (nx J12 (ad (PS ?_)));refine tp (lD (r:=((m / 128:Nat):Int)) rfl rfl rfl (by omega) (Ni m)) ?_;refine PS ?_;refine ap (af ?_)
 exact aI ((m / 128,v27,laid2++[(UInt8.ofNat (m%128+128))]):(Nat)×(Value)×(List UInt8)) (by rw[←hM,uC (by omega)];simp) (by show m / 128<m;omega)
  SB
  (λ_ s=>ak [1,1] rfl s)
 refine nx J11 (CN (aS (ay (ay (bj (ac J9 (ad (P3 ?_))))))));refine FA 0 H0 ni ?_;refine LA 0 gq ?_;refine PS ?_;refine tp (ej (r:=(((UInt8.ofNat m).toNat:Nat):Int)) rfl Tryz.underlying202 Y5 rfl (I8 (by omega))) ?_;refine aU (cells:=#[(.int .u8 ((((UInt8.ofNat m).toNat:Nat):Int)))]) (aa rfl) rfl rfl rfl gq yl rfl rfl rfl (by as_aux_lemma=>kernel_rfl) (λb39=>cE (k:=2) (news:=dY ([(UInt8.ofNat m)])) (nn':=(laid2++[(UInt8.ofNat m)]:List UInt8).length) (xs':=dY (laid2++[(UInt8.ofNat m)])) (aa rfl) rfl rfl rfl gq yl rfl rfl rfl rfl rfl rfl (λ_ _=>jl rfl (RO 0) rfl) (eN [(UInt8.ofNat m)]) (by have:=congrArg List.length hM;have:=aT l;have:=pK m;simp only[aj,maxLen]at*;omega) (by have:=congrArg List.length hM;have:=aT l;have:=pK m;simp only[aj]at*;omega) (by simp) (iL _ _).symm (λv40 ov40=>PS ?_));refine FA 0 H0 ni ?_;refine bv (i:=1) (aa rfl) rfl rfl rfl rfl ov40 ni rfl rfl (lb rfl) rfl rfl (ap (af (ac J6 (ad (AD ?_)))));refine PS ?_;refine ap ?_
 exact aI ((k+1,v40,laid2++[(UInt8.ofNat m)]):(Nat)×(Value)×(List UInt8)) ⟨by omega,by rw[←hM,se (by omega)];simp⟩ (by show _-_<_-_;omega)
  SB
  (λ_ s=>ak [1,1] rfl s)
 refine nx J4 (ab λ_ J13=>CN (aS (ay (ay (bj (ac J2 (sr λ_ J14=>P2 ?_)))))));refine nx J14 (ai (WK [0,0] (au rfl rfl ?_)));obtain rfl:laid=bs++bf l:=by rw[←hL,eZ (by omega)];simp[bf]
 exact⟨u,rfl,rfl⟩
theorem Gq(wb:Nat)(v:Value)(bs:List UInt8):
 DT 84 #[(.pointer (some ⟨wb,0,none⟩)),(.slice none 0 0)] T0 [ag wb [v] 144,dK v (bs) 5] (pT 144 5 wb (bs++bf [])):=by
 refine BD 45 Tryz.func84 rfl rfl rfl λw0 F hF=>sr λ_ J1=>PS ?_
 refine nx J1 (ab λ_ J2=>sr λ_ J3=>PS ?_);refine tp (sA rfl jZ rfl) ?_;refine PS ?_;refine nx J3 (aq ?_)
 refine bn (α:=Unit) (λ_u=>True) (λ_u=>[(0,(.pointer (some ⟨wb,0,none⟩))),(4,(.pointer none)),(8,(.slice none 0 0)),(9,(.int .i64 0)),(10,(.int .i64 0))]) (λ_u=>[ag wb [v] 144,dK v (bs) 5]) (λ_u=>0) ()
  trivial SB
  (λ_ s=>s) (λ_u hinv=>?_)
 obtain _:=hinv;refine sr λ_ J4=>PS ?_
 refine nx J4 (ab λ_ J5=>CN (aS (ay (ay (bj (ac J2 (sr λ_ J6=>P2 ?_)))))));refine nx J6 (ai (au rfl rfl ?_));exact⟨v,rfl,by rw[HE,bb]⟩
theorem dE(wb:Nat)(v:Value)(bs:List UInt8)(x:Value)(l:List Int)(hlen:bs.length+10*l.length≤140737488355328):DT 84 #[(.pointer (some ⟨wb,0,none⟩)),x] (N1 x l) [ag wb [v] 144,dK v bs 5] (pT 144 5 wb (bs++bf l)):=by
 refine Leg.Does.of λF hF=>?_
 rcases id hF with⟨rfl,rfl⟩| ⟨b,off,cap,cs,T,z,rfl,h3,h4⟩
 · exact⟨_,trivial,Gq wb v bs⟩
 · exact⟨_,h3,Cc wb b off cap v bs l cs T z hlen h4⟩
theorem ec(wb:Nat)(v:Value)(bs:List UInt8)(hlen:bs.length≤140737488355328):
 DT 89 #[(.pointer (some ⟨wb,0,none⟩))] T0 [ag wb [v] 144,dK v (bs) 5] (c9 (λx H=>∃u,x=u∧H=[ag wb [v] 144,dK v bs 5,dK u bs 5])):=by
 refine Leg.Does.body (vs:=[(.pointer (some ⟨wb,0,none⟩))]) (n:=9) Tryz.func89 rfl rfl rfl (λw0 F hF=>?_);refine sr λ_ J1=>?_
 refine oW ?_;refine nx J1 ?_;refine sr λ_ J2=>?_
 refine BX (aa rfl) rfl rfl rfl gq kV (λv3=>?_);change TL _ _ _ _ _ _ _ _ _ [dK v3 ([]) 5,ag wb [v] 144,dK v (bs) 5];refine mv ?_;refine tp (fT rfl rfl) ?_;refine tp (aV (r:=0) rfl H0 rfl ni rfl rfl) ?_;refine tp (e7 (v:=v) rfl gq rfl rfl (dG 1 rfl rfl) rfl) ?_;refine cE (k:=0) (news:=dY (bs)) (nn':=(bs:List UInt8).length) (xs':=dY (bs)) (aa rfl) rfl rfl rfl gq yl rfl rfl rfl rfl rfl rfl (λ_ s=>Oc 2 rfl rfl s) (eN _) (by simp only[maxLen,ax,aC];omega) (by simp only[ax,aC];omega) (by simp) (cb _) (λv8 ov8=>?_);change TL _ _ _ _ _ _ _ _ _ [dK v8 (bs) 5,ag wb [v] 144,dK v (bs) 5];refine oW ?_;refine nx J2 ?_;refine ai ?_;refine aF (dh _) (λ_ s=>ak [1,1,0] rfl s) ?_;refine au rfl rfl ?_;exact⟨v8,rfl,rfl⟩
theorem zY(wb:Nat)(v:Value)(bs:List UInt8)(a0 a1 g0 g1 g2 g3 g4:Int)(hlen:bs.length+70≤140737488355328):
 DT 88 #[(.pointer (some ⟨wb,0,none⟩)),(.agg #[(.int .i64 (a0)),(.int .i64 (a1)),(.int .i64 (g0)),(.int .i64 (g1)),(.int .i64 (g2)),(.int .i64 (g3)),(.int .i64 (g4))])] T0 [ag wb [v] 144,dK v (bs) 5] (pT 144 5 wb (bs++bf [a0,a1,g0,g1,g2,g3,g4])):=by
 refine BD 15 Tryz.func88 rfl rfl rfl λw0 F hF=>sr λ_ J1=>XB λb3=>?_
 refine PS ?_;refine nx J1 (ab λ_ J2=>D1 0 bh ?_);refine PD 0 ?_;refine FD 1 0 eE aP ?_;refine LX 2 Y3 (.int .i64 (a0)) ?_ (hc:=by exact rfl);refine FD 3 1 eE aP ?_;refine LX 4 Y3 (.int .i64 (a1)) ?_ (hc:=by exact rfl);refine FD 7 2 eE eQ ?_;refine ta 8 rfl (nd rfl jz aP rfl) ?_;refine AL 5 ?_;refine aU (cells:=#[(.int .i64 (a0)),(.int .i64 (a1))]) (aa rfl) rfl rfl rfl jZ qO rfl rfl rfl (by as_aux_lemma=>kernel_rfl) (λb10=>EN (AL 6 ?_));refine CQ nj (dE wb v (bs) (.slice (some ⟨b10,0,none⟩) (2) (2)) [a0,a1] (by simp only[aj,ax,aC,aA];first|omega| (have:=aT [a0,a1];simp only[ax,aC]at this;omega))) (SM [2,2]) (dx 0 rfl rfl rfl rfl) λvR HR hR=>?_
 obtain⟨u1,rfl,rfl⟩:=hR;refine EN (AL 9 ?_);refine CQ nj (dE wb u1 (bs++bf [a0,a1]) (.slice (some ⟨b3,2,none⟩) (5) (5)) [g0,g1,g2,g3,g4] (by simp only[aj,ax,aC,aA];first|omega| (have:=aT [a0,a1];simp only[ax,aC]at this;omega))) ID (dx 1 rfl rfl rfl rfl) λvR HR hR=>?_
 obtain⟨u2,rfl,rfl⟩:=hR;refine EN (PD 10 ?_);refine DN (ac J2 (ai (WK [0,0] (au rfl rfl ?_))));exact⟨_,rfl,by rw[be,←pJ];rfl⟩
theorem wX(wb:Nat)(v:Value)(bs:List UInt8)(a0 a1 a2:Int)(hlen:bs.length+30≤140737488355328):
 DT 87 #[(.pointer (some ⟨wb,0,none⟩)),(.agg #[(.int .i64 (a0)),(.int .i64 (a1)),(.int .i64 (a2))])] T0 [ag wb [v] 144,dK v (bs) 5] (pT 144 5 wb (bs++bf [a0,a1,a2])):=by
 refine BD 14 Tryz.func87 rfl rfl rfl λw0 F hF=>sr λ_ J1=>XB λb3=>?_
 refine PS ?_;refine nx J1 (sr λ_ J2=>PS ?_);refine FA 0 mR aP ?_;refine LA 0 Y3 ?_;refine FA 1 mR aP ?_;refine LA 0 Y3 ?_;refine FA 2 mR aP ?_;refine LA 0 Y3 ?_;refine aU (cells:=#[(.int .i64 (a0)),(.int .i64 (a1)),(.int .i64 (a2))]) (aa rfl) rfl rfl rfl jZ qO rfl rfl rfl (by as_aux_lemma=>kernel_rfl) (λb12=>CQ nj (dE wb v (bs) (.slice (some ⟨b12,0,none⟩) (3) (3)) [a0,a1,a2] (by simp only[aj,ax,aC,aA];first|omega| (have:=aT [a0,a1];simp only[ax,aC]at this;omega))) (SM [2,2]) (dx 0 rfl rfl rfl rfl) λvR HR hR=>?_);obtain⟨u1,rfl,rfl⟩:=hR;refine PS ?_;exact nx J2 (ai (WK [0,0] (au rfl rfl ⟨_,rfl,rfl⟩)))
theorem wY(wb:Nat)(v:Value)(bs:List UInt8)(a0 a1:Int)(hlen:bs.length+20≤140737488355328):
 DT 86 #[(.pointer (some ⟨wb,0,none⟩)),(.agg #[(.int .i64 (a0)),(.int .i64 (a1))])] T0 [ag wb [v] 144,dK v (bs) 5] (pT 144 5 wb (bs++bf [a0,a1])):=by
 refine BD 12 Tryz.func86 rfl rfl rfl λw0 F hF=>sr λ_ J1=>XB λb3=>?_
 refine PS ?_;refine nx J1 (sr λ_ J2=>PS ?_);refine FA 0 jT aP ?_;refine LA 0 Y3 ?_;refine FA 1 jT aP ?_;refine LA 0 Y3 ?_;refine aU (cells:=#[(.int .i64 (a0)),(.int .i64 (a1))]) (aa rfl) rfl rfl rfl jZ qO rfl rfl rfl (by as_aux_lemma=>kernel_rfl) (λb10=>CQ nj (dE wb v (bs) (.slice (some ⟨b10,0,none⟩) (2) (2)) [a0,a1] (by simp only[aj,ax,aC,aA];first|omega| (have:=aT [a0,a1];simp only[ax,aC]at this;omega))) (SM [2,2]) (dx 0 rfl rfl rfl rfl) λvR HR hR=>?_);obtain⟨u1,rfl,rfl⟩:=hR;refine PS ?_;exact nx J2 (ai (WK [0,0] (au rfl rfl ⟨_,rfl,rfl⟩)))
theorem Af(wb:Nat)(v:Value)(bs:List UInt8)(a0 a1 g0 g1 g2 g3 g4:Int)(hlen:bs.length+70≤140737488355328):
 DT 127 #[(.pointer (some ⟨wb,0,none⟩)),(.agg #[(.int .i64 (a0)),(.int .i64 (a1)),(.int .i64 (g0)),(.int .i64 (g1)),(.int .i64 (g2)),(.int .i64 (g3)),(.int .i64 (g4))])] T0 [ag wb [v] 144,dK v (bs) 5] (c9 (λx H=>∃v',x= .tuple #[]∧H=[ag wb [v'] 144,dK v' (bs++bf [a0,a1,g0,g1,g2,g3,g4]) 5])):=by
 refine BD 14 Tryz.func127 rfl rfl rfl λw0 F hF=>sr λ_ J1=>XB λb3=>?_
 refine nx J1 (D1 0 bh ?_);refine PD 0 ?_;refine FD 1 0 mp aP ?_;refine LX 2 Y3 (.int .i64 (a0)) ?_ (hc:=by exact rfl);refine FD 3 1 mp aP ?_;refine LX 4 Y3 (.int .i64 (a1)) ?_ (hc:=by exact rfl);refine FD 7 2 mp eQ ?_;refine ta 8 rfl (nd rfl jz aP rfl) ?_;refine AL 5 ?_;refine aU (cells:=#[(.int .i64 (a0)),(.int .i64 (a1))]) (aa rfl) rfl rfl rfl jZ qO rfl rfl rfl (by as_aux_lemma=>kernel_rfl) (λb9=>EN (AL 6 ?_));refine CQ nj (dE wb v (bs) (.slice (some ⟨b9,0,none⟩) (2) (2)) [a0,a1] (by simp only[aj,ax,aC,aA];first|omega| (have:=aT [a0,a1];simp only[ax,aC]at this;omega))) (SM [2,2]) (dx 0 rfl rfl rfl rfl) λvR HR hR=>?_
 obtain⟨u1,rfl,rfl⟩:=hR;refine EN (AL 9 ?_);refine CQ nj (dE wb u1 (bs++bf [a0,a1]) (.slice (some ⟨b3,2,none⟩) (5) (5)) [g0,g1,g2,g3,g4] (by simp only[aj,ax,aC,aA];first|omega| (have:=aT [a0,a1];simp only[ax,aC]at this;omega))) ID (dx 1 rfl rfl rfl rfl) λvR HR hR=>?_
 obtain⟨u2,rfl,rfl⟩:=hR;refine EN (DN (WK [0,0] (bz rfl ?_)));exact⟨_,rfl,by rw[be,←pJ];rfl⟩
theorem uM(wb:Nat)(v:Value)(bs:List UInt8)(c:CellT)(hlen:bs.length+70≤140737488355328):DT 127 #[(.pointer (some ⟨wb,0,none⟩)),c.val] T0 [ag wb [v] 144,dK v bs 5] (c9 (λx H=>∃v',x= .tuple #[]∧H=[ag wb [v'] 144,dK v' (bs++bf c.flat) 5])):=by
 obtain⟨i,o,g⟩:=c;exact K0 (p:=λg=>Leg.Does Tryz.prog 127 #[(.pointer (some ⟨wb,0,none⟩)),CellT.val ⟨i,o,g⟩] (λ_=>True) [ag wb [v] 144,dK v bs 5] (c9 (λx H=>∃v',x= .tuple #[]∧H=[ag wb [v'] 144,dK v' (bs++bf (CellT.flat ⟨i,o,g⟩)) 5]))) (λa b c d e=>Af wb v bs i o a b c d e hlen) g
theorem qp(wb:Nat)(v:Value)(bs:List UInt8)(x:ViewT)(hlen:bs.length+70≤140737488355328):DT 88 #[(.pointer (some ⟨wb,0,none⟩)),x.val] T0 [ag wb [v] 144,dK v bs 5] (pT 144 5 wb (bs++bf x.flat)):=by
 obtain⟨i,o,g⟩:=x;exact K0 (p:=λg=>Leg.Does Tryz.prog 88 #[(.pointer (some ⟨wb,0,none⟩)),ViewT.val ⟨i,o,g⟩] (λ_=>True) [ag wb [v] 144,dK v bs 5] (pT 144 5 wb (bs++bf (ViewT.flat ⟨i,o,g⟩)))) (λa b c d e=>zY wb v bs i o a b c d e hlen) g
theorem n6(wb:Nat)(v:Value)(bs:List UInt8)(x:ChangeT)(hlen:bs.length+30≤140737488355328):DT 87 #[(.pointer (some ⟨wb,0,none⟩)),x.val] T0 [ag wb [v] 144,dK v bs 5] (pT 144 5 wb (bs++bf x.flat)):=wX wb v bs x.kind x.who x.heir (by omega)
theorem jc(wb:Nat)(v:Value)(bs:List UInt8)(x:BallotT)(hlen:bs.length+30≤140737488355328):DT 86 #[(.pointer (some ⟨wb,0,none⟩)),x.val] T0 [ag wb [v] 144,dK v bs 5] (pT 144 5 wb (bs++bf x.flat)):=wY wb v bs x.round x.who (by omega)
theorem sD(wb:Nat)(v:Value)(bs:List UInt8)(x:RowT)(hlen:bs.length+2000≤140737488355328):
 DT 85 #[(.pointer (some ⟨wb,0,none⟩)),(.agg (ints x.flat).toArray)] T0 [ag wb [v] 144,dK v (bs) 5] (pT 144 5 wb (bs++g9 x)):=by
 refine BD 50 Tryz.func85 rfl rfl rfl λw0 F hF=>sr λ_ J1=>XY (ints x.flat) λb3=>?_
 refine PS ?_;refine nx J1 (sr λ_ J2=>PS ?_);refine FA 0 dN aP ?_;refine LT 0 Y3 (.int .i64 (x.version)) ?_ (hc:=by exact RowT.get_version _);refine aU (cells:=#[(.int .i64 (x.version))]) (aa rfl) rfl rfl rfl jZ qO rfl rfl rfl (by as_aux_lemma=>kernel_rfl) (λb14=>CQ nj (dE wb v (bs) (.slice (some ⟨b14,0,none⟩) (1) (1)) [x.version] (by have:=congrArg List.length (Eq.refl bs);have:=g8 x;simp only[aj,ax,aC]at*;omega)) (SM [2,2]) (dx 0 rfl rfl rfl rfl) λvR HR hR=>?_);obtain⟨u1,rfl,rfl⟩:=hR;refine nx J2 (ab λ_ J3=>sr λ_ J4=>FA 1 dN ld ?_);refine tp (aM (vs:=ints (bL x.cells.toList)) rfl zW rfl ld rfl (RO 3) (by rw[ints_length,cN];simp) (RowT.get_cells _)) ?_;refine PS ?_;refine nx J4 (aq ?_)
 refine bn (α:=(Nat)×(Value)×(List UInt8)) (λ⟨k,u,laid⟩=>k≤4∧laid++(bf (bL (x.cells.toList.drop k))++fY x 5 0)=bs++g9 x) (λ⟨k,u,laid⟩=>[(0,(.pointer (some ⟨wb,0,none⟩))),(3,(.pointer (some ⟨b3,0,none⟩))),(4,(.pointer none)),(17,(.agg (ints (bL x.cells.toList)).toArray)),(18,(.int .i64 ((k:Nat))))]) (λ⟨k,u,laid⟩=>[ag b3 (ints x.flat) 60,ag wb [u] 144,dK u (laid) 5]) (λ⟨k,u,laid⟩=>4-k) (0,u1,bs++bf [x.version])
  ⟨by omega,by simp[g9,bf]⟩ SB
  (λ_ s=>ak [3,0,0] rfl s) (λ⟨k,u,laid⟩ hinv=>?_)
 obtain⟨hk,hL⟩:=hinv;have hE:=hL;rw[show bf (bL (x.cells.toList.drop k))=bf (bL (x.cells.toList.drop k))from rfl]at hE;refine sr λ_ J5=>PS ?_
 refine an ?_ ?_<;>intro h19;refine nx J5 (ab λ_ J6=>CY (qx J6 (ab λ_ J7=>aq (sr λ_ J8=>tp (N7 (cs:=ints (bL (x.cells.toList))) (r:=k*7) rfl zW mp rfl fp rfl rfl (by omega) (by omega) (by omega) (ym (by simp;omega))) ?_))));refine XA Ic λb6=>?_
 refine bF (vs:=ints ((x.cells.toList)[k]'(by simp;omega)).flat) (cs':=ints ((x.cells.toList)[k]'(by simp;omega)).flat) (i:=0) (aa rfl) rfl rfl rfl rfl rfl (by rw[bm];exact fp) (bu _) rfl rfl (by rw[bm];exact aK _) (fi (by rw[bm];rfl)) rfl (nx J8 (ad (PS ?_)));refine tp (aM (vs:=ints ((x.cells.toList)[k]'(by simp;omega)).flat) rfl mp rfl fp rfl (RO 0) (bm _) (by rw[a8,aB (by rw[bm];decide)])) ?_;refine CR JJ (uM wb u (laid) ((x.cells.toList)[k]'(by simp;omega)) (by have:=congrArg List.length hE;have:=g8 x;have:=aT ((x.cells.toList)[k]'(by simp;omega)).flat;rw[br]at this;simp only[aj]at*;omega)) (SM [2,2]) λvR HR hR=>?_
 obtain⟨u2,rfl,rfl⟩:=hR;refine ap (af (ac J7 (ad (AD ?_))));refine PS ?_;refine ap ?_
 exact aI ((k+1,u2,laid++bf ((x.cells.toList)[k]'(by simp;omega)).flat):(Nat)×(Value)×(List UInt8)) ⟨by omega,by rw[←hL,ox (l:=x.cells.toList) (k:=k) (by simp;omega)];simp⟩ (by show _-_<_-_;omega)
  SB
  (λ_ s=>ak [3,0,0] rfl s)
 refine nx J5 (ab λ_ J9=>CN (aS (ay (ay (bj (ac J3 (ab λ_ J10=>sr λ_ J11=>FA 29 dN eQ ?_)))))));refine tp (aM (vs:=ints x.heir.toList) rfl jz rfl eQ rfl (RO 0) (by rw[ints_length];simp) (RowT.get_heirs _)) ?_;refine PS ?_;refine nx J11 (aq ?_)
 refine bn (α:=(Nat)×(Value)×(List UInt8)) (λ⟨i,u,laid⟩=>i≤5∧laid++fY x (5-i) i=bs++g9 x) (λ⟨i,u,laid⟩=>[(0,(.pointer (some ⟨wb,0,none⟩))),(3,(.pointer (some ⟨b3,0,none⟩))),(4,(.pointer none)),(26,(.agg (ints x.heir.toList).toArray)),(27,(.int .i64 ((i:Nat))))]) (λ⟨i,u,laid⟩=>[ag b3 (ints x.flat) 60,ag wb [u] 144,dK u (laid) 5]) (λ⟨i,u,laid⟩=>5-i) (0,u,laid)
  ⟨by omega,by rw[←hL,eZ (by simp;omega)];simp[bL,bf]⟩ SB
  (λ_ s=>ak [0,0,0] rfl s) (λ⟨i,u,laid⟩ hinv=>?_)
 obtain⟨hi,hL⟩:=hinv;have hE:=hL;refine sr λ_ J12=>PS ?_
 refine an ?_ ?_<;>intro h28;refine nx J12 (ab λ_ J13=>CY (qx J13 (ab λ_ J14=>aq (sr λ_ J15=>PS ?_))));refine tp (kE (cs:=ints x.heir.toList) (v:= .int .i64 (x.heir[i]'(by omega))) (r:=i) rfl jz Y3 rfl aP rfl rfl (by omega) (by omega) (by omega) (by rw[ints_get _ _ (by simp;omega)];simp[List.getD_eq_getElem?_getD,show i<5 by omega])) ?_;refine P2 ?_;refine nx J15 (sr λ_ J16=>P2 ?_);refine aU (cells:=#[(.int .i64 (x.heir[i]'(by omega)))]) (aa rfl) rfl rfl rfl jZ qO rfl rfl rfl (by as_aux_lemma=>kernel_rfl) (λb33=>CQ nj (dE wb u (laid) (.slice (some ⟨b33,0,none⟩) (1) (1)) [x.heir[i]'(by omega)] (by have:=congrArg List.length hE;have:=g8 x;simp only[aj,ax,aC]at*;omega)) (SM [2,2]) (dx 0 rfl rfl rfl rfl) λvR HR hR=>?_);obtain⟨u2,rfl,rfl⟩:=hR;refine nx J16 (sr λ_ J17=>P2 ?_);refine an ?_ ?_<;>intro h36;refine nx J17 (CY (sr λ_ J18=>PS ?_));refine FA 34 dN Ao ?_;refine IX (34+i*28) JT ld ?_;refine tp (aM (vs:=ints (bL (x.left[i]'(by omega)).toList)) rfl zW rfl ld rfl (RO 3) (by rw[ints_length,cN];simp) (RowT.get_left _ i (by omega))) ?_;refine PS ?_;refine nx J18 (aq ?_)
 refine bn (α:=(Nat)×(Value)×(List UInt8)) (λ⟨k,u3,laid3⟩=>k≤4∧laid3++(bf (bL ((x.left[i]'(by omega)).toList.drop k))++fY x (5- (i+1)) (i+1))=bs++g9 x) (λ⟨k,u3,laid3⟩=>[(0,(.pointer (some ⟨wb,0,none⟩))),(3,(.pointer (some ⟨b3,0,none⟩))),(4,(.pointer none)),(26,(.agg (ints x.heir.toList).toArray)),(27,(.int .i64 ((i:Nat)))),(40,(.agg (ints (bL (x.left[i]'(by omega)).toList)).toArray)),(41,(.int .i64 ((k:Nat))))]) (λ⟨k,u3,laid3⟩=>[ag b3 (ints x.flat) 60,ag wb [u3] 144,dK u3 (laid3) 5]) (λ⟨k,u3,laid3⟩=>4-k) (0,u2,laid++bf [x.heir[i]'(by omega)])
  ⟨by omega,by rw[←hL,qk (i:=i) (by omega),if_pos h36];simp[bf]⟩ SB
  (λ_ s=>ak [3,0,0] rfl s) (λ⟨k,u3,laid3⟩ hinv=>?_)
 obtain⟨hk,hM⟩:=hinv;have hE:=hM;refine sr λ_ J19=>PS ?_
 refine an ?_ ?_<;>intro h42;refine nx J19 (ab λ_ J20=>CY (qx J20 (ab λ_ J21=>aq (sr λ_ J22=>tp (N7 (cs:=ints (bL ((x.left[i]'(by omega)).toList))) (r:=k*7) rfl zW mp rfl fp rfl rfl (by omega) (by omega) (by omega) (ym (by simp;omega))) ?_))));refine XA Ic λb10=>?_
 refine bF (vs:=ints (((x.left[i]'(by omega)).toList)[k]'(by simp;omega)).flat) (cs':=ints (((x.left[i]'(by omega)).toList)[k]'(by simp;omega)).flat) (i:=0) (aa rfl) rfl rfl rfl rfl rfl (by rw[bm];exact fp) (bu _) rfl rfl (by rw[bm];exact aK _) (fi (by rw[bm];rfl)) rfl (nx J22 (ad (PS ?_)));refine tp (aM (vs:=ints (((x.left[i]'(by omega)).toList)[k]'(by simp;omega)).flat) rfl mp rfl fp rfl (RO 0) (bm _) (by rw[a8,aB (by rw[bm];decide)])) ?_;refine CR JJ (uM wb u3 (laid3) (((x.left[i]'(by omega)).toList)[k]'(by simp;omega)) (by have:=congrArg List.length hE;have:=g8 x;have:=aT (((x.left[i]'(by omega)).toList)[k]'(by simp;omega)).flat;rw[br]at this;simp only[aj]at*;omega)) (SM [2,2]) λvR HR hR=>?_
 obtain⟨u3,rfl,rfl⟩:=hR;refine ap (af (ac J21 (ad (AD ?_))));refine PS ?_;refine ap ?_
 exact aI ((k+1,u3,laid3++bf (((x.left[i]'(by omega)).toList)[k]'(by simp;omega)).flat):(Nat)×(Value)×(List UInt8)) ⟨by omega,by rw[←hM,ox (l:=(x.left[i]'(by omega)).toList) (k:=k) (by simp;omega)];simp⟩ (by show _-_<_-_;omega)
  SB
  (λ_ s=>ak [3,0,0] rfl s)
 refine nx J19 (ab λ_ J23=>CN (aS (ay (ay (bj (af (ac J14 (ad (AD ?_)))))))));refine PS ?_;refine ap ?_
 exact aI ((i+1,u3,laid3):(Nat)×(Value)×(List UInt8)) ⟨by omega,by rw[←hM,eZ (by simp;omega)];simp[bL,bf]⟩ (by show _-_<_-_;omega)
  SB
  (λ_ s=>ak [0,0,0] rfl s)
 refine nx J17 (CN (aQ (af (ac J14 (ad (AD ?_))))));refine PS ?_;refine ap ?_
 exact aI ((i+1,u2,laid++bf [x.heir[i]'(by omega)]):(Nat)×(Value)×(List UInt8)) ⟨by omega,by rw[←hL,qk (i:=i) (by omega),if_neg h36];simp[bf]⟩ (by show _-_<_-_;omega)
  SB
  (λ_ s=>ak [3,0,0] rfl s)
 refine nx J12 (ab λ_ J24=>CN (aS (ay (ay (bj (ac J10 (sr λ_ J25=>P2 ?_)))))));refine nx J25 (ai (WK [1,1] (au rfl rfl ?_)));obtain rfl:laid=bs++g9 x:=by rw[←hL,show 5-i=0 by omega];simp[fY]
 exact⟨u,rfl,rfl⟩
theorem Bs(m:MsgT):
 DT 205 #[(.agg (ints m.flat).toArray)] T0 [] (c9 (λr' H=>∃u,r'=u∧H=[dK u (dU m) 5])):=by
 refine BD 100 Tryz.func205 rfl rfl rfl λw0 F hF=>sr λ_ J1=>XY (ints m.flat) λb1=>?_
 refine PS ?_;refine nx J1 (sr λ_ J2=>XA KW λb4=>?_);refine TL.ownNil 5 (λon=>?_);clear on;refine PS ?_;refine nx J2 (ab λ_ J3=>sr λ_ J4=>FA 0 a9 aP ?_);refine LU 2 Y3 (eL m rfl) ?_;refine nx J4 (aq (ab λ_ J5=>eV (α:=Unit) (λ_u=>True) (λ_u=>[(1,(.pointer (some ⟨b1,0,none⟩))),(2,(.slice none 0 0)),(3,(.pointer (some ⟨b4,0,none⟩))),(6,(.int .i64 (m.kind))),(7,(.bool ((e6 m.kind))))]) (λ_u=>[dK (.slice none 0 0) ([]) 5,ag b4 [(.slice none 0 0)] 144,ag b1 (ints m.flat) 178]) (λ_u hinv=>?_) (λtl5=>?_)));have _:=hinv;refine ac J5 (TC.cond rfl (λh7=>?_) (λh7=>?_));refine D1 2 bh ?_;refine PD 0 ?_;refine FD 1 0 a9 aP ?_;refine LR 2 Y3 (eL m rfl) ?_;refine FD 3 1 a9 aP ?_;refine LR 4 Y3 (ce m rfl) ?_;refine FD 7 2 a9 aZ ?_;refine ta 8 rfl (aM (vs:=ints m.row.flat) rfl dN rfl aZ rfl (λ_ h=>h.2.1) (ah m.row) (lV m 0 rfl (by decide) (whole (ah m.row)))) ?_;refine AL 5 ?_;refine aU (cells:=#[(.int .i64 (m.kind)),(.int .i64 (m.whose))]) (aa rfl) rfl rfl rfl jZ qO rfl rfl rfl (by as_aux_lemma=>kernel_rfl) (λb16=>EN (AL 6 ?_));refine CQ nj (dE b4 (.slice none 0 0) ([]) (.slice (some ⟨b16,0,none⟩) (2) (2)) [m.kind,m.whose] (by simp)) (SM [2,1]) (dx 0 rfl rfl rfl rfl) λvR HR hR=>?_
 obtain⟨u1,rfl,rfl⟩:=hR;refine EN (AL 9 ?_);refine CR Km (sD b4 u1 (bf [m.kind,m.whose]) m.row (by(have:=aT [m.kind,m.whose]);simp only[BallotT.flat,ViewT.flat,ChangeT.flat,ax,aC,aA,aj]at*;omega)) ID λvR HR hR=>?_
 obtain⟨u2,rfl,rfl⟩:=hR;refine EN (DN (af (ac J3 (sr λ_ J6=>PS ?_))));refine CR qJ (ec b4 u2 (bf [m.kind,m.whose]++g9 m.row) (by(have:=aT [m.kind,m.whose]);(have:=g8 m.row);simp only[BallotT.flat,ViewT.flat,ChangeT.flat,ax,aC,aA,aj]at*;omega)) ID λvR HR hR=>?_
 obtain⟨_,rfl,rfl⟩:=hR;revert vR;intro u3;refine PS ?_;refine nx J6 (ai (WK [2] (au rfl rfl ?_)));exact⟨_,rfl,congrArg (λb=>[dK u3 b 5]) (show(bf [m.kind,m.whose]++g9 m.row)=dU m by simp[dU,bf, *])⟩;refine sr λ_ J7=>PS ?_
 refine an ?_ ?_<;>intro h22;refine PS ?_;refine nx J7 (CY (ad (PS ?_)));refine FA 0 a9 aP ?_;refine LU 2 Y3 (eL m rfl) ?_;refine FA 176 a9 aP ?_;refine LU 2 Y3 (MsgT.at_version m rfl) ?_;refine aU (cells:=#[(.int .i64 (m.kind)),(.int .i64 (m.version))]) (aa rfl) rfl rfl rfl jZ qO rfl rfl rfl (by as_aux_lemma=>kernel_rfl) (λb28=>CQ nj (dE b4 (.slice none 0 0) ([]) (.slice (some ⟨b28,0,none⟩) (2) (2)) [m.kind,m.version] (by simp)) (SM [2,1]) (dx 0 rfl rfl rfl rfl) λvR HR hR=>?_);obtain⟨u1,rfl,rfl⟩:=hR;refine ap (af (ac J3 (sr λ_ J8=>PS ?_)));refine CR qJ (ec b4 u1 (bf [m.kind,m.version]) (by(have:=aT [m.kind,m.version]);simp only[BallotT.flat,ViewT.flat,ChangeT.flat,ax,aC,aA,aj]at*;omega)) ID λvR HR hR=>?_
 obtain⟨_,rfl,rfl⟩:=hR;revert vR;intro u2;refine PS ?_;refine nx J8 (ai (WK [2] (au rfl rfl ?_)));exact⟨_,rfl,congrArg (λb=>[dK u2 b 5]) (show(bf [m.kind,m.version])=dU m by simp[dU,e6,ff,bf, *])⟩;refine PS ?_;refine nx J7 (CN (ab λ_ J9=>eV (α:=Unit) (λ_u=>True) (λ_u=>[(1,(.pointer (some ⟨b1,0,none⟩))),(2,(.slice none 0 0)),(3,(.pointer (some ⟨b4,0,none⟩))),(6,(.int .i64 (m.kind))),(30,(.bool ((ff m.kind))))]) (λ_u=>[dK (.slice none 0 0) ([]) 5,ag b4 [(.slice none 0 0)] 144,ag b1 (ints m.flat) 178]) (λ_u hinv=>?_) (λtl9=>?_)));have _:=hinv;refine ac J9 (TC.cond rfl (λh30=>?_) (λh30=>?_));refine D1 2 bh ?_;refine PD 0 ?_;refine FD 1 0 a9 aP ?_;refine LR 2 Y3 (eL m rfl) ?_;refine FD 3 177 a9 aP ?_;refine LR 4 Y3 (eC m rfl) ?_;refine FD 7 178 a9 cp ?_;refine ta 8 rfl (aM (vs:=ints m.ballot.flat) rfl jT rfl cp rfl (λ_ h=>h.2.1) (ao m.ballot) (iJ m 0 rfl (by decide) (whole (ao m.ballot)))) ?_;refine AL 5 ?_;refine aU (cells:=#[(.int .i64 (m.kind)),(.int .i64 (m.epoch))]) (aa rfl) rfl rfl rfl jZ qO rfl rfl rfl (by as_aux_lemma=>kernel_rfl) (λb38=>EN (AL 6 ?_));refine CQ nj (dE b4 (.slice none 0 0) ([]) (.slice (some ⟨b38,0,none⟩) (2) (2)) [m.kind,m.epoch] (by simp)) (SM [2,1]) (dx 0 rfl rfl rfl rfl) λvR HR hR=>?_
 obtain⟨u1,rfl,rfl⟩:=hR;refine EN (AL 9 ?_);refine CR FL (jc b4 u1 (bf [m.kind,m.epoch]) m.ballot (by(have:=aT [m.kind,m.epoch]);simp only[BallotT.flat,ViewT.flat,ChangeT.flat,ax,aC,aA,aj]at*;omega)) ID λvR HR hR=>?_
 obtain⟨u2,rfl,rfl⟩:=hR;refine EN (DN (af (ac J3 (sr λ_ J10=>PS ?_))));refine CR qJ (ec b4 u2 (bf [m.kind,m.epoch]++bf m.ballot.flat) (by(have:=aT [m.kind,m.epoch]);(have:=aT (m.ballot.flat));simp only[BallotT.flat,ViewT.flat,ChangeT.flat,ax,aC,aA,aj]at*;omega)) ID λvR HR hR=>?_
 obtain⟨_,rfl,rfl⟩:=hR;revert vR;intro u3;refine PS ?_;refine nx J10 (ai (WK [2] (au rfl rfl ?_)));exact⟨_,rfl,congrArg (λb=>[dK u3 b 5]) (show(bf [m.kind,m.epoch]++bf m.ballot.flat)=dU m by simp[dU,bf, *])⟩;refine sr λ_ J11=>PS ?_
 refine an ?_ ?_<;>intro h44;refine PS ?_;refine nx J11 (CY (D1 2 bh ?_));refine PD 0 ?_;refine FD 1 0 a9 aP ?_;refine LR 2 Y3 (eL m rfl) ?_;refine FD 3 177 a9 aP ?_;refine LR 4 Y3 (eC m rfl) ?_;refine FD 7 178 a9 cp ?_;refine ta 8 rfl (aM (vs:=ints m.ballot.flat) rfl jT rfl cp rfl (λ_ h=>h.2.1) (ao m.ballot) (iJ m 0 rfl (by decide) (whole (ao m.ballot)))) ?_;refine FD 10 180 a9 cp ?_;refine ta 11 rfl (aM (vs:=ints m.had.flat) rfl jT rfl cp rfl (λ_ h=>h.2.1) (ao m.had) (Og m 0 rfl (by decide) (whole (ao m.had)))) ?_;refine FD 13 182 a9 fy ?_;refine ta 14 rfl (aM (vs:=ints m.change.flat) rfl mR rfl fy rfl (λ_ h=>h.2.1) (aJ m.change) (mW m 0 rfl (by decide) (whole (aJ m.change)))) ?_;refine AL 5 ?_;refine aU (cells:=#[(.int .i64 (m.kind)),(.int .i64 (m.epoch))]) (aa rfl) rfl rfl rfl jZ qO rfl rfl rfl (by as_aux_lemma=>kernel_rfl) (λb50=>EN (AL 6 ?_));refine CQ nj (dE b4 (.slice none 0 0) ([]) (.slice (some ⟨b50,0,none⟩) (2) (2)) [m.kind,m.epoch] (by simp)) (SM [2,1]) (dx 0 rfl rfl rfl rfl) λvR HR hR=>?_
 obtain⟨u1,rfl,rfl⟩:=hR;refine EN (AL 9 ?_);refine CR FL (jc b4 u1 (bf [m.kind,m.epoch]) m.ballot (by(have:=aT [m.kind,m.epoch]);simp only[BallotT.flat,ViewT.flat,ChangeT.flat,ax,aC,aA,aj]at*;omega)) ID λvR HR hR=>?_
 obtain⟨u2,rfl,rfl⟩:=hR;refine EN (AL 12 ?_);refine CR FL (jc b4 u2 (bf [m.kind,m.epoch]++bf m.ballot.flat) m.had (by(have:=aT [m.kind,m.epoch]);(have:=aT (m.ballot.flat));simp only[BallotT.flat,ViewT.flat,ChangeT.flat,ax,aC,aA,aj]at*;omega)) ID λvR HR hR=>?_
 obtain⟨u3,rfl,rfl⟩:=hR;refine EN (AL 15 ?_);refine CR Kl (n6 b4 u3 (bf [m.kind,m.epoch]++bf m.ballot.flat++bf m.had.flat) m.change (by(have:=aT [m.kind,m.epoch]);(have:=aT (m.ballot.flat));(have:=aT (m.had.flat));simp only[BallotT.flat,ViewT.flat,ChangeT.flat,ax,aC,aA,aj]at*;omega)) ID λvR HR hR=>?_
 obtain⟨u4,rfl,rfl⟩:=hR;refine EN (DN (af (ac J3 (sr λ_ J12=>PS ?_))));refine CR qJ (ec b4 u4 (bf [m.kind,m.epoch]++bf m.ballot.flat++bf m.had.flat++bf m.change.flat) (by(have:=aT [m.kind,m.epoch]);(have:=aT (m.ballot.flat));(have:=aT (m.had.flat));(have:=aT (m.change.flat));simp only[BallotT.flat,ViewT.flat,ChangeT.flat,ax,aC,aA,aj]at*;omega)) ID λvR HR hR=>?_
 obtain⟨_,rfl,rfl⟩:=hR;revert vR;intro u5;refine PS ?_;refine nx J12 (ai (WK [2] (au rfl rfl ?_)));exact⟨_,rfl,congrArg (λb=>[dK u5 b 5]) (show(bf [m.kind,m.epoch]++bf m.ballot.flat++bf m.had.flat++bf m.change.flat)=dU m by simp[dU,e6,ff,bf, *])⟩;refine PS ?_;refine nx J11 (CN (sr λ_ J13=>PS ?_));refine an ?_ ?_<;>intro h62;refine PS ?_;refine nx J13 (CY (D1 2 bh ?_));refine PD 0 ?_;refine FD 1 0 a9 aP ?_;refine LR 2 Y3 (eL m rfl) ?_;refine FD 3 177 a9 aP ?_;refine LR 4 Y3 (eC m rfl) ?_;refine FD 7 178 a9 cp ?_;refine ta 8 rfl (aM (vs:=ints m.ballot.flat) rfl jT rfl cp rfl (λ_ h=>h.2.1) (ao m.ballot) (iJ m 0 rfl (by decide) (whole (ao m.ballot)))) ?_;refine FD 10 182 a9 fy ?_;refine ta 11 rfl (aM (vs:=ints m.change.flat) rfl mR rfl fy rfl (λ_ h=>h.2.1) (aJ m.change) (mW m 0 rfl (by decide) (whole (aJ m.change)))) ?_;refine AL 5 ?_;refine aU (cells:=#[(.int .i64 (m.kind)),(.int .i64 (m.epoch))]) (aa rfl) rfl rfl rfl jZ qO rfl rfl rfl (by as_aux_lemma=>kernel_rfl) (λb68=>EN (AL 6 ?_));refine CQ nj (dE b4 (.slice none 0 0) ([]) (.slice (some ⟨b68,0,none⟩) (2) (2)) [m.kind,m.epoch] (by simp)) (SM [2,1]) (dx 0 rfl rfl rfl rfl) λvR HR hR=>?_
 obtain⟨u1,rfl,rfl⟩:=hR;refine EN (AL 9 ?_);refine CR FL (jc b4 u1 (bf [m.kind,m.epoch]) m.ballot (by(have:=aT [m.kind,m.epoch]);simp only[BallotT.flat,ViewT.flat,ChangeT.flat,ax,aC,aA,aj]at*;omega)) ID λvR HR hR=>?_
 obtain⟨u2,rfl,rfl⟩:=hR;refine EN (AL 12 ?_);refine CR Kl (n6 b4 u2 (bf [m.kind,m.epoch]++bf m.ballot.flat) m.change (by(have:=aT [m.kind,m.epoch]);(have:=aT (m.ballot.flat));simp only[BallotT.flat,ViewT.flat,ChangeT.flat,ax,aC,aA,aj]at*;omega)) ID λvR HR hR=>?_
 obtain⟨u3,rfl,rfl⟩:=hR;refine EN (DN (af (ac J3 (sr λ_ J14=>PS ?_))));refine CR qJ (ec b4 u3 (bf [m.kind,m.epoch]++bf m.ballot.flat++bf m.change.flat) (by(have:=aT [m.kind,m.epoch]);(have:=aT (m.ballot.flat));(have:=aT (m.change.flat));simp only[BallotT.flat,ViewT.flat,ChangeT.flat,ax,aC,aA,aj]at*;omega)) ID λvR HR hR=>?_
 obtain⟨_,rfl,rfl⟩:=hR;revert vR;intro u4;refine PS ?_;refine nx J14 (ai (WK [2] (au rfl rfl ?_)));exact⟨_,rfl,congrArg (λb=>[dK u4 b 5]) (show(bf [m.kind,m.epoch]++bf m.ballot.flat++bf m.change.flat)=dU m by simp[dU,e6,ff,bf, *])⟩;refine PS ?_;refine nx J13 (CN (sr λ_ J15=>PS ?_));refine an ?_ ?_<;>intro h77;refine PS ?_;refine nx J15 (CY (D1 2 bh ?_));refine PD 0 ?_;refine FD 1 0 a9 aP ?_;refine LR 2 Y3 (eL m rfl) ?_;refine FD 5 185 a9 bc ?_;refine ta 6 rfl (aM (vs:=ints m.view.flat) rfl eE rfl bc rfl (λ_ h=>h.2.1) (am m.view) (ux m 0 rfl (by decide) (whole (am m.view)))) ?_;refine AL 3 ?_;refine aU (cells:=#[(.int .i64 (m.kind))]) (aa rfl) rfl rfl rfl jZ qO rfl rfl rfl (by as_aux_lemma=>kernel_rfl) (λb81=>EN (AL 4 ?_));refine CQ nj (dE b4 (.slice none 0 0) ([]) (.slice (some ⟨b81,0,none⟩) (1) (1)) [m.kind] (by simp)) (SM [2,1]) (dx 0 rfl rfl rfl rfl) λvR HR hR=>?_
 obtain⟨u1,rfl,rfl⟩:=hR;refine EN (AL 7 ?_);refine CR Kk (qp b4 u1 (bf [m.kind]) m.view (by(have:=aT [m.kind]);simp only[BallotT.flat,ViewT.flat,ChangeT.flat,ax,aC,aA,aj]at*;omega)) ID λvR HR hR=>?_
 obtain⟨u2,rfl,rfl⟩:=hR;refine EN (DN (af (ac J3 (sr λ_ J16=>PS ?_))));refine CR qJ (ec b4 u2 (bf [m.kind]++bf m.view.flat) (by(have:=aT [m.kind]);(have:=aT (m.view.flat));simp only[BallotT.flat,ViewT.flat,ChangeT.flat,ax,aC,aA,aj]at*;omega)) ID λvR HR hR=>?_
 obtain⟨_,rfl,rfl⟩:=hR;revert vR;intro u3;refine PS ?_;refine nx J16 (ai (WK [2] (au rfl rfl ?_)));exact⟨_,rfl,congrArg (λb=>[dK u3 b 5]) (show(bf [m.kind]++bf m.view.flat)=dU m by simp[dU,e6,ff,bf, *])⟩;refine PS ?_;refine nx J15 (CN (sr λ_ J17=>PS ?_));refine an ?_ ?_<;>intro h87;refine PS ?_;refine nx J17 (CY (D1 2 bh ?_));refine PD 0 ?_;refine FD 1 0 a9 aP ?_;refine LR 2 Y3 (eL m rfl) ?_;refine FD 3 1 a9 aP ?_;refine LR 4 Y3 (ce m rfl) ?_;refine FD 7 185 a9 bc ?_;refine ta 8 rfl (aM (vs:=ints m.view.flat) rfl eE rfl bc rfl (λ_ h=>h.2.1) (am m.view) (ux m 0 rfl (by decide) (whole (am m.view)))) ?_;refine AL 5 ?_;refine aU (cells:=#[(.int .i64 (m.kind)),(.int .i64 (m.whose))]) (aa rfl) rfl rfl rfl jZ qO rfl rfl rfl (by as_aux_lemma=>kernel_rfl) (λb93=>EN (AL 6 ?_));refine CQ nj (dE b4 (.slice none 0 0) ([]) (.slice (some ⟨b93,0,none⟩) (2) (2)) [m.kind,m.whose] (by simp)) (SM [2,1]) (dx 0 rfl rfl rfl rfl) λvR HR hR=>?_
 obtain⟨u1,rfl,rfl⟩:=hR;refine EN (AL 9 ?_);refine CR Kk (qp b4 u1 (bf [m.kind,m.whose]) m.view (by(have:=aT [m.kind,m.whose]);simp only[BallotT.flat,ViewT.flat,ChangeT.flat,ax,aC,aA,aj]at*;omega)) ID λvR HR hR=>?_
 obtain⟨u2,rfl,rfl⟩:=hR;refine EN (DN (af (ac J3 (sr λ_ J18=>PS ?_))));refine CR qJ (ec b4 u2 (bf [m.kind,m.whose]++bf m.view.flat) (by(have:=aT [m.kind,m.whose]);(have:=aT (m.view.flat));simp only[BallotT.flat,ViewT.flat,ChangeT.flat,ax,aC,aA,aj]at*;omega)) ID λvR HR hR=>?_
 obtain⟨_,rfl,rfl⟩:=hR;revert vR;intro u3;refine PS ?_;refine nx J18 (ai (WK [2] (au rfl rfl ?_)));exact⟨_,rfl,congrArg (λb=>[dK u3 b 5]) (show(bf [m.kind,m.whose]++bf m.view.flat)=dU m by simp[dU,e6,ff,bf, *])⟩;refine PS ?_;refine nx J17 (CN (aQ (af (ac J3 (sr λ_ J19=>PS ?_)))));refine CR qJ (ec b4 (.slice none 0 0) ([]) (by simp)) (SM [1,0]) λvR HR hR=>?_
 obtain⟨_,rfl,rfl⟩:=hR;revert vR;intro u1;refine PS ?_;refine nx J19 (ai (WK [2] (au rfl rfl ?_)));exact⟨_,rfl,congrArg (λb=>[dK u1 b 5]) (show([]:List UInt8)=dU m by simp[dU,bf, *])⟩;refine sr λ_ J20=>P2 ?_
 refine an ?_ ?_<;>intro h30;refine nx J20 (CY (aQ ?_))
 exact aF
  (aL (aL (aL (aL (bd rfl (by simp[ff, *]) SB)))))
  (λ_ s=>s)
  (tl9 (():Unit) trivial)
 refine nx J20 (CN (ad (PS ?_)));refine an ?_ ?_<;>intro h32;refine PS ?_;refine ap ?_
 exact aF
  (aL (aL (aL (aL (bd rfl (by simp[ff, *]) SB)))))
  (λ_ s=>s)
  (tl9 (():Unit) trivial)
 refine PS ?_;refine ap ?_
 exact aF
  (aL (aL (aL (aL (bd rfl (by simp[ff, *]) SB)))))
  (λ_ s=>s)
  (tl9 (():Unit) trivial)
 refine sr λ_ J21=>P2 ?_
 refine an ?_ ?_<;>intro h7;refine nx J21 (CY (aQ ?_))
 exact aF
  (aL (aL (aL (aL (bd rfl (by simp[e6, *]) SB)))))
  (λ_ s=>s)
  (tl5 (():Unit) trivial)
 refine nx J21 (CN (sr λ_ J22=>P2 ?_));refine an ?_ ?_<;>intro h7;refine nx J22 (CY (aQ ?_))
 exact aF
  (aL (aL (aL (aL (bd rfl (by simp[e6, *]) SB)))))
  (λ_ s=>s)
  (tl5 (():Unit) trivial)
 refine nx J22 (CN (ad (PS ?_)));refine an ?_ ?_<;>intro h10;refine PS ?_;refine ap ?_
 exact aF
  (aL (aL (aL (aL (bd rfl (by simp[e6, *]) SB)))))
  (λ_ s=>s)
  (tl5 (():Unit) trivial)
 refine PS ?_;refine ap ?_
 exact aF
  (aL (aL (aL (aL (bd rfl (by simp[e6, *]) SB)))))
  (λ_ s=>s)
  (tl5 (():Unit) trivial)
theorem AX(m:RecT):
 DT 50 #[(.agg (ints m.flat).toArray)] T0 [] (c9 (λr' H=>∃u,r'=u∧H=[dK u (jG m) 5])):=by
 refine BD 77 Tryz.func50 rfl rfl rfl λw0 F hF=>sr λ_ J1=>XY (ints m.flat) λb1=>?_
 refine PS ?_;refine nx J1 (sr λ_ J2=>XA KW λb4=>?_);refine TL.ownNil 5 (λon=>?_);clear on;refine PS ?_;refine nx J2 (ab λ_ J3=>sr λ_ J4=>FA 0 iI aP ?_);refine LU 2 Y3 (kc m rfl) ?_;refine nx J4 (aq (sr λ_ J5=>PS ?_));refine an ?_ ?_<;>intro h8;refine PS ?_;refine nx J5 (CY (D1 2 bh ?_));refine PD 0 ?_;refine FD 1 0 iI aP ?_;refine LR 2 Y3 (kc m rfl) ?_;refine FD 5 2 iI aZ ?_;refine ta 6 rfl (aM (vs:=ints m.row.flat) rfl dN rfl aZ rfl (λ_ h=>h.2.1) (ah m.row) (q6 m 0 rfl (by decide) (whole (ah m.row)))) ?_;refine AL 3 ?_;refine aU (cells:=#[(.int .i64 (m.kind))]) (aa rfl) rfl rfl rfl jZ qO rfl rfl rfl (by as_aux_lemma=>kernel_rfl) (λb12=>EN (AL 4 ?_));refine CQ nj (dE b4 (.slice none 0 0) ([]) (.slice (some ⟨b12,0,none⟩) (1) (1)) [m.kind] (by simp)) (SM [2,1]) (dx 0 rfl rfl rfl rfl) λvR HR hR=>?_
 obtain⟨u1,rfl,rfl⟩:=hR;refine EN (AL 7 ?_);refine CR Km (sD b4 u1 (bf [m.kind]) m.row (by(have:=aT [m.kind]);simp only[BallotT.flat,ViewT.flat,ChangeT.flat,ax,aC,aA,aj]at*;omega)) ID λvR HR hR=>?_
 obtain⟨u2,rfl,rfl⟩:=hR;refine EN (DN (af (ac J3 (sr λ_ J6=>PS ?_))));refine CR qJ (ec b4 u2 (bf [m.kind]++g9 m.row) (by(have:=aT [m.kind]);(have:=g8 m.row);simp only[BallotT.flat,ViewT.flat,ChangeT.flat,ax,aC,aA,aj]at*;omega)) ID λvR HR hR=>?_
 obtain⟨_,rfl,rfl⟩:=hR;revert vR;intro u3;refine PS ?_;refine nx J6 (ai (WK [2] (au rfl rfl ?_)));exact⟨_,rfl,congrArg (λb=>[dK u3 b 5]) (show(bf [m.kind]++g9 m.row)=jG m by simp[jG,e6,ff,bf, *])⟩;refine PS ?_;refine nx J5 (CN (sr λ_ J7=>PS ?_));refine an ?_ ?_<;>intro h18;refine PS ?_;refine nx J7 (CY (D1 2 bh ?_));refine PD 0 ?_;refine FD 1 0 iI aP ?_;refine LR 2 Y3 (kc m rfl) ?_;refine FD 3 1 iI aP ?_;refine LR 4 Y3 (EC m rfl) ?_;refine FD 7 2 iI aZ ?_;refine ta 8 rfl (aM (vs:=ints m.row.flat) rfl dN rfl aZ rfl (λ_ h=>h.2.1) (ah m.row) (q6 m 0 rfl (by decide) (whole (ah m.row)))) ?_;refine AL 5 ?_;refine aU (cells:=#[(.int .i64 (m.kind)),(.int .i64 (m.whose))]) (aa rfl) rfl rfl rfl jZ qO rfl rfl rfl (by as_aux_lemma=>kernel_rfl) (λb24=>EN (AL 6 ?_));refine CQ nj (dE b4 (.slice none 0 0) ([]) (.slice (some ⟨b24,0,none⟩) (2) (2)) [m.kind,m.whose] (by simp)) (SM [2,1]) (dx 0 rfl rfl rfl rfl) λvR HR hR=>?_
 obtain⟨u1,rfl,rfl⟩:=hR;refine EN (AL 9 ?_);refine CR Km (sD b4 u1 (bf [m.kind,m.whose]) m.row (by(have:=aT [m.kind,m.whose]);simp only[BallotT.flat,ViewT.flat,ChangeT.flat,ax,aC,aA,aj]at*;omega)) ID λvR HR hR=>?_
 obtain⟨u2,rfl,rfl⟩:=hR;refine EN (DN (af (ac J3 (sr λ_ J8=>PS ?_))));refine CR qJ (ec b4 u2 (bf [m.kind,m.whose]++g9 m.row) (by(have:=aT [m.kind,m.whose]);(have:=g8 m.row);simp only[BallotT.flat,ViewT.flat,ChangeT.flat,ax,aC,aA,aj]at*;omega)) ID λvR HR hR=>?_
 obtain⟨_,rfl,rfl⟩:=hR;revert vR;intro u3;refine PS ?_;refine nx J8 (ai (WK [2] (au rfl rfl ?_)));exact⟨_,rfl,congrArg (λb=>[dK u3 b 5]) (show(bf [m.kind,m.whose]++g9 m.row)=jG m by simp[jG,e6,ff,bf, *])⟩;refine PS ?_;refine nx J7 (CN (sr λ_ J9=>PS ?_));refine an ?_ ?_<;>intro h30;refine PS ?_;refine nx J9 (CY (ad (PS ?_)));refine FA 0 iI aP ?_;refine LU 2 Y3 (kc m rfl) ?_;refine FA 1 iI aP ?_;refine LU 2 Y3 (EC m rfl) ?_;refine aU (cells:=#[(.int .i64 (m.kind)),(.int .i64 (m.whose))]) (aa rfl) rfl rfl rfl jZ qO rfl rfl rfl (by as_aux_lemma=>kernel_rfl) (λb36=>CQ nj (dE b4 (.slice none 0 0) ([]) (.slice (some ⟨b36,0,none⟩) (2) (2)) [m.kind,m.whose] (by simp)) (SM [2,1]) (dx 0 rfl rfl rfl rfl) λvR HR hR=>?_);obtain⟨u1,rfl,rfl⟩:=hR;refine ap (af (ac J3 (sr λ_ J10=>PS ?_)));refine CR qJ (ec b4 u1 (bf [m.kind,m.whose]) (by(have:=aT [m.kind,m.whose]);simp only[BallotT.flat,ViewT.flat,ChangeT.flat,ax,aC,aA,aj]at*;omega)) ID λvR HR hR=>?_
 obtain⟨_,rfl,rfl⟩:=hR;revert vR;intro u2;refine PS ?_;refine nx J10 (ai (WK [2] (au rfl rfl ?_)));exact⟨_,rfl,congrArg (λb=>[dK u2 b 5]) (show(bf [m.kind,m.whose])=jG m by simp[jG,e6,ff,bf, *])⟩;refine PS ?_;refine nx J9 (CN (sr λ_ J11=>PS ?_));refine an ?_ ?_<;>intro h39;refine PS ?_;refine nx J11 (CY (D1 2 bh ?_));refine PD 0 ?_;refine FD 1 0 iI aP ?_;refine LR 2 Y3 (kc m rfl) ?_;refine FD 3 176 iI aP ?_;refine LR 4 Y3 (RecT.at_epoch m rfl) ?_;refine FD 7 177 iI cp ?_;refine ta 8 rfl (aM (vs:=ints m.ballot.flat) rfl jT rfl cp rfl (λ_ h=>h.2.1) (ao m.ballot) (qc m 0 rfl (by decide) (whole (ao m.ballot)))) ?_;refine AL 5 ?_;refine aU (cells:=#[(.int .i64 (m.kind)),(.int .i64 (m.epoch))]) (aa rfl) rfl rfl rfl jZ qO rfl rfl rfl (by as_aux_lemma=>kernel_rfl) (λb45=>EN (AL 6 ?_));refine CQ nj (dE b4 (.slice none 0 0) ([]) (.slice (some ⟨b45,0,none⟩) (2) (2)) [m.kind,m.epoch] (by simp)) (SM [2,1]) (dx 0 rfl rfl rfl rfl) λvR HR hR=>?_
 obtain⟨u1,rfl,rfl⟩:=hR;refine EN (AL 9 ?_);refine CR FL (jc b4 u1 (bf [m.kind,m.epoch]) m.ballot (by(have:=aT [m.kind,m.epoch]);simp only[BallotT.flat,ViewT.flat,ChangeT.flat,ax,aC,aA,aj]at*;omega)) ID λvR HR hR=>?_
 obtain⟨u2,rfl,rfl⟩:=hR;refine EN (DN (af (ac J3 (sr λ_ J12=>PS ?_))));refine CR qJ (ec b4 u2 (bf [m.kind,m.epoch]++bf m.ballot.flat) (by(have:=aT [m.kind,m.epoch]);(have:=aT (m.ballot.flat));simp only[BallotT.flat,ViewT.flat,ChangeT.flat,ax,aC,aA,aj]at*;omega)) ID λvR HR hR=>?_
 obtain⟨_,rfl,rfl⟩:=hR;revert vR;intro u3;refine PS ?_;refine nx J12 (ai (WK [2] (au rfl rfl ?_)));exact⟨_,rfl,congrArg (λb=>[dK u3 b 5]) (show(bf [m.kind,m.epoch]++bf m.ballot.flat)=jG m by simp[jG,e6,ff,bf, *])⟩;refine PS ?_;refine nx J11 (CN (sr λ_ J13=>PS ?_));refine an ?_ ?_<;>intro h51;refine PS ?_;refine nx J13 (CY (D1 2 bh ?_));refine PD 0 ?_;refine FD 1 0 iI aP ?_;refine LR 2 Y3 (kc m rfl) ?_;refine FD 3 176 iI aP ?_;refine LR 4 Y3 (RecT.at_epoch m rfl) ?_;refine FD 7 177 iI cp ?_;refine ta 8 rfl (aM (vs:=ints m.ballot.flat) rfl jT rfl cp rfl (λ_ h=>h.2.1) (ao m.ballot) (qc m 0 rfl (by decide) (whole (ao m.ballot)))) ?_;refine FD 10 179 iI fy ?_;refine ta 11 rfl (aM (vs:=ints m.change.flat) rfl mR rfl fy rfl (λ_ h=>h.2.1) (aJ m.change) (KK m 0 rfl (by decide) (whole (aJ m.change)))) ?_;refine AL 5 ?_;refine aU (cells:=#[(.int .i64 (m.kind)),(.int .i64 (m.epoch))]) (aa rfl) rfl rfl rfl jZ qO rfl rfl rfl (by as_aux_lemma=>kernel_rfl) (λb57=>EN (AL 6 ?_));refine CQ nj (dE b4 (.slice none 0 0) ([]) (.slice (some ⟨b57,0,none⟩) (2) (2)) [m.kind,m.epoch] (by simp)) (SM [2,1]) (dx 0 rfl rfl rfl rfl) λvR HR hR=>?_
 obtain⟨u1,rfl,rfl⟩:=hR;refine EN (AL 9 ?_);refine CR FL (jc b4 u1 (bf [m.kind,m.epoch]) m.ballot (by(have:=aT [m.kind,m.epoch]);simp only[BallotT.flat,ViewT.flat,ChangeT.flat,ax,aC,aA,aj]at*;omega)) ID λvR HR hR=>?_
 obtain⟨u2,rfl,rfl⟩:=hR;refine EN (AL 12 ?_);refine CR Kl (n6 b4 u2 (bf [m.kind,m.epoch]++bf m.ballot.flat) m.change (by(have:=aT [m.kind,m.epoch]);(have:=aT (m.ballot.flat));simp only[BallotT.flat,ViewT.flat,ChangeT.flat,ax,aC,aA,aj]at*;omega)) ID λvR HR hR=>?_
 obtain⟨u3,rfl,rfl⟩:=hR;refine EN (DN (af (ac J3 (sr λ_ J14=>PS ?_))));refine CR qJ (ec b4 u3 (bf [m.kind,m.epoch]++bf m.ballot.flat++bf m.change.flat) (by(have:=aT [m.kind,m.epoch]);(have:=aT (m.ballot.flat));(have:=aT (m.change.flat));simp only[BallotT.flat,ViewT.flat,ChangeT.flat,ax,aC,aA,aj]at*;omega)) ID λvR HR hR=>?_
 obtain⟨_,rfl,rfl⟩:=hR;revert vR;intro u4;refine PS ?_;refine nx J14 (ai (WK [2] (au rfl rfl ?_)));exact⟨_,rfl,congrArg (λb=>[dK u4 b 5]) (show(bf [m.kind,m.epoch]++bf m.ballot.flat++bf m.change.flat)=jG m by simp[jG,e6,ff,bf, *])⟩;refine PS ?_;refine nx J13 (CN (sr λ_ J15=>PS ?_));refine an ?_ ?_<;>intro h66;refine PS ?_;refine nx J15 (CY (D1 2 bh ?_));refine PD 0 ?_;refine FD 1 0 iI aP ?_;refine LR 2 Y3 (kc m rfl) ?_;refine FD 5 182 iI bc ?_;refine ta 6 rfl (aM (vs:=ints m.view.flat) rfl eE rfl bc rfl (λ_ h=>h.2.1) (am m.view) (NY m 0 rfl (by decide) (whole (am m.view)))) ?_;refine AL 3 ?_;refine aU (cells:=#[(.int .i64 (m.kind))]) (aa rfl) rfl rfl rfl jZ qO rfl rfl rfl (by as_aux_lemma=>kernel_rfl) (λb70=>EN (AL 4 ?_));refine CQ nj (dE b4 (.slice none 0 0) ([]) (.slice (some ⟨b70,0,none⟩) (1) (1)) [m.kind] (by simp)) (SM [2,1]) (dx 0 rfl rfl rfl rfl) λvR HR hR=>?_
 obtain⟨u1,rfl,rfl⟩:=hR;refine EN (AL 7 ?_);refine CR Kk (qp b4 u1 (bf [m.kind]) m.view (by(have:=aT [m.kind]);simp only[BallotT.flat,ViewT.flat,ChangeT.flat,ax,aC,aA,aj]at*;omega)) ID λvR HR hR=>?_
 obtain⟨u2,rfl,rfl⟩:=hR;refine EN (DN (af (ac J3 (sr λ_ J16=>PS ?_))));refine CR qJ (ec b4 u2 (bf [m.kind]++bf m.view.flat) (by(have:=aT [m.kind]);(have:=aT (m.view.flat));simp only[BallotT.flat,ViewT.flat,ChangeT.flat,ax,aC,aA,aj]at*;omega)) ID λvR HR hR=>?_
 obtain⟨_,rfl,rfl⟩:=hR;revert vR;intro u3;refine PS ?_;refine nx J16 (ai (WK [2] (au rfl rfl ?_)));exact⟨_,rfl,congrArg (λb=>[dK u3 b 5]) (show(bf [m.kind]++bf m.view.flat)=jG m by simp[jG,e6,ff,bf, *])⟩;refine PS ?_;refine nx J15 (CN (aQ (af (ac J3 (sr λ_ J17=>PS ?_)))));refine CR qJ (ec b4 (.slice none 0 0) ([]) (by simp)) (SM [1,0]) λvR HR hR=>?_
 obtain⟨_,rfl,rfl⟩:=hR;revert vR;intro u1;refine PS ?_;refine nx J17 (ai (WK [2] (au rfl rfl ?_)));exact⟨_,rfl,congrArg (λb=>[dK u1 b 5]) (show([]:List UInt8)=jG m by simp[jG,e6,ff,bf, *])⟩
open Dsk Wal
theorem pX(who:Int)(hm:cF who=true):DT 34 #[.int .i64 who] T0 [] (c9 (λr' H=>∃u,r'=u∧H=[own u 2 [.int .i64 ((who+1)%5), .int .i64 ((who+2)%5)] 3 1])):=by
 have:=o6 who;rw[show gE who=[(who+1)%5,(who+2)%5]by rw[gE,if_pos hm]]at this;exact this
theorem Cz(r:Nat)(x:RepT)(op err val:Int)(rs:List ReplyT)(hrs:rs.length≤1000000):
 DT 97 #[(.pointer (some ⟨r,0,none⟩)),(.int .i64 (op)),(.int .i64 (err)),(.int .i64 (val))] T0 [ag r (RepT.cells x) 123,own x.replies ((rs).length) (ints (List.flatMap ReplyT.flat (rs))) 37 3] (c9 (λ_ H=>∃v',v'.oneCell'=true∧H=[ag r (RepT.cells {x with replies:=v'}) 123,own v' (rs++[ReplyT.mk op err val]).length (ints (List.flatMap ReplyT.flat (rs++[ReplyT.mk op err val]))) 37 3])):=by
 refine BD 21 Tryz.func97 rfl rfl rfl λw0 F hF=>ad (P3 ?_)
 refine FA 1942 bg w7 ?_;refine LT 0 Ih x.replies ?_ (hc:=by exact RepT.at_replies x rfl);refine P3 ?_;refine tp (xE (cs:=ints (ReplyT.mk op err val).flat) (segs:=[[Value.int .i64 0],[Value.int .i64 0],[Value.int .i64 0]]) (res:=[[Value.int .i64 op],[Value.int .i64 err],[Value.int .i64 val]]) (parts:=[(0,[Value.int .i64 op]),(1,[Value.int .i64 err]),(2,[Value.int .i64 val])]) rfl rfl Tryz.underlying37 (by kernel_rfl) (by kernel_rfl) rfl (e5 rfl rfl (e5 rfl rfl (e5 rfl rfl ll))) (ReplyT.eq (ReplyT.mk op err val)).symm) ?_;refine aU (cells:=(ints (ReplyT.mk op err val).flat).toArray) (aa rfl) rfl rfl rfl Ih FZ rfl rfl rfl (mc (ReplyT.len (ReplyT.mk op err val)) (by simp)) (λb17=>?_);change TL _ _ _ _ _ _ _ _ _ [ag b17 (ints (ReplyT.mk op err val).flat) 37,ag r (RepT.cells x) 123,own x.replies ((rs).length) (ints (List.flatMap ReplyT.flat (rs))) 37 3];refine cE (k:=2) (news:=ints (ReplyT.mk op err val).flat) (nn':=(rs++[ReplyT.mk op err val]).length) (xs':=ints (List.flatMap ReplyT.flat (rs++[ReplyT.mk op err val]))) (aa rfl) rfl rfl rfl Ih FZ rfl rfl rfl rfl rfl rfl (λ_ _=>jl (ReplyT.len _) (RO 0) (by rw[a8,hO])) (bu _) (by simp only[maxLen];omega) (by omega) (by simp) (by simp[ints]) (λv18 ov18=>PS ?_);refine FA 1942 bg w7 ?_;exact bv (i:=1) (aa rfl) rfl rfl rfl rfl ov18 w7 rfl rfl (LB (cK _)) (RepT.set_replies x rfl _) rfl (ap (WK [1,1] (bz rfl ⟨_,ov18,rfl⟩)))
theorem Fm(r:Nat)(x:RepT):
 DT 33 #[(.pointer (some ⟨r,0,none⟩))] T0 [ag r (RepT.cells x) 123] (RI (.agg (ints x.own.flat).toArray) [ag r (RepT.cells x) 123]):=by
 refine BD 7 Tryz.func33 rfl rfl rfl λw0 F hF=>sr λ_ J1=>XZ tk (ints RowT.zero.flat) λb2=>?_
 refine nx J1 (sr λ_ J2=>P2 ?_);refine FA 9 bg aZ ?_;refine LV 1 dN aZ ah BZ (y:=x.own) ?_;refine SW 0 aZ ah ?_;refine nx J2 (ai (RC 0 [1] dN aZ (ah _) ?_));exact⟨rfl,rfl⟩
theorem CD(r:Nat)(x:RepT):
 DT 21 #[(.pointer (some ⟨r,0,none⟩))] T0 [ag r (RepT.cells x) 123] (RI (.agg (ints x.view.flat).toArray) [ag r (RepT.cells x) 123]):=by
 refine BD 7 Tryz.func21 rfl rfl rfl λw0 F hF=>sr λ_ J1=>XZ re (ints ViewT.zero.flat) λb2=>?_
 refine nx J1 (sr λ_ J2=>P2 ?_);refine FA 2 bg bc ?_;refine LV 1 eE bc am cJ (y:=x.view) ?_;refine SW 0 bc am ?_;refine nx J2 (ai (RC 0 [1] eE bc (am _) ?_));exact⟨rfl,rfl⟩
theorem vD(r:Nat)(x:RepT)(who:Int):
 DT 42 #[(.pointer (some ⟨r,0,none⟩)),(.int .i64 (who))] T0 [ag r (RepT.cells x) 123] (RI (.tuple #[.agg (ints (c7 x.mirror who).flat).toArray, .bool (e8 x.mirror who)]) [ag r (RepT.cells x) 123]):=by
 refine BD 16 Tryz.func42 rfl rfl rfl λw0 F hF=>sr λ_ J1=>XZ tk (ints RowT.zero.flat) λb4=>?_
 refine PS ?_;refine nx J1 (ab λ_ J2=>D0 bh ?_);refine PD 0 ?_;refine PD 1 ?_;refine FD 2 183 bg nF ?_;refine PD 3 ?_;refine PD 5 ?_;refine PD 6 ?_;refine FD 7 183 bg nF ?_;refine PD 8 ?_;refine AL 4 ?_;refine CE G2 (lu r 183 123 (λu=>RepT.cells {x with mirror:=u}) (dR x) x.mirror who) (SM [1]) ?_;refine EN (AL 9 ?_);refine CE Ko (mJ r 183 123 (λu=>RepT.cells {x with mirror:=u}) (dR x) x.mirror who) ID ?_;refine EN (AL 10 ?_);refine SW 1 aZ ah ?_;refine EN (PD 11 ?_);refine DN (ac J2 (ai (RT 1 [0] dN aZ (ah _) ?_)));exact⟨rfl,rfl⟩
theorem y7(r:Nat)(x:RepT)(rs:List ReplyT)(hrs:rs.length≤1000000):
 DT 19 #[(.pointer (some ⟨r,0,none⟩))] T0 [ag r (RepT.cells x) 123,own x.replies ((rs).length) (ints (List.flatMap ReplyT.flat (rs))) 37 3] (c9 (λr' H=>∃u,r'=u∧H=[ag r (RepT.cells x) 123,own x.replies rs.length (ints (List.flatMap ReplyT.flat rs)) 37 3,own u rs.length (ints (List.flatMap ReplyT.flat rs)) 37 3])):=by
 refine BD 8 Tryz.func19 rfl rfl rfl λw0 F hF=>sr λ_ J1=>ML 37 3 (λ_=>PS ?_)
 refine nx J1 (sr λ_ J2=>P2 ?_);refine FA 1942 bg w7 ?_;refine LT 1 Ih x.replies ?_ (hc:=by exact RepT.at_replies x rfl);refine cE (k:=0) (news:=ints (List.flatMap ReplyT.flat rs)) (nn':=rs.length) (xs':=ints (List.flatMap ReplyT.flat rs)) (aa rfl) rfl rfl rfl Ih FZ rfl rfl rfl rfl rfl rfl (λ_ s=>Oc 2 rfl rfl s) (bu _) (by simp only[maxLen];omega) (by omega) (by simp) (by simp) (λv7 ov7=>PS ?_);exact nx J2 (ai (WK [1,1,0] (au rfl rfl ⟨_,rfl,rfl⟩)))
end Go.Proofs.YtjblgopghhgflaaGreat
end

section
namespace Api
open Go Leg Codec Dsk Wal
def jW(w:Int)(x:RowT):RecT:= {RecT.zero with kind:=1,whose:=w,row:=x}
def jg(w:Int):RecT:= {RecT.zero with kind:=2,whose:=w}
def kU(v:ViewT):RecT:= {RecT.zero with kind:=5,view:=v}
def rZ(v:Int):MsgT:= {MsgT.zero with kind:=1,version:=v}
def gL(w:Int)(x:RowT):MsgT:= {MsgT.zero with kind:=9,whose:=w,row:=x}
section
variable {x:RepT} {from' w:Int} {y:RowT} {recs:List (List UInt8)}
end
section
variable {x:RepT} {from' w:Int} {v:ViewT} {recs:List (List UInt8)}
end
end Api
end

section
namespace Go.Proofs.YtjblgopghhgflaaGreat
open Go Leg Codec Api Dsk Wal
theorem Fv(r:Nat)(x:RepT)(o:OpT):
 DT 96 #[(.pointer (some ⟨r,0,none⟩)),(.agg (ints o.flat).toArray)] T0 [ag r (RepT.cells x) 123] (RI (.tuple #[.agg (ints (j6 x o).1.flat).toArray, .int .i64 (j6 x o).2.1, .int .i64 (j6 x o).2.2]) [ag r (RepT.cells x) 123]):=by
 refine BD 121 Tryz.func96 rfl rfl rfl λw0 F hF=>sr λ_ J1=>XY (ints o.flat) λb3=>?_
 refine XZ tk (ints RowT.zero.flat) λb4=>?_
 refine P2 ?_;refine nx J1 (ab λ_ J2=>ab λ_ J3=>D1 2 bh ?_);refine PD 0 ?_;refine PD 1 ?_;refine FD 2 2 bg bc ?_;refine ta 3 rfl (aM (vs:=ints x.view.flat) rfl eE rfl bc rfl (λ_ h=>h.2.1) (am x.view) (fL x 0 rfl (by decide) (whole (am x.view)))) ?_;refine PD 4 ?_;refine PD 5 ?_;refine FD 6 0 bg aP ?_;refine LR 7 Y3 (cx x rfl) ?_;refine AL 8 ?_;refine CE pD (dv x.view x.id) ID ?_;refine aW ?_ ?_<;>intro h17;refine EN (PD 9 ?_);refine DN (ac J3 (CN (qx J2 (ab λ_ J4=>sr λ_ J5=>FA 3 fz aP ?_))));refine LU 1 Y3 (oV o rfl) ?_;refine PS ?_;refine an ?_ ?_<;>intro h22;have hkb:mL o.key=false:=decide_eq_false (by omega);refine PS ?_
 iterate 3 refine UT ?_
 refine PS ?_;refine nx J5 (CY (sr λ_ J6=>BV ((ints RowT.zero.flat).toArray) ?_));refine SW 0 aZ ah ?_;refine P2 ?_;refine nx J6 (ai (ae (RU 0 [2] dN aZ (ah _) ?_)));exact⟨by simp[j6,gM, *],rfl⟩;refine PS ?_;refine FA 3 fz aP ?_;refine LU 1 Y3 (oV o rfl) ?_;refine PS ?_;refine an ?_ ?_<;>intro h26;have hkb:mL o.key=false:=decide_eq_false (by omega);refine PS ?_;refine nx J5 (CY (sr λ_ J7=>BV ((ints RowT.zero.flat).toArray) ?_));refine SW 0 aZ ah ?_;refine P2 ?_;refine nx J7 (ai (ae (RU 0 [2] dN aZ (ah _) ?_)));exact⟨by simp[j6,gM, *],rfl⟩;have hkb:mL o.key=true:=decide_eq_true (by omega);refine PS ?_;refine nx J5 (CN (qx J4 (ab λ_ J8=>sr λ_ J9=>FA 0 fz aP ?_)));refine LU 1 Y3 (cS o rfl) ?_;refine PS ?_;refine an ?_ ?_<;>intro h31;refine nx J9 (CY (ab λ_ J10=>D1 1 bh ?_));refine ta 0 rfl (jL (cells:=(ints RowT.zero.flat).toArray) rfl rfl (by as_aux_lemma=>kernel_rfl)) ?_;refine PD 1 ?_;refine PD 2 ?_;refine FD 3 1068 bg u6 ?_;refine FD 4 3 fz aP ?_;refine LR 5 Y3 (oV o rfl) ?_;refine AL 6 ?_;refine CE LI (pO r 1068 123 (λu=>RepT.cells {x with book:=u}) (gv x) x.book o.key) (SM [2]) ?_;refine EN (AL 7 ?_);refine SW 1 aZ ah ?_;refine EN (PD 8 ?_);refine PD 9 ?_;refine DN (ac J10 (ai (ae (RU 1 [0] dN aZ (ah _) ?_))));exact⟨by simp[j6,gM, *],rfl⟩;refine nx J9 (CN (qx J8 (ab λ_ J11=>sr λ_ J12=>P2 ?_)));refine FA 1938 bg ka ?_;refine LU 2 Y4 (xB x rfl) ?_;refine aW ?_ ?_<;>intro h42
 refine nx J12 (CY (sr λ_ J13=>BV ((ints RowT.zero.flat).toArray) ?_));refine SW 0 aZ ah ?_;refine P2 ?_;refine nx J13 (ai (ae (RU 0 [2] dN aZ (ah _) ?_)));exact⟨by simp[j6,gM, *],rfl⟩;refine nx J12 (CN (qx J11 (sr λ_ J14=>XZ tk (ints RowT.zero.flat) λb7=>?_)));refine nx J14 (sr λ_ J15=>PS ?_);refine nx J15 (ab λ_ J16=>sr λ_ J17=>FA 0 fz aP ?_);refine LU 2 Y3 (cS o rfl) ?_;refine nx J17 (aq (sr λ_ J18=>PS ?_));refine an ?_ ?_<;>intro h47;refine PS ?_;refine nx J18 (CY (D2 3 2 bh ?_));refine PD 0 ?_;refine PD 1 ?_;refine FD 2 9 bg aZ ?_;refine ta 3 rfl (aM (vs:=ints x.own.flat) rfl dN rfl aZ rfl (λ_ h=>h.2.1) (ah x.own) (xz x 0 rfl (by decide) (whole (ah x.own)))) ?_;refine FD 4 3 fz aP ?_;refine LR 5 Y3 (oV o rfl) ?_;refine FD 6 4 fz aP ?_;refine LR 7 Y3 (wS o rfl) ?_;refine AL 8 ?_;refine CE Mp (AT x.own o.key o.n) ID ?_;refine EN (PD 9 ?_);refine PD 10 ?_;refine PD 11 ?_;refine AL 12 ?_;refine SW 0 aZ ah ?_;refine EN (PD 13 ?_);refine DN (af (ac J16 (ab λ_ J19=>sr λ_ J20=>P2 ?_)));refine an ?_ ?_<;>intro h98;refine nx J20 (CY (sr λ_ J21=>BV ((ints RowT.zero.flat).toArray) ?_));refine PS ?_;refine SW 1 aZ ah ?_;refine P2 ?_;refine nx J21 (ai (ae (RU 1 [3] dN aZ (ah _) ?_)));exact⟨by simp[j6,gM, *],rfl⟩;refine nx J20 (CN (qx J19 (ab λ_ J22=>ab λ_ J23=>D2 2 3 bh ?_)));refine FD 0 0 fz aP ?_;refine LR 1 Y3 (cS o rfl) ?_;refine PD 2 ?_;refine gR ?_ ?_<;>intro h103
 · exact absurd h47 h103
 refine PD 3 ?_;refine NT 4 ?_;refine NT 5 ?_;refine NT 6 ?_;refine NT 7 ?_;refine NT 8 ?_;refine NT 9 ?_;refine NT 10 ?_;refine NT 11 ?_;refine NT 12 ?_;refine NT 13 ?_;refine NT 14 ?_;refine NT 15 ?_;refine NT 16 ?_;refine PD 17 ?_;refine DN (ac J23 (CN (qx J22 (sr λ_ J24=>LW 0 dN aZ ah ?_))));refine SW 1 aZ ah ?_;refine P2 ?_;refine nx J24 (ai (RU 1 [3] dN aZ (ah _) ?_));exact⟨by simp[j6,gM, *],rfl⟩;refine PS ?_;refine nx J18 (CN (sr λ_ J25=>PS ?_));refine an ?_ ?_<;>intro h61;refine PS ?_;refine nx J25 (CY (D2 3 2 bh ?_));refine PD 0 ?_;refine PD 1 ?_;refine FD 2 9 bg aZ ?_;refine ta 3 rfl (aM (vs:=ints x.own.flat) rfl dN rfl aZ rfl (λ_ h=>h.2.1) (ah x.own) (xz x 0 rfl (by decide) (whole (ah x.own)))) ?_;refine FD 4 3 fz aP ?_;refine LR 5 Y3 (oV o rfl) ?_;refine FD 6 4 fz aP ?_;refine LR 7 Y3 (wS o rfl) ?_;refine AL 8 ?_;refine CE Mo (AU x.own o.key o.n) ID ?_;refine EN (PD 9 ?_);refine PD 10 ?_;refine PD 11 ?_;refine AL 12 ?_;refine SW 0 aZ ah ?_;refine EN (PD 13 ?_);refine DN (af (ac J16 (ab λ_ J26=>sr λ_ J27=>P2 ?_)));refine an ?_ ?_<;>intro h98;refine nx J27 (CY (sr λ_ J28=>BV ((ints RowT.zero.flat).toArray) ?_));refine PS ?_;refine SW 1 aZ ah ?_;refine P2 ?_;refine nx J28 (ai (ae (RU 1 [3] dN aZ (ah _) ?_)));exact⟨by simp[j6,gM, *],rfl⟩;refine nx J27 (CN (qx J26 (ab λ_ J29=>ab λ_ J30=>D2 2 3 bh ?_)));refine FD 0 0 fz aP ?_;refine LR 1 Y3 (cS o rfl) ?_;refine PD 2 ?_;refine gR ?_ ?_<;>intro h103;refine PD 3 ?_
 refine PD 4 ?_;refine PD 5 ?_;refine FD 6 1068 bg u6 ?_;refine PD 7 ?_;refine PD 8 ?_;refine FD 9 0 bg aP ?_;refine LR 10 Y3 (cx x rfl) ?_;refine FD 11 3 fz aP ?_;refine LR 12 Y3 (oV o rfl) ?_;refine FD 14 4 fz aP ?_;refine LR 15 Y3 (wS o rfl) ?_;refine AL 13 ?_;refine CE Lv (oL r 1068 123 (λu=>RepT.cells {x with book:=u}) (gv x) x.book x.id o.key) (SM [3]) ?_;refine EN (PD 16 ?_);refine gR ?_ ?_<;>intro h117;refine PD 17 ?_;refine DN (ac J30 (CY (sr λ_ J31=>BV ((ints RowT.zero.flat).toArray) ?_)));refine SW 2 aZ ah ?_;refine P2 ?_;refine nx J31 (ai (ae (RU 2 [0] dN aZ (ah _) ?_)));exact⟨by simp[j6,gM, *],rfl⟩;refine PD 17 ?_;refine DN (ac J30 (CN (qx J29 (sr λ_ J32=>LW 1 dN aZ ah ?_))));refine SW 2 aZ ah ?_;refine P2 ?_;refine nx J32 (ai (RU 2 [0] dN aZ (ah _) ?_));exact⟨by simp[j6,gM, *],rfl⟩
 · exact absurd h47 h103
 refine PS ?_;refine nx J25 (CN (sr λ_ J33=>PS ?_));refine an ?_ ?_<;>intro h75;refine PS ?_;refine nx J33 (CY (ab λ_ J34=>D2 2 3 bh ?_));refine FD 0 2 fz aP ?_;refine LR 1 Y3 (ig o rfl) ?_;refine PD 2 ?_;refine PD 3 ?_;refine FD 4 0 bg aP ?_;refine LR 5 Y3 (cx x rfl) ?_;refine PD 6 ?_;refine gR ?_ ?_<;>intro h82;refine DN (ac J34 (CY (D2 3 2 bh ?_)));refine PD 0 ?_;refine PD 1 ?_;refine FD 2 9 bg aZ ?_;refine ta 3 rfl (aM (vs:=ints x.own.flat) rfl dN rfl aZ rfl (λ_ h=>h.2.1) (ah x.own) (xz x 0 rfl (by decide) (whole (ah x.own)))) ?_;refine FD 4 3 fz aP ?_;refine LR 5 Y3 (oV o rfl) ?_;refine FD 6 4 fz aP ?_;refine LR 7 Y3 (wS o rfl) ?_;refine FD 8 2 fz aP ?_;refine LR 9 Y3 (ig o rfl) ?_;refine AL 10 ?_;refine CE Mn (y5 x.own o.key o.n o.to') ID ?_;refine EN (PD 11 ?_);refine PD 12 ?_;refine PD 13 ?_;refine AL 14 ?_;refine SW 0 aZ ah ?_;refine EN (PD 15 ?_);refine DN (af (ac J16 (ab λ_ J35=>sr λ_ J36=>P2 ?_)));refine an ?_ ?_<;>intro h98;refine nx J36 (CY (sr λ_ J37=>BV ((ints RowT.zero.flat).toArray) ?_));refine PS ?_;refine SW 1 aZ ah ?_;refine P2 ?_;refine nx J37 (ai (ae (RU 1 [3] dN aZ (ah _) ?_)));exact⟨by simp[j6,gM, *],rfl⟩;refine nx J36 (CN (qx J35 (ab λ_ J38=>ab λ_ J39=>D2 2 3 bh ?_)));refine FD 0 0 fz aP ?_;refine LR 1 Y3 (cS o rfl) ?_;refine PD 2 ?_;refine gR ?_ ?_<;>intro h103;refine PD 3 ?_;refine PD 4 ?_;refine PD 5 ?_;refine FD 6 1068 bg u6 ?_;refine PD 7 ?_;refine PD 8 ?_;refine FD 9 0 bg aP ?_
 refine LR 10 Y3 (cx x rfl) ?_;refine FD 11 3 fz aP ?_;refine LR 12 Y3 (oV o rfl) ?_;refine FD 14 4 fz aP ?_;refine LR 15 Y3 (wS o rfl) ?_;refine AL 13 ?_;refine CE Lv (oL r 1068 123 (λu=>RepT.cells {x with book:=u}) (gv x) x.book x.id o.key) (SM [3]) ?_;refine EN (PD 16 ?_);refine gR ?_ ?_<;>intro h117;refine PD 17 ?_;refine DN (ac J39 (CY (sr λ_ J40=>BV ((ints RowT.zero.flat).toArray) ?_)));refine SW 2 aZ ah ?_;refine P2 ?_;refine nx J40 (ai (ae (RU 2 [0] dN aZ (ah _) ?_)));exact⟨by simp[j6,gM, *],rfl⟩;refine PD 17 ?_;refine DN (ac J39 (CN (qx J38 (sr λ_ J41=>LW 1 dN aZ ah ?_))));refine SW 2 aZ ah ?_;refine P2 ?_;refine nx J41 (ai (RU 2 [0] dN aZ (ah _) ?_));exact⟨by simp[j6,gM, *],rfl⟩
 · exact absurd h47 h103
 refine DN (ac J34 (CN (aQ (af (ac J16 (ab λ_ J42=>sr λ_ J43=>P2 ?_))))));refine nx J43 (CY (sr λ_ J44=>BV ((ints RowT.zero.flat).toArray) ?_));refine PS ?_;refine SW 1 aZ ah ?_;refine P2 ?_;refine nx J44 (ai (ae (RU 1 [3] dN aZ (ah _) ?_)));exact⟨by simp[j6,gM, *],rfl⟩;refine PS ?_;refine nx J33 (CN (aQ (af (ac J16 (ab λ_ J45=>sr λ_ J46=>P2 ?_)))));refine nx J46 (CY (sr λ_ J47=>BV ((ints RowT.zero.flat).toArray) ?_));refine PS ?_;refine SW 1 aZ ah ?_;refine P2 ?_;refine nx J47 (ai (ae (RU 1 [3] dN aZ (ah _) ?_)));exact⟨by simp[j6,gM, *],rfl⟩;refine EN (PD 9 ?_);refine DN (ac J3 (CY (sr λ_ J48=>BV ((ints RowT.zero.flat).toArray) ?_)));refine SW 0 aZ ah ?_;refine P2 ?_;refine nx J48 (ai (ae (RU 0 [2] dN aZ (ah _) ?_)));exact⟨by simp[j6,gM, *],rfl⟩
theorem C8(x:Value)(l:List Int)(v:Int)(hl:l.length≤1000000):
    DT 179 #[x,(.int .i64 (v))] (IsI .i64 x l) [] (c9 (λr' H=>∃n:Int,r'= .int .i64 n∧(decide (n≥0)=true↔v∈l)∧H=[])):=by
 refine BD 19 Tryz.func179 rfl rfl rfl λw0 F hF=>sr λ_ J1=>PS ?_
 refine nx J1 (ab λ_ J2=>sr λ_ J3=>PS ?_);refine tp (dX rfl jZ rfl hF.len) ?_;refine PS ?_;refine nx J3 (aq ?_)
 refine bn (α:=(Nat)) (λk=>k≤l.length∧∀(j:Nat),j<k→l.getD j 0≠v) (λk=>[(0,x),(1,(.int .i64 (v))),(7,(.int .i64 (((l.length:Nat):Int)))),(8,(.int .i64 (((k:Nat):Int))))]) (λk=>[]) (λk=>l.length-k) 0
     ⟨aN _,λj h=>absurd h (by omega)⟩ SB
     (λ_ s=>s) (λk hinv=>?_)
 obtain⟨hk,hv⟩:=hinv;refine sr λ_ J4=>PS ?_
 refine an ?_ ?_<;>intro h9;obtain⟨b_a,off_a,cap_a,cs_a,T_a,z_a,hv_a,hb_a,hcs_a,hcp_a⟩:=IsI.at hF (j:=k) (by omega);refine nx J4 (ab λ_ J5=>CY (qx J5 (ab λ_ J6=>aq (sr λ_ J7=>P2 ?_))));refine nx J7 (sr λ_ J8=>P3 ?_);refine tp (bS (r:=off_a+k) hv_a rfl jZ aP rfl rfl (by omega) (by omega) (by omega)) ?_;refine tp (cX (v:=(.int .i64 ((l.getD k 0)))) rfl Y3 rfl rfl (B6 hb_a (λ_ h=>dT h)) hcs_a) ?_;refine PS ?_;refine an ?_ ?_<;>intro h16;refine nx J8 (CY (sr λ_ J9=>P2 ?_));refine nx J9 (ai (aH (ae (ae (aH (ae (WK [] (au rfl rfl ?_))))))));exact⟨((k:Nat):Int),rfl,by rw[decide_eq_true_iff];exact⟨λ_=>by rw[h16,List.getD_eq_getElem?_getD,List.getElem?_eq_getElem (by omega)];exact eY _,λ_=>by omega⟩,rfl⟩;refine nx J8 (CN (aQ (af (ac J6 (ad (AD ?_))))));refine PS ?_;refine ap ?_
 exact aI ((k+1):(Nat)) ⟨by omega,λj hj=>by
        by_cases q:j=k
        · subst q;exact λe=>h16 e.symm
        · exact hv j (by omega)⟩ (by show l.length- (k+1)<l.length-k;omega)
   SB
   (λ_ s=>s)
 refine nx J4 (ab λ_ J10=>CN (aS (ay (ay (bj (ac J2 (sr λ_ J11=>PS ?_)))))));refine nx J11 (ai (WK [] (au rfl rfl ?_)))
 exact⟨-1,rfl,by
      rw[decide_eq_true_iff];constructor
      · intro h;omega
      · intro h
        obtain⟨j,hj,e⟩:=fa h;have:=hv j (by omega);rw[List.getD_eq_getElem?_getD,List.getElem?_eq_getElem hj]at this
        exact absurd e this,rfl⟩
theorem qm(x:Value)(l:List Int)(v:Int)(hl:l.length≤1000000):
 DT 168 #[x,(.int .i64 (v))] (IsI .i64 x l) [] (RI (.bool (decide (v∈l))) []):=by
 refine BD 9 Tryz.func168 rfl rfl rfl λw0 F hF=>sr λ_ J1=>PS ?_
 refine nx J1 (sr λ_ J2=>P2 ?_);refine CQ L0 (C8 x l v hl) ID (λ_ d _=>IsI.more hF d) λvR HR hR=>?_
 obtain⟨n,rfl,hn,rfl⟩:=hR;refine P2 ?_;refine nx J2 (ai (WK [] (au rfl rfl ?_)));exact⟨congrArg Value.bool (by rw[yC,hn,decide_eq_true_iff]),rfl⟩
end Go.Proofs.YtjblgopghhgflaaGreat
end

section
namespace Api
open Go Leg Codec
theorem Ad{n:Int}(h:(Lit.int .i64 n).wf=true): -9223372036854775808≤n∧n<9223372036854775808:=by
 have m1:IntKind.i64.min= -9223372036854775808:=by decide
 have m2:IntKind.i64.max=9223372036854775807:=by decide
 simp only[Lit.wf,m1,m2,av,decide_eq_true_eq]at h;omega
theorem ri{n:Int}{l:List Int}(h:0≤n∧n<9223372036854775808)(hl:WF l):WF (n::l):=λm hm=>by
 rcases cn.1 hm with rfl|hm
 · exact rh h
 · exact hl m hm
theorem lK{a b:List Int}(ha:WF a)(hb:WF b):WF (a++b):=λm hm=>by
 rcases ez.1 hm with hm|hm
 · exact ha m hm
 · exact hb m hm
theorem Gs:WF []:=λ_ h=>by cases h
theorem OkB.wf{b:BallotT}(h:OkB b):WF b.flat:=ri h.1 (ri ⟨h.2.1,by have:=h.2.2;omega⟩ Gs)
theorem OkC.wf{c:ChangeT}(h:OkC c):WF c.flat:=ri ⟨h.1.1,by have:=h.1.2;omega⟩ (ri ⟨h.2.1.1,by have:=h.2.1.2;omega⟩ (ri ⟨h.2.2.1,by have:=h.2.2.2;omega⟩ Gs))
theorem M9:Nm 0:=⟨by decide,by decide⟩
theorem sh(m:MsgT):(dU m).length≤3000:=by
 have h1:=g8 m.row;have h2:=aT m.ballot.flat;have h3:=aT m.had.flat;have h4:=aT m.change.flat;have h5:=aT m.view.flat;have h6:=aT [m.kind,m.whose];have h7:=aT [m.kind,m.version];have h8:=aT [m.kind,m.epoch];have h9:=aT [m.kind];simp only[BallotT.flat,ChangeT.flat,ViewT.flat,ax,aC,aA]at h2 h3 h4 h5 h6 h7 h8 h9;unfold dU;split
 · simp only[aj];omega
 split
 · omega
 split
 · simp only[aj,BallotT.flat];omega
 split
 · simp only[aj,BallotT.flat,ChangeT.flat];omega
 split
 · simp only[aj,BallotT.flat,ChangeT.flat];omega
 split
 · simp only[aj,ViewT.flat];omega
 split
 · simp only[aj,ViewT.flat];omega
 · simp
theorem AW:gz RowT.zero=true:=by decide+kernel
theorem Iy{m:RecT}{bs r:List UInt8}(h:dd bs=some ((m,true),r)):gz m.row=true:=by
 obtain⟨k,r1,_,h⟩:=bD h;split at h
 · obtain⟨_,_,_,h⟩:=bD h
   obtain⟨e,_⟩:=gW h;injection e with e1 e2;subst e1;exact e2
 split at h
 · obtain⟨_,_,_,h⟩:=bD h
   obtain⟨_,_,_,h⟩:=bD h;obtain⟨e,_⟩:=gW h;injection e with e1 e2;subst e1;exact e2
 have fin: ∀{m':RecT} {g:Bool} {b r:List UInt8},pr (m',g) b=some ((m,true),r)→m'.row= .zero→gz m.row=true:=λh e=>by
  obtain⟨e',_⟩:=gW h;injection e' with e1 e2;subst e1;rw[e];exact AW
 split at h
 · obtain⟨_,_,_,h⟩:=bD h;exact fin h rfl
 split at h
 · obtain⟨_,_,_,h⟩:=bD h;obtain⟨_,_,_,h⟩:=bD h;exact fin h rfl
 split at h
 · obtain⟨_,_,_,h⟩:=bD h;obtain⟨_,_,_,h⟩:=bD h;obtain⟨_,_,_,h⟩:=bD h;exact fin h rfl
 split at h
 · obtain⟨_,_,_,h⟩:=bD h;exact fin h rfl
 · exact fin h rfl
theorem HG(bs:List UInt8):(∃m,nq bs=(m,0)∧bs=jG m∧gz m.row=true∧WF m.row.flat)∨nq bs=(.zero,1):=by
 unfold nq;split
 · rename_i m h
   obtain⟨h1,_,_,_,h5⟩:=GR h;rw[bb]at h1;exact .inl ⟨m,rfl,h1,Iy h,h5.wf⟩
 · exact .inr rfl
open Dsk Wal
structure RcOk(m:RecT):Prop where
 dec:nq (jG m)=(m,0)
 wf:WF m.row.flat
 kind:m.kind≠3∧m.kind≠4
end Api
end

section
namespace Go.Proofs.YtjblgopghhgflaaGreat
open Go Leg Codec Api
theorem vA(ob:Nat)(ok:Bool):DoesD Tryz.prog 120 #[(.pointer (some ⟨ob,0,none⟩))] (.returning) (λ_=>True) [ag ob [(.bool (ok))] 4] (λe u' H=>e= .returned (.tuple #[])∧settle u'= .returning∧H=[ag ob [.bool ok] 4]):=by
 refine DoesD.recover2 (vs:=[(.pointer (some ⟨ob,0,none⟩))]) (n:=15) (u':= .returning) (rv:= .nilIface) Tryz.func120 rfl rfl rfl rfl rfl rfl rfl rfl rfl rfl rfl (λc0 cs hu=>by cases c0;simp only at hu;subst hu;rfl) (λw0 F c0 cs hF=>?_);refine ab (λK1 hK1=>?_);refine ab (λK2 hK2=>?_);refine ad ?_;refine dm (aa rfl) rfl rfl (cj rfl rfl) ?_;refine dm (aa rfl) rfl rfl (PV.nilNil rfl Tryz.underlying20 rfl) ?_;refine ap ?_;refine ac hK2 ?_;clear hK2;refine iG rfl ?_;refine ai ?_;refine ae ?_;clear hK1;refine aF (dh _) (λ_ s=>ak [0] rfl s) ?_;refine TE.retS0 rfl ?_;refine⟨rfl,rfl,?_⟩;rfl
theorem za(ob:Nat)(ok:Bool):DoesD Tryz.prog 120 #[(.pointer (some ⟨ob,0,none⟩))] (.panicking gZ) (λ_=>True) [ag ob [(.bool (ok))] 4] (λe u' H=>e= .returned (.tuple #[])∧settle u'= .returning∧H=[ag ob [.bool false] 4]):=by
 refine DoesD.recover2 (vs:=[(.pointer (some ⟨ob,0,none⟩))]) (n:=15) (u':= .panicking [{v:=(.iface 199 (.agg #[])),recovered:=true}]) (rv:=(.iface 199 (.agg #[]))) Tryz.func120 rfl rfl rfl rfl rfl rfl rfl rfl rfl rfl rfl (λc0 cs hu=>by cases c0;simp only at hu;subst hu;rfl) (λw0 F c0 cs hF=>?_);refine ab (λK1 hK1=>?_);refine ab (λK2 hK2=>?_);refine ad ?_;refine dm (aa rfl) rfl rfl (cj rfl rfl) ?_;refine dm (aa rfl) rfl rfl (PV.ifaceNil rfl Tryz.underlying20 rfl) ?_;refine ap ?_;refine ac hK2 ?_;clear hK2;refine sz rfl ?_;refine aQ ?_;refine ac hK1 ?_;clear hK1;refine ab (λK3 hK3=>?_);refine ab (λK4 hK4=>?_);refine ad ?_;refine dm (aa rfl) rfl rfl (cj rfl rfl) ?_;refine dm (aa rfl) rfl rfl (PV.assert rfl Gi rfl rfl) ?_;refine dm (aa rfl) rfl rfl (cj rfl rfl) ?_;refine dm (aa rfl) rfl rfl (lE (vs:=[.agg #[], .bool true]) rfl rfl rfl) ?_;refine dm (aa rfl) rfl rfl (lE (vs:=[.agg #[], .bool true]) rfl rfl rfl) ?_;refine lA (aa rfl) rfl rfl rfl Nb (λb2=>?_);change TL _ _ _ _ _ _ _ _ _ [ag b2 [] 199,ag ob [(.bool (ok))] 4];refine bF (vs:=[]) (i:=0) (H':=[ag b2 [] 199,ag ob [(.bool (ok))] 4]) (aa rfl) rfl rfl rfl rfl rfl Ld (by simp[Value.oneCell']) rfl rfl (IP rfl) rfl rfl ?_;refine dm (aa rfl) rfl rfl (oT rfl rfl) ?_;refine ap ?_;refine ac hK4 ?_;clear hK4;refine ab (λK5 hK5=>?_);refine ad ?_;refine dm (aa rfl) rfl rfl (cj rfl rfl) ?_;refine dm (aa rfl) rfl rfl (nY (r:=false) rfl rfl rfl) ?_;refine ap ?_
 refine ac hK5 ?_;clear hK5;refine sz rfl ?_;refine aQ ?_;refine ac hK3 ?_;clear hK3;refine ad ?_;refine bv (i:=1) (H':=[ag b2 [] 199,ag ob [(.bool false)] 4]) (aa rfl) rfl rfl rfl rfl rfl ka rfl rfl (lb rfl) rfl rfl ?_;refine ap ?_;refine aF (dh _) (λ_ s=>ak [1] rfl s) ?_;refine TE.endS0 rfl ?_;refine⟨rfl,rfl,?_⟩;exact rfl
theorem Fi{fid:Nat}{caps:List Value}{x:Value}{bs:List UInt8}{C G:HP}{A:List UInt8→HP}{R:Hl→Prop}(hR: ∀F,R F→IsB x bs F)(hmono: ∀F g,R F→Dj g F→R (jn g F))(hN:Named Tryz.prog fid)
 (hc: ∀rb,DT fid ([Value.pointer (some ⟨rb,0,none⟩)]++caps).toArray R [ag rb [x] 197,C] (uq (λ_ H=>∃x' r,H=[ag rb [x'] 197,A r]∧Tail x bs x' r) (λc H=>c=gZ∧∃x',H=[ag rb [x'] 197,G]))):
 DT 81 #[x, .func (.func fid) #[] caps.toArray] R [C] (c9 (λv H=>(∃r,v= .bool (decide (r=[]))∧H=[A r])∨(v= .bool false∧H=[G]))):=by
 refine Leg.Does.bodyD (vs:=[x, .func (.func fid) #[] caps.toArray]) (n:=21) Tryz.func81 rfl rfl rfl (λw0 F hF=>sr λ_ J1=>XA z4 λb4=>?_);refine nx J1 (sr λ_ J2=>PS ?_);refine tp (PV.buildOne rfl zT Nc rfl ni rfl (hR _ hF).one) ?_;refine XB λb8=>?_
 refine PS ?_;refine nx J2 (sr λ_ J3=>tp (N5 rfl rfl) ?_);refine TL.deferFn (aa rfl) rfl rfl rfl (nx J3 (ab λ_ J4=>sr λ_ J5=>PS ?_));refine tp (PV.funcNeqNil rfl Tryz.underlying141 rfl) ?_;refine nx J5 (CY (ad (P2 ?_)));refine TL.callPv (aa rfl) rfl rfl rfl rfl hN rfl (hc b8) (λ_ s=>az [0,1] rfl s) (KL hmono hF) (λcP HP hP=>?_) (λvR HR hR'=>?_);obtain⟨rfl,x',rfl⟩:=hP;refine aw ?_;intro a w fr sm m;refine qL (b:=b4) (e:=4) (A:=[ag b4 [(.bool false)] 4]) (B:=[ag b8 [x'] 197,G]) (H':=[G]) fr sm m (by simp) He (za b4 _) (λ_ s=>az [2] rfl s) (λ_ _ _=>trivial) rfl rfl Y4 rfl (λH1 h1=>?_);subst h1;refine⟨[.bool false], .bool false,dG 0 rfl rfl,rfl,λ_ s=>ak [2] rfl s,?_⟩;exact .inr ⟨rfl,rfl⟩;obtain⟨x',r,rfl,htl⟩:=hR';have hB:=htl F (hR _ hF);rcases hB with⟨rfl,rfl⟩| ⟨b,off,cap,cs,T,z,rfl,hB1,hB2,hB3,hB4⟩
 refine nx J4 (sr λ_ J6=>P2 ?_);refine FA 0 zT ni ?_;refine LA 0 gq ?_;refine tp (sA rfl gq rfl) ?_;refine PS ?_;refine S0 2 ka ?_;refine nx J6 (ai ?_);intro a w fr sm m;refine qL (b:=b4) (e:=4) (A:=[ag b4 [(.bool true)] 4]) (B:=[ag b8 [(.slice none 0 0)] 197,(A [])]) (H':=[(A [])]) fr sm m (by simp) He (vA b4 _) (λ_ s=>az [2] rfl s) (λ_ _ _=>trivial) rfl rfl Y4 rfl (λH1 h1=>?_);subst h1;refine⟨[.bool true], .bool true,dG 0 rfl rfl,rfl,λ_ s=>ak [2] rfl s,?_⟩;exact .inl ⟨[],rfl,rfl⟩;refine nx J4 (sr λ_ J7=>P2 ?_);refine FA 0 zT ni ?_;refine LA 0 gq ?_;refine tp (sA rfl gq rfl) ?_;refine PS ?_;refine S0 2 ka ?_;refine nx J7 (ai ?_);intro a w fr sm m;refine qL (b:=b4) (e:=4) (A:=[ag b4 [(.bool (decide (((r.length:Nat):Int)=0)))] 4]) (B:=[ag b8 [(.slice (some ⟨b,off,none⟩) (r.length) (cap))] 197,(A r)]) (H':=[(A r)]) fr sm m (by simp) He (vA b4 _) (λ_ s=>az [2] rfl s) (λ_ _ _=>trivial) rfl rfl Y4 rfl (λH1 h1=>?_);subst h1;refine⟨[.bool (decide (((r.length:Nat):Int)=0))], .bool (decide (((r.length:Nat):Int)=0)),dG 0 rfl rfl,rfl,λ_ s=>ak [2] rfl s,?_⟩;exact .inl ⟨r,by congr 1;rw[decide_eq_decide];cases r<;>simp<;>omega,rfl⟩
theorem xY{fid:Nat}{caps:List Value}{x:Value}{bs:List UInt8}{α β:Type}{C:List HP}{A:α→List HP}{G:β→List HP}{φ:α→List UInt8→Prop}{ψ:β→Prop}{R:Hl→Prop}(hR: ∀F,R F→IsB x bs F)(hmono: ∀F g,R F→Dj g F→R (jn g F))(hN:Named Tryz.prog fid)
 (hc: ∀rb,DT fid ([Value.pointer (some ⟨rb,0,none⟩)]++caps).toArray R (ag rb [x] 197::C) (uq (λ_ H=>∃x' r a,H=ag rb [x'] 197::A a∧Tail x bs x' r∧φ a r) (λc H=>c=gZ∧∃x' b,H=ag rb [x'] 197::G b∧ψ b))):
 DT 81 #[x, .func (.func fid) #[] caps.toArray] R C (c9 (λv H=>(∃r a,v= .bool (decide (r=[]))∧H=A a∧φ a r)∨(∃b,v= .bool false∧H=G b∧ψ b))):=by
 have h1:=Fi (C:=all C) (G:=λh=>∃b,ψ b∧bC (G b) h) (A:=λr h=>∃a,φ a r∧bC (A a) h) hR hmono hN λrb=>
  (hc rb).conv (post':=uq (λ_ H=>∃x' r,H=[ag rb [x'] 197,λh=>∃a,φ a r∧bC (A a) h]∧Tail x bs x' r) (λc H=>c=gZ∧∃x',H=[ag rb [x'] 197,λh=>∃b,ψ b∧bC (G b) h]))
   (λh s=>vg s λ_=>Jb)
   (λe H F w hp m=>by
    cases e with
    |returned v=>
     obtain⟨x',r,a,rfl,ht,hf⟩:=hp;exact⟨[ag rb [x'] 197,λh=>∃a,φ a r∧bC (A a) h],m.mono λh s=>vg s λh s=>qD ⟨a,hf,s⟩,x',r,rfl,ht⟩
    |panicked c=>
     obtain⟨hc,x',b,rfl,hf⟩:=hp;exact⟨[ag rb [x'] 197,λh=>∃b,ψ b∧bC (G b) h],m.mono λh s=>vg s λh s=>qD ⟨b,hf,s⟩,hc,x',rfl⟩
    |outgrown=>exact hp.elim)
 refine h1.conv (λh s=>It s) λe H F w hp m=>?_
 cases e with
 |returned v=>
  rcases hp with⟨r,hv,rfl⟩| ⟨hv,rfl⟩
  · obtain⟨h,d,e,g1,g2,d',rfl,⟨a,hf,s⟩,_⟩:=m
    exact⟨A a,⟨_,d,e,lh _ s d'⟩, .inl ⟨r,a,hv,rfl,hf⟩⟩
  · obtain⟨h,d,e,g1,g2,d',rfl,⟨b,hf,s⟩,_⟩:=m
    exact⟨G b,⟨_,d,e,lh _ s d'⟩, .inr ⟨b,hv,rfl,hf⟩⟩
 |panicked c=>exact hp.elim
 |outgrown=>exact hp.elim
theorem y9(rb:Nat)(v:Value)(bs:List UInt8):
 DT 142 #[(.pointer (some ⟨rb,0,none⟩))] (IsB v bs) [ag rb [v] 197] (nv 197 gZ (λmb:MsgT×Bool=> .tuple #[.agg (ints mb.1.flat).toArray, .bool mb.2]) cI v bs rb):=by
 refine BD 85 Tryz.func142 rfl rfl rfl λw0 F hF=>sr λ_ J1=>XZ l4 (ints MsgT.zero.flat) λb2=>?_
 refine PS ?_;refine nx J1 (sr λ_ J2=>PS ?_);refine CP iU (cH rb v bs (10)) (SM [1]) (λ_ d _=>(hF).more d) (λcP HP hP=>?_) (λvR HR hR=>?_);obtain⟨vP,rfl,rfl,hpP⟩:=hP;refine aw (WK [0] (aR ?_));exact⟨_,rfl,rfl,by simp[cI,bO hpP, *]⟩;obtain⟨a1,r1,v1,rfl,rfl,hp1,ht1⟩:=hR;have hf1:=ht1 _ hF;refine tp (kO MsgT.zero (MsgT.mk a1 0 RowT.zero 0 0 BallotT.zero BallotT.zero ChangeT.zero ViewT.zero) [(0,[Value.int .i64 a1])] a9 bo (g:=MsgT.sg)) ?_;refine XZ l4 (ints MsgT.zero.flat) λb4=>?_
 refine SW 0 bW aG ?_;refine nx J2 (ab λ_ J3=>sr λ_ J4=>FA 0 a9 aP ?_);refine LT 0 Y3 (.int .i64 (a1)) ?_ (hc:=by exact eL _ rfl);refine nx J4 (aq (ab λ_ J5=>eV (α:=Unit) (λ_u=>True) (λ_u=>[(0,(.pointer (some ⟨rb,0,none⟩))),(2,(.pointer (some ⟨b2,0,none⟩))),(3,(.bool false)),(4,(.pointer (some ⟨b4,0,none⟩))),(9,(.int .i64 (a1))),(10,(.bool ((e6 a1))))]) (λ_u=>[ag b4 (ints (MsgT.mk a1 0 RowT.zero 0 0 BallotT.zero BallotT.zero ChangeT.zero ViewT.zero).flat) 178,ag rb [v1] 197,ag b2 (ints MsgT.zero.flat) 178]) (λ_u hinv=>?_) (λtl5=>?_)));have _:=hinv;refine ac J5 (TC.cond rfl (λh10=>?_) (λh10=>?_));refine sr λ_ J6=>PS ?_
 refine CP iU (cH rb v1 r1 (5)) (SM [1]) (λ_ d _=>(hf1).more d) (λcP HP hP=>?_) (λvR HR hR=>?_);obtain⟨vP,rfl,rfl,hpP⟩:=hP;refine aw (aO (aw (WK [0] (aR ?_))));exact⟨_,rfl,rfl,by simp[cI,aD hp1,bO hpP,h10, *]⟩;obtain⟨a2,r2,v2,rfl,rfl,hp2,ht2⟩:=hR;have hf2:=ht2 _ hf1;refine FA 1 a9 aP ?_;refine SS 1 aP (aG _) (MsgT.set_whose _ rfl _) ?_;refine nx J6 (sr λ_ J7=>PS ?_);refine CP Hd (sU rb v2 r2) ID (λ_ d _=>(hf2).more d) (λcP HP hP=>?_) (λvR HR hR=>?_);obtain⟨vP,rfl,rfl,hpP⟩:=hP;refine aw (aO (aw (WK [0] (aR ?_))));exact⟨_,rfl,rfl,by simp[cI,aD hp1,aD hp2,bO hpP,h10, *]⟩;obtain⟨a3,r3,v3,rfl,rfl,hp3,ht3⟩:=hR;have hf3:=ht3 _ hf2;refine FA 2 a9 aZ ?_;refine SP 1 aZ ah aG MsgT.wp_row ?_;refine nx J7 (ab λ_ J8=>D1 1 bh ?_);refine LY 0 a9 bW aG ?_;refine FD 1 2 a9 aZ ?_;refine ta 2 rfl (aM (vs:=ints a3.flat) rfl dN rfl aZ rfl (λ_ h=>h.2.1) (ah a3) (lV (MsgT.mk a1 a2 a3 0 0 BallotT.zero BallotT.zero ChangeT.zero ViewT.zero) 0 rfl (by decide) (whole (ah a3)))) ?_;refine AL 3 ?_;refine CE FM (il a3 (y3 hp3)) ID ?_;refine EN (AL 4 ?_);refine SW 2 bW aG ?_;refine EN (PD 5 ?_);refine DN (ac J8 (ai (aH (ae (RT 2 [0] a9 bW (aG _) ?_)))));exact⟨((MsgT.mk a1 a2 a3 0 0 BallotT.zero BallotT.zero ChangeT.zero ViewT.zero),(gz a3)),_,_,rfl,rfl,by simp[cI,pr,aD hp1,aD hp2,aD hp3,h10,MsgT.zero,RecT.zero, *],(ht1.trans (ht2.trans ht3))⟩;refine sr λ_ J9=>PS ?_
 refine an ?_ ?_<;>intro h25;refine PS ?_;refine nx J9 (CY (ad (PS ?_)));refine CP pE (iS rb v1 r1) (SM [1]) (λ_ d _=>(hf1).more d) (λcP HP hP=>?_) (λvR HR hR=>?_);obtain⟨vP,rfl,rfl,hpP⟩:=hP;refine aO (aw (WK [0] (aR ?_)));exact⟨_,rfl,rfl,by simp[cI,e6,ff,aD hp1,bO hpP,h10,h25, *]⟩;obtain⟨a2,r2,v2,rfl,rfl,hp2,ht2⟩:=hR;have hf2:=ht2 _ hf1;refine FA 176 a9 aP ?_;refine SS 1 aP (aG _) (MsgT.set_version _ rfl _) ?_;refine ap (af (ac J3 (sr λ_ J10=>LW 1 a9 bW aG ?_)));refine SW 2 bW aG ?_;refine PS ?_;refine nx J10 (ai (RT 2 [0] a9 bW (aG _) ?_));exact⟨((MsgT.mk a1 0 RowT.zero a2 0 BallotT.zero BallotT.zero ChangeT.zero ViewT.zero),true),_,_,rfl,rfl,by simp[cI,e6,ff,pr,aD hp1,aD hp2,h10,h25,MsgT.zero,RecT.zero, *],(ht1.trans ht2)⟩;refine PS ?_;refine nx J9 (CN (ab λ_ J11=>eV (α:=Unit) (λ_u=>True) (λ_u=>[(0,(.pointer (some ⟨rb,0,none⟩))),(2,(.pointer (some ⟨b2,0,none⟩))),(3,(.bool false)),(4,(.pointer (some ⟨b4,0,none⟩))),(9,(.int .i64 (a1))),(29,(.bool ((ff a1))))]) (λ_u=>[ag b4 (ints (MsgT.mk a1 0 RowT.zero 0 0 BallotT.zero BallotT.zero ChangeT.zero ViewT.zero).flat) 178,ag rb [v1] 197,ag b2 (ints MsgT.zero.flat) 178]) (λ_u hinv=>?_) (λtl11=>?_)));have _:=hinv;refine ac J11 (TC.cond rfl (λh29=>?_) (λh29=>?_));refine sr λ_ J12=>PS ?_
 refine CP pE (iS rb v1 r1) (SM [1]) (λ_ d _=>(hf1).more d) (λcP HP hP=>?_) (λvR HR hR=>?_);obtain⟨vP,rfl,rfl,hpP⟩:=hP;refine aw (aO (aw (WK [0] (aR ?_))));exact⟨_,rfl,rfl,by simp[cI,aD hp1,bO hpP,h10,h25,h29, *]⟩;obtain⟨a2,r2,v2,rfl,rfl,hp2,ht2⟩:=hR;have hf2:=ht2 _ hf1;refine FA 177 a9 aP ?_;refine SS 1 aP (aG _) (MR _ rfl _) ?_;refine nx J12 (ad (PS ?_));refine CP yc (ji rb v2 r2) ID (λ_ d _=>(hf2).more d) (λcP HP hP=>?_) (λvR HR hR=>?_);obtain⟨vP,rfl,rfl,hpP⟩:=hP;refine aO (aw (WK [0] (aR ?_)));exact⟨_,rfl,rfl,by simp[cI,aD hp1,aD hp2,bO hpP,h10,h25,h29, *]⟩;obtain⟨a3,r3,v3,rfl,rfl,hp3,ht3⟩:=hR;have hf3:=ht3 _ hf2;refine FA 178 a9 cp ?_;refine SP 1 cp ao aG MP ?_;refine ap (af (ac J3 (sr λ_ J13=>LW 1 a9 bW aG ?_)));refine SW 2 bW aG ?_;refine PS ?_;refine nx J13 (ai (RT 2 [0] a9 bW (aG _) ?_));exact⟨((MsgT.mk a1 0 RowT.zero 0 a2 a3 BallotT.zero ChangeT.zero ViewT.zero),true),_,_,rfl,rfl,by simp[cI,pr,aD hp1,aD hp2,aD hp3,h10,h25,h29,MsgT.zero,RecT.zero, *],(ht1.trans (ht2.trans ht3))⟩;refine sr λ_ J14=>PS ?_
 refine an ?_ ?_<;>intro h39;refine PS ?_;refine nx J14 (CY (sr λ_ J15=>PS ?_));refine CP pE (iS rb v1 r1) (SM [1]) (λ_ d _=>(hf1).more d) (λcP HP hP=>?_) (λvR HR hR=>?_);obtain⟨vP,rfl,rfl,hpP⟩:=hP;refine aw (aO (aw (WK [0] (aR ?_))));exact⟨_,rfl,rfl,by simp[cI,e6,ff,aD hp1,bO hpP,h10,h25,h29,h39, *]⟩;obtain⟨a2,r2,v2,rfl,rfl,hp2,ht2⟩:=hR;have hf2:=ht2 _ hf1;refine FA 177 a9 aP ?_;refine SS 1 aP (aG _) (MR _ rfl _) ?_;refine nx J15 (sr λ_ J16=>PS ?_);refine CP yc (ji rb v2 r2) ID (λ_ d _=>(hf2).more d) (λcP HP hP=>?_) (λvR HR hR=>?_);obtain⟨vP,rfl,rfl,hpP⟩:=hP;refine aw (aO (aw (WK [0] (aR ?_))));exact⟨_,rfl,rfl,by simp[cI,e6,ff,aD hp1,aD hp2,bO hpP,h10,h25,h29,h39, *]⟩;obtain⟨a3,r3,v3,rfl,rfl,hp3,ht3⟩:=hR;have hf3:=ht3 _ hf2;refine FA 178 a9 cp ?_;refine SP 1 cp ao aG MP ?_;refine nx J16 (sr λ_ J17=>PS ?_);refine CP yc (ji rb v3 r3) ID (λ_ d _=>(hf3).more d) (λcP HP hP=>?_) (λvR HR hR=>?_);obtain⟨vP,rfl,rfl,hpP⟩:=hP;refine aw (aO (aw (WK [0] (aR ?_))));exact⟨_,rfl,rfl,by simp[cI,e6,ff,aD hp1,aD hp2,aD hp3,bO hpP,h10,h25,h29,h39, *]⟩;obtain⟨a4,r4,v4,rfl,rfl,hp4,ht4⟩:=hR;have hf4:=ht4 _ hf3;refine FA 180 a9 cp ?_;refine SP 1 cp ao aG MsgT.wp_had ?_;refine nx J17 (ad (PS ?_));refine CP Hc (oh rb v4 r4) ID (λ_ d _=>(hf4).more d) (λcP HP hP=>?_) (λvR HR hR=>?_);obtain⟨vP,rfl,rfl,hpP⟩:=hP
 refine aO (aw (WK [0] (aR ?_)));exact⟨_,rfl,rfl,by simp[cI,e6,ff,aD hp1,aD hp2,aD hp3,aD hp4,bO hpP,h10,h25,h29,h39, *]⟩;obtain⟨a5,r5,v5,rfl,rfl,hp5,ht5⟩:=hR;have hf5:=ht5 _ hf4;refine FA 182 a9 fy ?_;refine SP 1 fy aJ aG MO ?_;refine ap (af (ac J3 (sr λ_ J18=>LW 1 a9 bW aG ?_)));refine SW 2 bW aG ?_;refine PS ?_;refine nx J18 (ai (RT 2 [0] a9 bW (aG _) ?_));exact⟨((MsgT.mk a1 0 RowT.zero 0 a2 a3 a4 a5 ViewT.zero),true),_,_,rfl,rfl,by simp[cI,e6,ff,pr,aD hp1,aD hp2,aD hp3,aD hp4,aD hp5,h10,h25,h29,h39,MsgT.zero,RecT.zero, *],(ht1.trans (ht2.trans (ht3.trans (ht4.trans ht5))))⟩;refine PS ?_;refine nx J14 (CN (sr λ_ J19=>PS ?_));refine an ?_ ?_<;>intro h53;refine PS ?_;refine nx J19 (CY (sr λ_ J20=>PS ?_));refine CP pE (iS rb v1 r1) (SM [1]) (λ_ d _=>(hf1).more d) (λcP HP hP=>?_) (λvR HR hR=>?_);obtain⟨vP,rfl,rfl,hpP⟩:=hP;refine aw (aO (aw (WK [0] (aR ?_))));exact⟨_,rfl,rfl,by simp[cI,e6,ff,aD hp1,bO hpP,h10,h25,h29,h39,h53, *]⟩;obtain⟨a2,r2,v2,rfl,rfl,hp2,ht2⟩:=hR;have hf2:=ht2 _ hf1;refine FA 177 a9 aP ?_;refine SS 1 aP (aG _) (MR _ rfl _) ?_;refine nx J20 (sr λ_ J21=>PS ?_);refine CP yc (ji rb v2 r2) ID (λ_ d _=>(hf2).more d) (λcP HP hP=>?_) (λvR HR hR=>?_);obtain⟨vP,rfl,rfl,hpP⟩:=hP;refine aw (aO (aw (WK [0] (aR ?_))));exact⟨_,rfl,rfl,by simp[cI,e6,ff,aD hp1,aD hp2,bO hpP,h10,h25,h29,h39,h53, *]⟩
 obtain⟨a3,r3,v3,rfl,rfl,hp3,ht3⟩:=hR;have hf3:=ht3 _ hf2;refine FA 178 a9 cp ?_;refine SP 1 cp ao aG MP ?_;refine nx J21 (ad (PS ?_));refine CP Hc (oh rb v3 r3) ID (λ_ d _=>(hf3).more d) (λcP HP hP=>?_) (λvR HR hR=>?_);obtain⟨vP,rfl,rfl,hpP⟩:=hP;refine aO (aw (WK [0] (aR ?_)));exact⟨_,rfl,rfl,by simp[cI,e6,ff,aD hp1,aD hp2,aD hp3,bO hpP,h10,h25,h29,h39,h53, *]⟩;obtain⟨a4,r4,v4,rfl,rfl,hp4,ht4⟩:=hR;have hf4:=ht4 _ hf3;refine FA 182 a9 fy ?_;refine SP 1 fy aJ aG MO ?_;refine ap (af (ac J3 (sr λ_ J22=>LW 1 a9 bW aG ?_)));refine SW 2 bW aG ?_;refine PS ?_;refine nx J22 (ai (RT 2 [0] a9 bW (aG _) ?_));exact⟨((MsgT.mk a1 0 RowT.zero 0 a2 a3 BallotT.zero a4 ViewT.zero),true),_,_,rfl,rfl,by simp[cI,e6,ff,pr,aD hp1,aD hp2,aD hp3,aD hp4,h10,h25,h29,h39,h53,MsgT.zero,RecT.zero, *],(ht1.trans (ht2.trans (ht3.trans ht4)))⟩;refine PS ?_;refine nx J19 (CN (sr λ_ J23=>PS ?_));refine an ?_ ?_<;>intro h64;refine PS ?_;refine nx J23 (CY (sr λ_ J24=>PS ?_));refine CP Hb (qF rb v1 r1) (SM [1]) (λ_ d _=>(hf1).more d) (λcP HP hP=>?_) (λvR HR hR=>?_);obtain⟨vP,rfl,rfl,hpP⟩:=hP;refine aw (aO (aw (WK [0] (aR ?_))));exact⟨_,rfl,rfl,by simp[cI,e6,ff,aD hp1,bO hpP,h10,h25,h29,h39,h53,h64, *]⟩;obtain⟨a2,r2,v2,rfl,rfl,hp2,ht2⟩:=hR;have hf2:=ht2 _ hf1;refine FA 185 a9 bc ?_;refine SP 1 bc am aG MsgT.wp_view ?_;refine nx J24 (ab λ_ J25=>D1 1 bh ?_)
 refine LY 0 a9 bW aG ?_;refine FD 1 185 a9 bc ?_;refine ta 2 rfl (aM (vs:=ints a2.flat) rfl eE rfl bc rfl (λ_ h=>h.2.1) (am a2) (ux (MsgT.mk a1 0 RowT.zero 0 0 BallotT.zero BallotT.zero ChangeT.zero a2) 0 rfl (by decide) (whole (am a2)))) ?_;refine AL 3 ?_;refine CE Ku (mr a2 (rm hp2)) ID ?_;refine EN (AL 4 ?_);refine SW 2 bW aG ?_;refine EN (PD 5 ?_);refine DN (ac J25 (ai (aH (ae (RT 2 [0] a9 bW (aG _) ?_)))));exact⟨((MsgT.mk a1 0 RowT.zero 0 0 BallotT.zero BallotT.zero ChangeT.zero a2),(ko a2)),_,_,rfl,rfl,by simp[cI,e6,ff,pr,aD hp1,aD hp2,h10,h25,h29,h39,h53,h64,MsgT.zero,RecT.zero, *],(ht1.trans ht2)⟩;refine PS ?_;refine nx J23 (CN (sr λ_ J26=>PS ?_));refine an ?_ ?_<;>intro h73;refine PS ?_;refine nx J26 (CY (sr λ_ J27=>PS ?_));refine CP iU (cH rb v1 r1 (5)) (SM [1]) (λ_ d _=>(hf1).more d) (λcP HP hP=>?_) (λvR HR hR=>?_);obtain⟨vP,rfl,rfl,hpP⟩:=hP;refine aw (aO (aw (WK [0] (aR ?_))));exact⟨_,rfl,rfl,by simp[cI,e6,ff,aD hp1,bO hpP,h10,h25,h29,h39,h53,h64,h73, *]⟩;obtain⟨a2,r2,v2,rfl,rfl,hp2,ht2⟩:=hR;have hf2:=ht2 _ hf1;refine FA 1 a9 aP ?_;refine SS 1 aP (aG _) (MsgT.set_whose _ rfl _) ?_;refine nx J27 (sr λ_ J28=>PS ?_);refine CP Hb (qF rb v2 r2) ID (λ_ d _=>(hf2).more d) (λcP HP hP=>?_) (λvR HR hR=>?_);obtain⟨vP,rfl,rfl,hpP⟩:=hP;refine aw (aO (aw (WK [0] (aR ?_))))
 exact⟨_,rfl,rfl,by simp[cI,e6,ff,aD hp1,aD hp2,bO hpP,h10,h25,h29,h39,h53,h64,h73, *]⟩;obtain⟨a3,r3,v3,rfl,rfl,hp3,ht3⟩:=hR;have hf3:=ht3 _ hf2;refine FA 185 a9 bc ?_;refine SP 1 bc am aG MsgT.wp_view ?_;refine nx J28 (ab λ_ J29=>D1 1 bh ?_);refine LY 0 a9 bW aG ?_;refine FD 1 185 a9 bc ?_;refine ta 2 rfl (aM (vs:=ints a3.flat) rfl eE rfl bc rfl (λ_ h=>h.2.1) (am a3) (ux (MsgT.mk a1 a2 RowT.zero 0 0 BallotT.zero BallotT.zero ChangeT.zero a3) 0 rfl (by decide) (whole (am a3)))) ?_;refine AL 3 ?_;refine CE Ku (mr a3 (rm hp3)) ID ?_;refine EN (AL 4 ?_);refine SW 2 bW aG ?_;refine EN (PD 5 ?_);refine DN (ac J29 (ai (aH (ae (RT 2 [0] a9 bW (aG _) ?_)))));exact⟨((MsgT.mk a1 a2 RowT.zero 0 0 BallotT.zero BallotT.zero ChangeT.zero a3),(ko a3)),_,_,rfl,rfl,by simp[cI,e6,ff,pr,aD hp1,aD hp2,aD hp3,h10,h25,h29,h39,h53,h64,h73,MsgT.zero,RecT.zero, *],(ht1.trans (ht2.trans ht3))⟩;refine PS ?_;refine nx J26 (CN (aQ (af (ac J3 (sr λ_ J30=>LW 0 a9 bW aG ?_)))));refine SW 2 bW aG ?_;refine PS ?_;refine nx J30 (ai (RT 2 [1] a9 bW (aG _) ?_));exact⟨((MsgT.mk a1 0 RowT.zero 0 0 BallotT.zero BallotT.zero ChangeT.zero ViewT.zero),true),_,_,rfl,rfl,by simp[cI,pr,aD hp1,h10,h25,h29,h39,h53,h64,h73,MsgT.zero,RecT.zero, *],ht1⟩;refine sr λ_ J31=>P2 ?_
 refine an ?_ ?_<;>intro h29;refine nx J31 (CY (aQ ?_))
 exact aF
  (aL (aL (aL (aL (aL (bd rfl (by simp[ff, *]) SB))))))
  (λ_ s=>s)
  (tl11 (():Unit) trivial)
 refine nx J31 (CN (ad (PS ?_)));refine an ?_ ?_<;>intro h31;refine PS ?_;refine ap ?_
 exact aF
  (aL (aL (aL (aL (aL (bd rfl (by simp[ff, *]) SB))))))
  (λ_ s=>s)
  (tl11 (():Unit) trivial)
 refine PS ?_;refine ap ?_
 exact aF
  (aL (aL (aL (aL (aL (bd rfl (by simp[ff, *]) SB))))))
  (λ_ s=>s)
  (tl11 (():Unit) trivial)
 refine sr λ_ J32=>P2 ?_
 refine an ?_ ?_<;>intro h10;refine nx J32 (CY (aQ ?_))
 exact aF
  (aL (aL (aL (aL (aL (bd rfl (by simp[e6, *]) SB))))))
  (λ_ s=>s)
  (tl5 (():Unit) trivial)
 refine nx J32 (CN (sr λ_ J33=>P2 ?_));refine an ?_ ?_<;>intro h10;refine nx J33 (CY (aQ ?_))
 exact aF
  (aL (aL (aL (aL (aL (bd rfl (by simp[e6, *]) SB))))))
  (λ_ s=>s)
  (tl5 (():Unit) trivial)
 refine nx J33 (CN (ad (PS ?_)));refine an ?_ ?_<;>intro h13;refine PS ?_;refine ap ?_
 exact aF
  (aL (aL (aL (aL (aL (bd rfl (by simp[e6, *]) SB))))))
  (λ_ s=>s)
  (tl5 (():Unit) trivial)
 refine PS ?_;refine ap ?_
 exact aF
  (aL (aL (aL (aL (aL (bd rfl (by simp[e6, *]) SB))))))
  (λ_ s=>s)
  (tl5 (():Unit) trivial)
theorem y8(rb:Nat)(v:Value)(bs:List UInt8):
 DT 83 #[(.pointer (some ⟨rb,0,none⟩))] (IsB v bs) [ag rb [v] 197] (nv 197 gZ (λmb:RecT×Bool=> .tuple #[.agg (ints mb.1.flat).toArray, .bool mb.2]) dd v bs rb):=by
 refine BD 65 Tryz.func83 rfl rfl rfl λw0 F hF=>sr λ_ J1=>XZ KV (ints RecT.zero.flat) λb2=>?_
 refine PS ?_;refine nx J1 (sr λ_ J2=>PS ?_);refine CP iU (cH rb v bs (6)) (SM [1]) (λ_ d _=>(hF).more d) (λcP HP hP=>?_) (λvR HR hR=>?_);obtain⟨vP,rfl,rfl,hpP⟩:=hP;refine aw (WK [0] (aR ?_));exact⟨_,rfl,rfl,by simp[dd,e6,ff,bO hpP, *]⟩;obtain⟨a1,r1,v1,rfl,rfl,hp1,ht1⟩:=hR;have hf1:=ht1 _ hF;refine tp (kO RecT.zero (RecT.mk a1 0 RowT.zero 0 BallotT.zero ChangeT.zero ViewT.zero) [(0,[Value.int .i64 a1])] iI eW (g:=RecT.sg)) ?_;refine XZ KV (ints RecT.zero.flat) λb4=>?_
 refine SW 0 iN bl ?_;refine nx J2 (ab λ_ J3=>sr λ_ J4=>FA 0 iI aP ?_);refine LT 0 Y3 (.int .i64 (a1)) ?_ (hc:=by exact kc _ rfl);refine nx J4 (aq (sr λ_ J5=>PS ?_));refine an ?_ ?_<;>intro h11;refine PS ?_;refine nx J5 (CY (sr λ_ J6=>PS ?_));refine CP Hd (sU rb v1 r1) (SM [1]) (λ_ d _=>(hf1).more d) (λcP HP hP=>?_) (λvR HR hR=>?_);obtain⟨vP,rfl,rfl,hpP⟩:=hP;refine aw (aO (aw (WK [0] (aR ?_))));exact⟨_,rfl,rfl,by simp[dd,e6,ff,aD hp1,bO hpP,h11, *]⟩;obtain⟨a2,r2,v2,rfl,rfl,hp2,ht2⟩:=hR;have hf2:=ht2 _ hf1;refine FA 2 iI aZ ?_;refine SP 1 aZ ah bl RecT.wp_row ?_;refine nx J6 (ab λ_ J7=>D1 1 bh ?_);refine LY 0 iI iN bl ?_;refine FD 1 2 iI aZ ?_;refine ta 2 rfl (aM (vs:=ints a2.flat) rfl dN rfl aZ rfl (λ_ h=>h.2.1) (ah a2) (q6 (RecT.mk a1 0 a2 0 BallotT.zero ChangeT.zero ViewT.zero) 0 rfl (by decide) (whole (ah a2)))) ?_;refine AL 3 ?_;refine CE FM (il a2 (y3 hp2)) ID ?_;refine EN (AL 4 ?_);refine SW 2 iN bl ?_;refine EN (PD 5 ?_);refine DN (ac J7 (ai (aH (ae (RT 2 [0] iI iN (bl _) ?_)))));exact⟨((RecT.mk a1 0 a2 0 BallotT.zero ChangeT.zero ViewT.zero),(gz a2)),_,_,rfl,rfl,by simp[dd,e6,ff,pr,aD hp1,aD hp2,h11,MsgT.zero,RecT.zero, *],(ht1.trans ht2)⟩;refine PS ?_;refine nx J5 (CN (sr λ_ J8=>PS ?_));refine an ?_ ?_<;>intro h20;refine PS ?_;refine nx J8 (CY (sr λ_ J9=>PS ?_))
 refine CP iU (cH rb v1 r1 (5)) (SM [1]) (λ_ d _=>(hf1).more d) (λcP HP hP=>?_) (λvR HR hR=>?_);obtain⟨vP,rfl,rfl,hpP⟩:=hP;refine aw (aO (aw (WK [0] (aR ?_))));exact⟨_,rfl,rfl,by simp[dd,e6,ff,aD hp1,bO hpP,h11,h20, *]⟩;obtain⟨a2,r2,v2,rfl,rfl,hp2,ht2⟩:=hR;have hf2:=ht2 _ hf1;refine FA 1 iI aP ?_;refine SS 1 aP (bl _) (RecT.set_whose _ rfl _) ?_;refine nx J9 (sr λ_ J10=>PS ?_);refine CP Hd (sU rb v2 r2) ID (λ_ d _=>(hf2).more d) (λcP HP hP=>?_) (λvR HR hR=>?_);obtain⟨vP,rfl,rfl,hpP⟩:=hP;refine aw (aO (aw (WK [0] (aR ?_))));exact⟨_,rfl,rfl,by simp[dd,e6,ff,aD hp1,aD hp2,bO hpP,h11,h20, *]⟩;obtain⟨a3,r3,v3,rfl,rfl,hp3,ht3⟩:=hR;have hf3:=ht3 _ hf2;refine FA 2 iI aZ ?_;refine SP 1 aZ ah bl RecT.wp_row ?_;refine nx J10 (ab λ_ J11=>D1 1 bh ?_);refine LY 0 iI iN bl ?_;refine FD 1 2 iI aZ ?_;refine ta 2 rfl (aM (vs:=ints a3.flat) rfl dN rfl aZ rfl (λ_ h=>h.2.1) (ah a3) (q6 (RecT.mk a1 a2 a3 0 BallotT.zero ChangeT.zero ViewT.zero) 0 rfl (by decide) (whole (ah a3)))) ?_;refine AL 3 ?_;refine CE FM (il a3 (y3 hp3)) ID ?_;refine EN (AL 4 ?_);refine SW 2 iN bl ?_;refine EN (PD 5 ?_);refine DN (ac J11 (ai (aH (ae (RT 2 [0] iI iN (bl _) ?_)))));exact⟨((RecT.mk a1 a2 a3 0 BallotT.zero ChangeT.zero ViewT.zero),(gz a3)),_,_,rfl,rfl,by simp[dd,e6,ff,pr,aD hp1,aD hp2,aD hp3,h11,h20,MsgT.zero,RecT.zero, *],(ht1.trans (ht2.trans ht3))⟩;refine PS ?_
 refine nx J8 (CN (sr λ_ J12=>PS ?_));refine an ?_ ?_<;>intro h32;refine PS ?_;refine nx J12 (CY (ad (PS ?_)));refine CP iU (cH rb v1 r1 (5)) (SM [1]) (λ_ d _=>(hf1).more d) (λcP HP hP=>?_) (λvR HR hR=>?_);obtain⟨vP,rfl,rfl,hpP⟩:=hP;refine aO (aw (WK [0] (aR ?_)));exact⟨_,rfl,rfl,by simp[dd,e6,ff,aD hp1,bO hpP,h11,h20,h32, *]⟩;obtain⟨a2,r2,v2,rfl,rfl,hp2,ht2⟩:=hR;have hf2:=ht2 _ hf1;refine FA 1 iI aP ?_;refine SS 1 aP (bl _) (RecT.set_whose _ rfl _) ?_;refine ap (af (ac J3 (sr λ_ J13=>LW 1 iI iN bl ?_)));refine SW 2 iN bl ?_;refine PS ?_;refine nx J13 (ai (RT 2 [0] iI iN (bl _) ?_));exact⟨((RecT.mk a1 a2 RowT.zero 0 BallotT.zero ChangeT.zero ViewT.zero),true),_,_,rfl,rfl,by simp[dd,e6,ff,pr,aD hp1,aD hp2,h11,h20,h32,MsgT.zero,RecT.zero, *],(ht1.trans ht2)⟩;refine PS ?_;refine nx J12 (CN (sr λ_ J14=>PS ?_));refine an ?_ ?_<;>intro h37;refine PS ?_;refine nx J14 (CY (sr λ_ J15=>PS ?_));refine CP pE (iS rb v1 r1) (SM [1]) (λ_ d _=>(hf1).more d) (λcP HP hP=>?_) (λvR HR hR=>?_);obtain⟨vP,rfl,rfl,hpP⟩:=hP;refine aw (aO (aw (WK [0] (aR ?_))));exact⟨_,rfl,rfl,by simp[dd,e6,ff,aD hp1,bO hpP,h11,h20,h32,h37, *]⟩;obtain⟨a2,r2,v2,rfl,rfl,hp2,ht2⟩:=hR;have hf2:=ht2 _ hf1;refine FA 176 iI aP ?_;refine SS 1 aP (bl _) (RecT.set_epoch _ rfl _) ?_;refine nx J15 (ad (PS ?_))
 refine CP yc (ji rb v2 r2) ID (λ_ d _=>(hf2).more d) (λcP HP hP=>?_) (λvR HR hR=>?_);obtain⟨vP,rfl,rfl,hpP⟩:=hP;refine aO (aw (WK [0] (aR ?_)));exact⟨_,rfl,rfl,by simp[dd,e6,ff,aD hp1,aD hp2,bO hpP,h11,h20,h32,h37, *]⟩;obtain⟨a3,r3,v3,rfl,rfl,hp3,ht3⟩:=hR;have hf3:=ht3 _ hf2;refine FA 177 iI cp ?_;refine SP 1 cp ao bl RecT.wp_ballot ?_;refine ap (af (ac J3 (sr λ_ J16=>LW 1 iI iN bl ?_)));refine SW 2 iN bl ?_;refine PS ?_;refine nx J16 (ai (RT 2 [0] iI iN (bl _) ?_));exact⟨((RecT.mk a1 0 RowT.zero a2 a3 ChangeT.zero ViewT.zero),true),_,_,rfl,rfl,by simp[dd,e6,ff,pr,aD hp1,aD hp2,aD hp3,h11,h20,h32,h37,MsgT.zero,RecT.zero, *],(ht1.trans (ht2.trans ht3))⟩;refine PS ?_;refine nx J14 (CN (sr λ_ J17=>PS ?_));refine an ?_ ?_<;>intro h45;refine PS ?_;refine nx J17 (CY (sr λ_ J18=>PS ?_));refine CP pE (iS rb v1 r1) (SM [1]) (λ_ d _=>(hf1).more d) (λcP HP hP=>?_) (λvR HR hR=>?_);obtain⟨vP,rfl,rfl,hpP⟩:=hP;refine aw (aO (aw (WK [0] (aR ?_))));exact⟨_,rfl,rfl,by simp[dd,e6,ff,aD hp1,bO hpP,h11,h20,h32,h37,h45, *]⟩;obtain⟨a2,r2,v2,rfl,rfl,hp2,ht2⟩:=hR;have hf2:=ht2 _ hf1;refine FA 176 iI aP ?_;refine SS 1 aP (bl _) (RecT.set_epoch _ rfl _) ?_;refine nx J18 (sr λ_ J19=>PS ?_);refine CP yc (ji rb v2 r2) ID (λ_ d _=>(hf2).more d) (λcP HP hP=>?_) (λvR HR hR=>?_);obtain⟨vP,rfl,rfl,hpP⟩:=hP;refine aw (aO (aw (WK [0] (aR ?_))))
 exact⟨_,rfl,rfl,by simp[dd,e6,ff,aD hp1,aD hp2,bO hpP,h11,h20,h32,h37,h45, *]⟩;obtain⟨a3,r3,v3,rfl,rfl,hp3,ht3⟩:=hR;have hf3:=ht3 _ hf2;refine FA 177 iI cp ?_;refine SP 1 cp ao bl RecT.wp_ballot ?_;refine nx J19 (ad (PS ?_));refine CP Hc (oh rb v3 r3) ID (λ_ d _=>(hf3).more d) (λcP HP hP=>?_) (λvR HR hR=>?_);obtain⟨vP,rfl,rfl,hpP⟩:=hP;refine aO (aw (WK [0] (aR ?_)));exact⟨_,rfl,rfl,by simp[dd,e6,ff,aD hp1,aD hp2,aD hp3,bO hpP,h11,h20,h32,h37,h45, *]⟩;obtain⟨a4,r4,v4,rfl,rfl,hp4,ht4⟩:=hR;have hf4:=ht4 _ hf3;refine FA 179 iI fy ?_;refine SP 1 fy aJ bl RecT.wp_change ?_;refine ap (af (ac J3 (sr λ_ J20=>LW 1 iI iN bl ?_)));refine SW 2 iN bl ?_;refine PS ?_;refine nx J20 (ai (RT 2 [0] iI iN (bl _) ?_));exact⟨((RecT.mk a1 0 RowT.zero a2 a3 a4 ViewT.zero),true),_,_,rfl,rfl,by simp[dd,e6,ff,pr,aD hp1,aD hp2,aD hp3,aD hp4,h11,h20,h32,h37,h45,MsgT.zero,RecT.zero, *],(ht1.trans (ht2.trans (ht3.trans ht4)))⟩;refine PS ?_;refine nx J17 (CN (sr λ_ J21=>PS ?_));refine an ?_ ?_<;>intro h56;refine PS ?_;refine nx J21 (CY (sr λ_ J22=>PS ?_));refine CP Hb (qF rb v1 r1) (SM [1]) (λ_ d _=>(hf1).more d) (λcP HP hP=>?_) (λvR HR hR=>?_);obtain⟨vP,rfl,rfl,hpP⟩:=hP;refine aw (aO (aw (WK [0] (aR ?_))));exact⟨_,rfl,rfl,by simp[dd,e6,ff,aD hp1,bO hpP,h11,h20,h32,h37,h45,h56, *]⟩;obtain⟨a2,r2,v2,rfl,rfl,hp2,ht2⟩:=hR;have hf2:=ht2 _ hf1
 refine FA 182 iI bc ?_;refine SP 1 bc am bl RecT.wp_view ?_;refine nx J22 (ab λ_ J23=>D1 1 bh ?_);refine LY 0 iI iN bl ?_;refine FD 1 182 iI bc ?_;refine ta 2 rfl (aM (vs:=ints a2.flat) rfl eE rfl bc rfl (λ_ h=>h.2.1) (am a2) (NY (RecT.mk a1 0 RowT.zero 0 BallotT.zero ChangeT.zero a2) 0 rfl (by decide) (whole (am a2)))) ?_;refine AL 3 ?_;refine CE Ku (mr a2 (rm hp2)) ID ?_;refine EN (AL 4 ?_);refine SW 2 iN bl ?_;refine EN (PD 5 ?_);refine DN (ac J23 (ai (aH (ae (RT 2 [0] iI iN (bl _) ?_)))));exact⟨((RecT.mk a1 0 RowT.zero 0 BallotT.zero ChangeT.zero a2),(ko a2)),_,_,rfl,rfl,by simp[dd,e6,ff,pr,aD hp1,aD hp2,h11,h20,h32,h37,h45,h56,MsgT.zero,RecT.zero, *],(ht1.trans ht2)⟩;refine PS ?_;refine nx J21 (CN (aQ (af (ac J3 (sr λ_ J24=>LW 0 iI iN bl ?_)))));refine SW 2 iN bl ?_;refine PS ?_;refine nx J24 (ai (RT 2 [1] iI iN (bl _) ?_));exact⟨((RecT.mk a1 0 RowT.zero 0 BallotT.zero ChangeT.zero ViewT.zero),true),_,_,rfl,rfl,by simp[dd,e6,ff,pr,aD hp1,h11,h20,h32,h37,h45,h56,MsgT.zero,RecT.zero, *],ht1⟩
theorem C0(rb mb gb:Nat)(v:Value)(bs:List UInt8)(m0:MsgT)(g0:Bool):
 DT 141 #[(.pointer (some ⟨rb,0,none⟩)),(.pointer (some ⟨mb,0,none⟩)),(.pointer (some ⟨gb,0,none⟩))] (IsB v bs) [ag rb [v] 197,ag mb (ints m0.flat) 178,ag gb [(.bool (g0))] 4] (uq (λ_ H=>∃x' r a,H=ag rb [x'] 197::[ag mb (ints a.1.flat) 178,ag gb [.bool a.2] 4]∧Tail v bs x' r∧cI bs=some (a,r)) (λc H=>c=gZ∧∃(x':Value) (_:Unit),H=ag rb [x'] 197::[ag mb (ints m0.flat) 178,ag gb [.bool g0] 4]∧cI bs=none)):=by
 refine BD 9 Tryz.func141 rfl rfl rfl λw0 F hF=>ad (PS ?_)
 refine CP Mj (y9 rb v bs) ID (λ_ d _=>(hF).more d) (λcP HP hP=>?_) (λvR HR hR=>?_);obtain⟨vP,rfl,rfl,hpP⟩:=hP;exact WK [0,0,0] (aR ⟨rfl,_,(),rfl,hpP⟩);obtain⟨a1,r1,v1,rfl,rfl,hp1,ht1⟩:=hR;refine P3 ?_;refine SW 1 bW aG ?_;refine S0 2 ka ?_;exact ap (WK [0,0,0] (bz rfl ⟨_,_,_,rfl,ht1,hp1⟩))
theorem BC(x:Value)(bs:List UInt8):
 DT 104 #[x] (IsB x bs) [] (RI (.tuple #[.agg (ints (jy bs).1.flat).toArray, .int .i64 (jy bs).2]) []):=by
 refine Leg.Does.body (vs:=[x]) (n:=18) Tryz.func104 rfl rfl rfl (λw0 F hF=>?_);refine sr λ_ J1=>?_
 refine lA (aa rfl) rfl rfl rfl l4 (λb2=>?_);change TL _ _ _ _ _ _ _ _ _ [ag b2 (ints MsgT.zero.flat) 178];refine oW ?_;refine nx J1 ?_;clear J1;refine sr λ_ J2=>?_
 refine lA (aa rfl) rfl rfl rfl l4 (λb4=>?_);change TL _ _ _ _ _ _ _ _ _ [ag b4 (ints MsgT.zero.flat) 178,ag b2 (ints MsgT.zero.flat) 178];refine nx J2 ?_;clear J2;refine sr λ_ J3=>?_
 refine lA (aa rfl) rfl rfl rfl z4 (λb5=>?_);refine bv (i:=0) (aa rfl) rfl rfl rfl rfl rfl ka rfl rfl (lb rfl) rfl rfl ?_;refine nx J3 ?_;clear J3;refine sr λ_ J4=>?_
 refine mv ?_;refine tp (N5 rfl rfl) ?_;refine gP (aa rfl) rfl rfl rfl Lt rfl (xY (bs:=bs) (C:=[ag b4 (ints MsgT.zero.flat) 178,ag b5 [(.bool false)] 4]) (caps:=[(.pointer (some ⟨b4,0,none⟩)),(.pointer (some ⟨b5,0,none⟩))]) (A:=λa:MsgT×Bool=>[ag b4 (ints a.1.flat) 178,ag b5 [.bool a.2] 4]) (G:=λ_:Unit=>[ag b4 (ints MsgT.zero.flat) 178,ag b5 [(.bool false)] 4]) (φ:=λa r=>cI bs=some (a,r)) (ψ:=λ_=>cI bs=none) (λ_ h=>h) (λ_ _ h d=>h.more d) Mk (λrb=>C0 rb b4 b5 x bs MsgT.zero false)) (λ_ s=>az [1,0] rfl s) (λ_ d _=>(hF).more d) (λvR HR hR=>?_);rcases hR with⟨r,⟨m,g⟩,rfl,rfl,hs⟩| ⟨_,rfl,rfl,hs⟩
 refine an (λh9=>?_) (λh9=>?_);refine oW ?_;refine nx J4 ?_;clear J4;refine ab λ_ J5=>?_
 refine sr λ_ J6=>?_
 refine mv ?_;refine tp (nY (r:=false) rfl rfl rfl) ?_;refine mv ?_;refine tq (e7 (v:=(.bool (g))) rfl Y4 rfl rfl (dG 1 rfl rfl) rfl) ?_;refine aW (λh13=>?_) (λh13=>?_);refine tq (nY (r:=false) rfl rfl rfl) ?_;refine tp (lT rfl rfl rfl) ?_;refine nx J6 ?_;clear J6;refine sz rfl ?_;refine aQ ?_;refine ac J5 ?_;clear J5;refine sr λ_ J7=>?_
 refine tp (aM (vs:=ints m.flat) rfl a9 rfl bW rfl (dG 0 rfl rfl) (aG m) (whole (aG m))) ?_;refine bF (vs:=ints m.flat) (i:=2) (aa rfl) rfl rfl rfl rfl rfl (by rw[(aG m)];exact bW) (bu _) rfl rfl (by have h0:=(aG MsgT.zero);have h1:=(aG m);omega) (cm ((aG MsgT.zero).trans (aG m).symm)) rfl ?_;refine oW ?_;refine nx J7 ?_;clear J7;refine ai ?_;refine lB (H':=[]) rfl rfl rfl a9 rfl bW (dG 2 rfl rfl) (aG m) (λ_ s=>ak [] rfl s) ?_;exact⟨by simp[jy, *],rfl⟩;refine tq (nY (r:=true) rfl rfl rfl) ?_;refine tp (lT rfl rfl rfl) ?_;refine nx J6 ?_;clear J6;refine iG rfl ?_;refine sr λ_ J8=>?_
 refine tp (jL (cells:=(ints MsgT.zero.flat).toArray) rfl rfl (by as_aux_lemma=>kernel_rfl)) ?_;refine bF (vs:=ints MsgT.zero.flat) (i:=2) (aa rfl) rfl rfl rfl rfl rfl (by rw[(aG MsgT.zero)];exact bW) (bu _) rfl rfl (by have h0:=(aG MsgT.zero);have h1:=(aG MsgT.zero);omega) (cm ((aG MsgT.zero).trans (aG MsgT.zero).symm)) rfl ?_;refine oW ?_;refine nx J8 ?_;clear J8;refine ai ?_;refine ae ?_;clear J5;refine lB (H':=[]) rfl rfl rfl a9 rfl bW (dG 2 rfl rfl) (aG MsgT.zero) (λ_ s=>ak [] rfl s) ?_;exact⟨by simp[jy, *],rfl⟩;refine oW ?_;refine nx J4 ?_;clear J4;refine ab λ_ J9=>?_
 refine sr λ_ J10=>?_
 refine mv ?_;refine tp (nY (r:=true) rfl rfl rfl) ?_;refine mv ?_;refine kB (b:=true) rfl rfl rfl rfl (lb rfl) ?_;refine kB (b:=true) rfl rfl rfl rfl (lb rfl) ?_;refine tp (lT rfl rfl rfl) ?_;refine nx J10 ?_;clear J10;refine iG rfl ?_;refine sr λ_ J11=>?_
 refine tp (jL (cells:=(ints MsgT.zero.flat).toArray) rfl rfl (by as_aux_lemma=>kernel_rfl)) ?_;refine bF (vs:=ints MsgT.zero.flat) (i:=2) (aa rfl) rfl rfl rfl rfl rfl (by rw[(aG MsgT.zero)];exact bW) (bu _) rfl rfl (by have h0:=(aG MsgT.zero);have h1:=(aG MsgT.zero);omega) (cm ((aG MsgT.zero).trans (aG MsgT.zero).symm)) rfl ?_;refine oW ?_;refine nx J11 ?_;clear J11;refine ai ?_;refine ae ?_;clear J9;refine lB (H':=[]) rfl rfl rfl a9 rfl bW (dG 2 rfl rfl) (aG MsgT.zero) (λ_ s=>ak [] rfl s) ?_;exact⟨by simp[jy, *],rfl⟩;refine oW ?_;refine nx J4 ?_;clear J4;refine ab λ_ J12=>?_
 refine sr λ_ J13=>?_
 refine mv ?_;refine tp (nY (r:=true) rfl rfl rfl) ?_;refine mv ?_;refine kB (b:=true) rfl rfl rfl rfl (lb rfl) ?_;refine kB (b:=true) rfl rfl rfl rfl (lb rfl) ?_;refine tp (lT rfl rfl rfl) ?_;refine nx J13 ?_;clear J13;refine iG rfl ?_;refine sr λ_ J14=>?_
 refine tp (jL (cells:=(ints MsgT.zero.flat).toArray) rfl rfl (by as_aux_lemma=>kernel_rfl)) ?_;refine bF (vs:=ints MsgT.zero.flat) (i:=2) (aa rfl) rfl rfl rfl rfl rfl (by rw[(aG MsgT.zero)];exact bW) (bu _) rfl rfl (by have h0:=(aG MsgT.zero);have h1:=(aG MsgT.zero);omega) (cm ((aG MsgT.zero).trans (aG MsgT.zero).symm)) rfl ?_;refine oW ?_;refine nx J14 ?_;clear J14;refine ai ?_;refine ae ?_;clear J12;refine lB (H':=[]) rfl rfl rfl a9 rfl bW (dG 2 rfl rfl) (aG MsgT.zero) (λ_ s=>ak [] rfl s) ?_;exact⟨by simp[jy, *],rfl⟩
theorem Fh(rb mb gb:Nat)(v:Value)(bs:List UInt8)(m0:RecT)(g0:Bool):
 DT 82 #[(.pointer (some ⟨rb,0,none⟩)),(.pointer (some ⟨mb,0,none⟩)),(.pointer (some ⟨gb,0,none⟩))] (IsB v bs) [ag rb [v] 197,ag mb (ints m0.flat) 90,ag gb [(.bool (g0))] 4] (uq (λ_ H=>∃x' r a,H=ag rb [x'] 197::[ag mb (ints a.1.flat) 90,ag gb [.bool a.2] 4]∧Tail v bs x' r∧dd bs=some (a,r)) (λc H=>c=gZ∧∃(x':Value) (_:Unit),H=ag rb [x'] 197::[ag mb (ints m0.flat) 90,ag gb [.bool g0] 4]∧dd bs=none)):=by
 refine BD 9 Tryz.func82 rfl rfl rfl λw0 F hF=>ad (PS ?_)
 refine CP Nr (y8 rb v bs) ID (λ_ d _=>(hF).more d) (λcP HP hP=>?_) (λvR HR hR=>?_);obtain⟨vP,rfl,rfl,hpP⟩:=hP;exact WK [0,0,0] (aR ⟨rfl,_,(),rfl,hpP⟩);obtain⟨a1,r1,v1,rfl,rfl,hp1,ht1⟩:=hR;refine P3 ?_;refine SW 1 iN bl ?_;refine S0 2 ka ?_;exact ap (WK [0,0,0] (bz rfl ⟨_,_,_,rfl,ht1,hp1⟩))
theorem ug(x:Value)(bs:List UInt8):
 DT 49 #[x] (IsB x bs) [] (RI (.tuple #[.agg (ints (nq bs).1.flat).toArray, .int .i64 (nq bs).2]) []):=by
 refine Leg.Does.body (vs:=[x]) (n:=18) Tryz.func49 rfl rfl rfl (λw0 F hF=>?_);refine sr λ_ J1=>?_
 refine lA (aa rfl) rfl rfl rfl KV (λb2=>?_);change TL _ _ _ _ _ _ _ _ _ [ag b2 (ints RecT.zero.flat) 90];refine oW ?_;refine nx J1 ?_;clear J1;refine sr λ_ J2=>?_
 refine lA (aa rfl) rfl rfl rfl KV (λb4=>?_);change TL _ _ _ _ _ _ _ _ _ [ag b4 (ints RecT.zero.flat) 90,ag b2 (ints RecT.zero.flat) 90];refine nx J2 ?_;clear J2;refine sr λ_ J3=>?_
 refine lA (aa rfl) rfl rfl rfl z4 (λb5=>?_);refine bv (i:=0) (aa rfl) rfl rfl rfl rfl rfl ka rfl rfl (lb rfl) rfl rfl ?_;refine nx J3 ?_;clear J3;refine sr λ_ J4=>?_
 refine mv ?_;refine tp (N5 rfl rfl) ?_;refine gP (aa rfl) rfl rfl rfl Lt rfl (xY (bs:=bs) (C:=[ag b4 (ints RecT.zero.flat) 90,ag b5 [(.bool false)] 4]) (caps:=[(.pointer (some ⟨b4,0,none⟩)),(.pointer (some ⟨b5,0,none⟩))]) (A:=λa:RecT×Bool=>[ag b4 (ints a.1.flat) 90,ag b5 [.bool a.2] 4]) (G:=λ_:Unit=>[ag b4 (ints RecT.zero.flat) 90,ag b5 [(.bool false)] 4]) (φ:=λa r=>dd bs=some (a,r)) (ψ:=λ_=>dd bs=none) (λ_ h=>h) (λ_ _ h d=>h.more d) Ns (λrb=>Fh rb b4 b5 x bs RecT.zero false)) (λ_ s=>az [1,0] rfl s) (λ_ d _=>(hF).more d) (λvR HR hR=>?_);rcases hR with⟨r,⟨m,g⟩,rfl,rfl,hs⟩| ⟨_,rfl,rfl,hs⟩
 refine an (λh9=>?_) (λh9=>?_);refine oW ?_;refine nx J4 ?_;clear J4;refine ab λ_ J5=>?_
 refine sr λ_ J6=>?_
 refine mv ?_;refine tp (nY (r:=false) rfl rfl rfl) ?_;refine mv ?_;refine tq (e7 (v:=(.bool (g))) rfl Y4 rfl rfl (dG 1 rfl rfl) rfl) ?_;refine aW (λh13=>?_) (λh13=>?_);refine tq (nY (r:=false) rfl rfl rfl) ?_;refine tp (lT rfl rfl rfl) ?_;refine nx J6 ?_;clear J6;refine sz rfl ?_;refine aQ ?_;refine ac J5 ?_;clear J5;refine sr λ_ J7=>?_
 refine tp (aM (vs:=ints m.flat) rfl iI rfl iN rfl (dG 0 rfl rfl) (bl m) (whole (bl m))) ?_;refine bF (vs:=ints m.flat) (i:=2) (aa rfl) rfl rfl rfl rfl rfl (by rw[(bl m)];exact iN) (bu _) rfl rfl (by have h0:=(bl RecT.zero);have h1:=(bl m);omega) (cm ((bl RecT.zero).trans (bl m).symm)) rfl ?_;refine oW ?_;refine nx J7 ?_;clear J7;refine ai ?_;refine lB (H':=[]) rfl rfl rfl iI rfl iN (dG 2 rfl rfl) (bl m) (λ_ s=>ak [] rfl s) ?_;exact⟨by simp[nq, *],rfl⟩;refine tq (nY (r:=true) rfl rfl rfl) ?_;refine tp (lT rfl rfl rfl) ?_;refine nx J6 ?_;clear J6;refine iG rfl ?_;refine sr λ_ J8=>?_
 refine tp (jL (cells:=(ints RecT.zero.flat).toArray) rfl rfl (by as_aux_lemma=>kernel_rfl)) ?_;refine bF (vs:=ints RecT.zero.flat) (i:=2) (aa rfl) rfl rfl rfl rfl rfl (by rw[(bl RecT.zero)];exact iN) (bu _) rfl rfl (by have h0:=(bl RecT.zero);have h1:=(bl RecT.zero);omega) (cm ((bl RecT.zero).trans (bl RecT.zero).symm)) rfl ?_;refine oW ?_;refine nx J8 ?_;clear J8;refine ai ?_;refine ae ?_;clear J5;refine lB (H':=[]) rfl rfl rfl iI rfl iN (dG 2 rfl rfl) (bl RecT.zero) (λ_ s=>ak [] rfl s) ?_;exact⟨by simp[nq, *],rfl⟩;refine oW ?_;refine nx J4 ?_;clear J4;refine ab λ_ J9=>?_
 refine sr λ_ J10=>?_
 refine mv ?_;refine tp (nY (r:=true) rfl rfl rfl) ?_;refine mv ?_;refine kB (b:=true) rfl rfl rfl rfl (lb rfl) ?_;refine kB (b:=true) rfl rfl rfl rfl (lb rfl) ?_;refine tp (lT rfl rfl rfl) ?_;refine nx J10 ?_;clear J10;refine iG rfl ?_;refine sr λ_ J11=>?_
 refine tp (jL (cells:=(ints RecT.zero.flat).toArray) rfl rfl (by as_aux_lemma=>kernel_rfl)) ?_;refine bF (vs:=ints RecT.zero.flat) (i:=2) (aa rfl) rfl rfl rfl rfl rfl (by rw[(bl RecT.zero)];exact iN) (bu _) rfl rfl (by have h0:=(bl RecT.zero);have h1:=(bl RecT.zero);omega) (cm ((bl RecT.zero).trans (bl RecT.zero).symm)) rfl ?_;refine oW ?_;refine nx J11 ?_;clear J11;refine ai ?_;refine ae ?_;clear J9;refine lB (H':=[]) rfl rfl rfl iI rfl iN (dG 2 rfl rfl) (bl RecT.zero) (λ_ s=>ak [] rfl s) ?_;exact⟨by simp[nq, *],rfl⟩;refine oW ?_;refine nx J4 ?_;clear J4;refine ab λ_ J12=>?_
 refine sr λ_ J13=>?_
 refine mv ?_;refine tp (nY (r:=true) rfl rfl rfl) ?_;refine mv ?_;refine kB (b:=true) rfl rfl rfl rfl (lb rfl) ?_;refine kB (b:=true) rfl rfl rfl rfl (lb rfl) ?_;refine tp (lT rfl rfl rfl) ?_;refine nx J13 ?_;clear J13;refine iG rfl ?_;refine sr λ_ J14=>?_
 refine tp (jL (cells:=(ints RecT.zero.flat).toArray) rfl rfl (by as_aux_lemma=>kernel_rfl)) ?_;refine bF (vs:=ints RecT.zero.flat) (i:=2) (aa rfl) rfl rfl rfl rfl rfl (by rw[(bl RecT.zero)];exact iN) (bu _) rfl rfl (by have h0:=(bl RecT.zero);have h1:=(bl RecT.zero);omega) (cm ((bl RecT.zero).trans (bl RecT.zero).symm)) rfl ?_;refine oW ?_;refine nx J14 ?_;clear J14;refine ai ?_;refine ae ?_;clear J12;refine lB (H':=[]) rfl rfl rfl iI rfl iN (dG 2 rfl rfl) (bl RecT.zero) (λ_ s=>ak [] rfl s) ?_;exact⟨by simp[nq, *],rfl⟩
end Go.Proofs.YtjblgopghhgflaaGreat
end
