/-
  Joined texts:what a statement's proof reaches.
-/
import Derived.Test.YtfocodjhmkokpaaGreatDoorPWB3
set_option maxHeartbeats 8000000
set_option maxRecDepth 100000
set_option linter.unusedSimpArgs false
set_option linter.unusedVariables false
section
namespace Go.Proofs.YtfocodjhmkokpaaGreatDoor
open Go Leg Codec Api Dsk Wal
theorem EL(x:Value)(ps:List (List UInt8)):
 DT 180 #[x] (Nz x ps) [] (RI (.int .u32 (fQ ps.flatten)) []):=by
 refine BD 39 Tryz.func180 rfl rfl rfl λw0 F hF=>sr λ_ J1=>PS ?_
 refine nx J1 (sr λ_ J2=>PS ?_);refine nx J2 (aa λ_ J3=>sr λ_ J4=>PS ?_);refine tp (c8 rfl uF rfl hF.len) ?_;refine PS ?_;refine nx J4 (am ?_)
 refine bu (α:=(Nat)) (λk=>k≤ps.length) (λk=>[(2,(.int .u32 0)),(3,(.int .u32 (fg 4294967295 (ps.take k).flatten))),(8,x),(9,(.int .i64 (((ps.length:Nat):Int)))),(10,(.int .i64 (((k:Nat):Int))))]) (λk=>[]) (λk=>ps.length-k) 0
  (aN _) SB
  (λ_ s=>s) (λk hinv=>?_)
 obtain hk:=hinv;refine sr λ_ J5=>PS ?_
 refine ao ?_ ?_<;>intro h11;obtain⟨b_a,off_a,cap_a,cs_a,T_a,z_a,us_a,hv_a,hc_a,hb_a,hl_a,hs_a,hE_a⟩:=IsL.at hF (j:=k) (by omega);obtain⟨u_a,rfl,hu_a⟩:=hE_a;refine nx J5 (aa λ_ J6=>CY (qx J6 (aa λ_ J7=>am (sr λ_ J8=>tp (bg (r:=off_a+k) hv_a rfl uF kj rfl rfl (by omega) (by omega) (by omega)) ?_))));refine tp (bZ (v:=u_a) rfl e8 rfl rfl (iV hb_a (λ_ h=>dG h)) (by have:=AO (j:=0) hs_a rfl;simpa using this)) ?_;refine PS ?_;refine nx J8 (sr λ_ J9=>PS ?_);refine tp (c8 rfl e8 rfl hu_a.len) ?_;refine PS ?_;refine nx J9 (am ?_)
 refine bu (α:=(Nat)) (λj=>j≤ps[k].length) (λj=>[(2,(.int .u32 0)),(3,(.int .u32 (fg (fg 4294967295 (ps.take k).flatten) (ps[k].take j)))),(8,x),(9,(.int .i64 (((ps.length:Nat):Int)))),(10,(.int .i64 (((k:Nat):Int)))),(14,u_a),(15,(.int .i64 (((ps[k].length:Nat):Int)))),(16,(.int .i64 (((j:Nat):Int))))]) (λj=>[]) (λj=>ps[k].length-j) 0
  (aN _) SB
  (λ_ s=>s) (λj hinv=>?_)
 obtain hj:=hinv;refine sr λ_ J10=>PS ?_
 refine ao ?_ ?_<;>intro h17;obtain⟨b_b,off_b,cap_b,cs_b,T_b,z_b,hv_b,hb_b,hcs_b,hcp_b⟩:=IsW.at hu_a (j:=j) (by omega);have hlt_b:=IsW.lt hu_a;refine nx J10 (aa λ_ J11=>CY (qx J11 (aa λ_ J12=>am (sr λ_ J13=>tp (bg (r:=off_b+j) hv_b rfl e8 js rfl rfl (by omega) (by omega) (by omega)) ?_))));refine tp (bZ (v:=(.int .u8 (((((ps[k]).getD j 0).toNat:Nat):Int)))) rfl Y5 rfl rfl (iV hb_b (λ_ h=>dG h)) (hcs_b j (by omega))) ?_;refine PS ?_;refine nx J13 (sr λ_ J14=>P2 ?_);refine tp (cp (r:=((((ps[k]).getD j 0).toNat:Nat):Int)) rfl Y5 Al rfl (kf (by omega) (by have:=(ps[k].getD j 0).toNat_lt;omega))) ?_;refine tp (PV.xor (r:=o5 .u32 (fg (fg 4294967295 (ps.take k).flatten) (ps[k].take j)) (((((ps[k]).getD j 0).toNat:Nat):Int))) rfl rfl rfl rfl) ?_;refine PS ?_;refine nx J14 (sr λ_ J15=>PS ?_);refine nx J15 (am ?_)
 refine bu (α:=(Nat)) (λi=>i≤8) (λi=>[(2,(.int .u32 0)),(3,(.int .u32 (l9 (o5 .u32 (fg (fg 4294967295 (ps.take k).flatten) (ps[k].take j)) ((((ps[k]).getD j 0).toNat:Nat):Int)) i))),(8,x),(9,(.int .i64 (((ps.length:Nat):Int)))),(10,(.int .i64 (((k:Nat):Int)))),(14,u_a),(15,(.int .i64 (((ps[k].length:Nat):Int)))),(16,(.int .i64 (((j:Nat):Int)))),(24,(.int .i64 (((i:Nat):Int))))]) (λi=>[]) (λi=>8-i) 0
  (aN _) SB
  (λ_ s=>s) (λi hinv=>?_)
 obtain hi:=hinv;refine sr λ_ J16=>PS ?_
 refine ao ?_ ?_<;>intro h25;refine nx J16 (aa λ_ J17=>CY (qx J17 (aa λ_ J18=>am (sr λ_ J19=>PS ?_))));refine tp (iD (r:=qc .u32 (l9 (o5 .u32 (fg (fg 4294967295 (ps.take k).flatten) (ps[k].take j)) ((((ps[k]).getD j 0).toNat:Nat):Int)) i) 1) rfl rfl rfl rfl) ?_;refine PS ?_;refine ao ?_ ?_<;>intro h28;refine nx J19 (CY (ad (PS ?_)));refine tp (gM (r:=(l9 (o5 .u32 (fg (fg 4294967295 (ps.take k).flatten) (ps[k].take j)) ((((ps[k]).getD j 0).toNat:Nat):Int)) i).fdiv 2) rfl rfl rfl (by omega) rfl) ?_;refine tp (PV.xor (r:=o5 .u32 ((l9 (o5 .u32 (fg (fg 4294967295 (ps.take k).flatten) (ps[k].take j)) ((((ps[k]).getD j 0).toNat:Nat):Int)) i).fdiv 2) 3988292384) rfl rfl rfl rfl) ?_;refine PS ?_;refine ap (af (ac J18 (ad (AD ?_))));refine PS ?_;refine ap ?_
 exact aJ ((i+1):(Nat)) (by omega) (by show 8- (i+1)<8-i;omega)
  (aX (bC rfl (congrArg (Value.int .u32) (by rw[l9,D8,if_pos h28])) SB))
  (λ_ s=>s)
 refine nx J19 (CN (ad (PS ?_)));refine tp (gM (r:=(l9 (o5 .u32 (fg (fg 4294967295 (ps.take k).flatten) (ps[k].take j)) ((((ps[k]).getD j 0).toNat:Nat):Int)) i).fdiv 2) rfl rfl rfl (by omega) rfl) ?_;refine PS ?_;refine ap (af (ac J18 (ad (AD ?_))));refine PS ?_;refine ap ?_
 exact aJ ((i+1):(Nat)) (by omega) (by show 8- (i+1)<8-i;omega)
  (aX (bC rfl (congrArg (Value.int .u32) (by rw[l9,D8,if_neg h28])) SB))
  (λ_ s=>s)
 refine nx J16 (aa λ_ J20=>CN (aV (ay (ay (bh (af (ac J12 (ad (AD ?_)))))))));refine PS ?_;refine ap ?_
 exact aJ ((j+1):(Nat)) (by omega) (by show ps[k].length- (j+1)<ps[k].length-j;omega)
  (aX (bC rfl (congrArg (Value.int .u32) (by obtain rfl:i=8:=(by omega);rw[Ca (by omega)];rfl)) SB))
  (λ_ s=>s)
 refine nx J10 (aa λ_ J21=>CN (aV (ay (ay (bh (af (ac J7 (ad (AD ?_)))))))));refine PS ?_;refine ap ?_
 exact aJ ((k+1):(Nat)) (by omega) (by show ps.length- (k+1)<ps.length-k;omega)
  (aX (bC rfl (congrArg (Value.int .u32) (by rw[show j=ps[k].length by omega,eV,Cb (by omega)])) SB))
  (λ_ s=>s)
 refine nx J5 (aa λ_ J22=>CN (aV (ay (ay (bh (ac J3 (sr λ_ J23=>PS ?_)))))));refine tp (PV.com (r:=o5 .u32 4294967295 (fg 4294967295 (ps.take k).flatten)) rfl rfl rfl) ?_;refine PS ?_;refine nx J23 (ah (WK [] (av rfl rfl ?_)));obtain rfl:k=ps.length:=by omega
 rw[eV];exact⟨rfl,rfl⟩
theorem tC(x:Value)(bs:List UInt8)(hb:bs.length≤1000000000):
 DT 190 #[x] (IsW x bs) [] (c9 (λv H=>H=[cu v (pv bs) 5])):=by
 refine BD 29 Tryz.func190 rfl rfl rfl λw0 F hF=>sr λ_ J1=>PS ?_
 refine nx J1 (sr λ_ J2=>PS ?_);refine aL (cells:=#[x]) (ab rfl) rfl rfl rfl uF Gv rfl rfl rfl (st hF.one (by simp)) (λb6=>CF Ke (EL (.slice (some ⟨b6,0,none⟩) (1) (1)) [bs]) ID (BI hF 0 rfl rfl) ?_);rw[show [bs].flatten=bs by simp];refine PS ?_;refine nx J2 (sr λ_ J3=>PS ?_);refine tp (c8 rfl e8 rfl hF.len) ?_;refine AD ?_;refine TL.makeB (0) (bs.length+4) (ab rfl) rfl rfl rfl e8 sH rfl rfl rfl (by omega) (by omega) (by omega) (λb11=>ce (H':=[cu (.slice (some ⟨b11,0,none⟩) 0 (bs.length+4)) ([]) 5,aj b6 [x] 53]) (λ_ s=>rI 0 rfl rfl (by omega) (by simp only[maxLen];omega) (by simp[dw]) rfl s) (PS ?_));refine nx J3 (sr λ_ J4=>P2 ?_);refine bO (k:=0) (news:=dw (bs)) (nn':=(bs:List UInt8).length) (xs':=dw (bs)) (ab rfl) rfl rfl rfl e8 sH rfl rfl rfl rfl rfl rfl (λ_ _=>hF.src (λ_ h=>dG h)) (eB _) (by simp only[maxLen,az];omega) (by simp only[az];omega) (by simp) (ca _) (λv14 ov14=>PS ?_);refine nx J4 (sr λ_ J5=>P2 ?_);refine tp (cp (r:=(((r8 (fQ bs)).toNat:Nat):Int)) rfl Al Y5 rfl (r8_wrap _)) ?_;refine PS ?_;refine tp (gM (r:=(fQ bs).fdiv 256) rfl rfl rfl (by omega) rfl) ?_;refine tp (cp (r:=(((r8 ((fQ bs).fdiv 256)).toNat:Nat):Int)) rfl Al Y5 rfl (r8_wrap _)) ?_;refine PS ?_;refine tp (gM (r:=(fQ bs).fdiv 65536) rfl rfl rfl (by omega) rfl) ?_;refine tp (cp (r:=(((r8 ((fQ bs).fdiv 65536)).toNat:Nat):Int)) rfl Al Y5 rfl (r8_wrap _)) ?_;refine PS ?_
 refine tp (gM (r:=(fQ bs).fdiv 16777216) rfl rfl rfl (by omega) rfl) ?_;refine tp (cp (r:=(((r8 ((fQ bs).fdiv 16777216)).toNat:Nat):Int)) rfl Al Y5 rfl (r8_wrap _)) ?_;refine aL (cells:=#[(.int .u8 ((((r8 (fQ bs)).toNat:Nat):Int))),(.int .u8 ((((r8 ((fQ bs).fdiv 256)).toNat:Nat):Int))),(.int .u8 ((((r8 ((fQ bs).fdiv 65536)).toNat:Nat):Int))),(.int .u8 ((((r8 ((fQ bs).fdiv 16777216)).toNat:Nat):Int)))]) (ab rfl) rfl rfl rfl e8 sH rfl rfl rfl (by as_aux_lemma=>kernel_rfl) (λb27=>bO (k:=1) (news:=dw ([(r8 (fQ bs)),(r8 ((fQ bs).fdiv 256)),(r8 ((fQ bs).fdiv 65536)),(r8 ((fQ bs).fdiv 16777216))])) (nn':=(bs++[(r8 (fQ bs)),(r8 ((fQ bs).fdiv 256)),(r8 ((fQ bs).fdiv 65536)),(r8 ((fQ bs).fdiv 16777216))]:List UInt8).length) (xs':=dw (bs++[(r8 (fQ bs)),(r8 ((fQ bs).fdiv 256)),(r8 ((fQ bs).fdiv 65536)),(r8 ((fQ bs).fdiv 16777216))])) (ab rfl) rfl rfl rfl e8 sH rfl rfl rfl rfl rfl rfl (λ_ _=>fB rfl (RO 0) rfl) (eB [(r8 (fQ bs)),(r8 ((fQ bs).fdiv 256)),(r8 ((fQ bs).fdiv 65536)),(r8 ((fQ bs).fdiv 16777216))]) (by simp only[maxLen];omega) (by omega) (by simp) (fL _ _).symm (λv28 ov28=>PS ?_));exact nx J5 (ah (WK [1] (av rfl rfl rfl)))
theorem Fv(a:Option Addr)(c:Nat)(bs:List UInt8)(hc:bs.length≤c)(hb:bs.length≤1000000000):
 DT 157 #[(.slice a bs.length c)] (IsW (.slice a bs.length c) bs) [] (c9 (λv H=>(mx bs=none∧v= .tuple #[.slice none 0 0, .bool false]∧H=[])∨∃t u,mx bs=some t∧v= .tuple #[u, .bool true]∧H=[cu u t 5])):=by
 refine BD 50 Tryz.func157 rfl rfl rfl λw0 F hF=>sr λ_ J1=>P2 ?_
 refine nx J1 (aa λ_ J2=>sr λ_ J3=>PS ?_);refine tp (c8 rfl e8 rfl ⟨_,_,rfl⟩) ?_;refine PS ?_;refine ao ?_ ?_<;>intro h9;refine nx J3 (CY (sr λ_ J4=>P2 ?_));refine nx J4 (ah (ae (WK [] (gJ rfl rfl rfl ?_))));exact .inl ⟨by rw[mx,if_pos (by omega)],rfl,rfl⟩;have hT:IsW (jz (.slice a bs.length c) 0 (bs.length-4)) (bs.take (bs.length-4)) F:=by have:=hF.cut (lo:=0) (hi:=bs.length-4) (by omega) (by omega);simpa using this
 have hU:IsW (jz (.slice a bs.length c) (bs.length-4) bs.length) (bs.drop (bs.length-4)) F:=by have:=hF.cut (lo:=bs.length-4) (hi:=bs.length) (by omega) (by omega);rwa [eV]at this
 have hq:(bs.drop (bs.length-4)).length=4:=by rw[bN];omega
 obtain⟨b_b,off_b,cap_b,cs_b,T_b,z_b,hv_b,hb_b,hcs_b,hcp_b⟩:=IsW.at hU (j:=0) (by omega);have hlt_b:=IsW.lt hU;refine nx J3 (CN (qx J2 (aa λ_ J5=>D0 cN ?_)));refine PD 0 ?_;refine PD 1 ?_;refine ta 2 rfl (c8 rfl e8 rfl ⟨_,_,rfl⟩) ?_;refine ta 3 rfl (ik (r:=(((bs.length-4:Nat):Nat):Int)) rfl rfl rfl (by rw[show(((bs.length:Nat):Int)-4)=((bs.length-4:Nat):Int)by omega];exact bG (by omega) (by omega))) ?_;refine ta 4 rfl (PV.sliceH (hi:=bs.length-4) rfl e8 js rfl rfl rfl (by omega)) ?_;refine PD 5 ?_;refine PD 6 ?_;refine ta 7 rfl (c8 rfl e8 rfl ⟨_,_,rfl⟩) ?_;refine ta 8 rfl (ik (r:=(((bs.length-4:Nat):Nat):Int)) rfl rfl rfl (by rw[show(((bs.length:Nat):Int)-4)=((bs.length-4:Nat):Int)by omega];exact bG (by omega) (by omega))) ?_;refine ta 9 rfl (PV.sliceL (lo:=bs.length-4) rfl e8 js rfl rfl rfl (by omega)) ?_;refine PD 10 ?_;refine PD 11 ?_;refine DN (ac J5 (aa λ_ J6=>D0 cN ?_));refine PD 0 ?_;refine ta 1 rfl (bg (r:=off_b) hv_b rfl e8 js rfl rfl (by omega) (by omega) (by omega)) ?_;refine ta 2 rfl (bZ (v:=(.int .u8 ((((((bs.drop (bs.length-4))).getD 0 0).toNat:Nat):Int)))) rfl Y5 rfl rfl (iV hb_b (λ_ h=>h.1)) (hcs_b 0 (by omega))) ?_;refine ta 3 rfl (cp (r:=(((((bs.drop (bs.length-4))).getD 0 0).toNat:Nat):Int)) rfl Y5 Al rfl (kf (by omega) (by have:=UInt8.toNat_lt (n:=(bs.drop (bs.length-4)).getD 0 0);omega))) ?_;refine PD 4 ?_
 refine ta 5 rfl (bg (r:=off_b+1) hv_b rfl e8 js rfl rfl (by omega) (by omega) (by omega)) ?_;refine ta 6 rfl (bZ (v:=(.int .u8 ((((((bs.drop (bs.length-4))).getD 1 0).toNat:Nat):Int)))) rfl Y5 rfl rfl (iV hb_b (λ_ h=>h.1)) (hcs_b 1 (by omega))) ?_;refine ta 7 rfl (cp (r:=(((((bs.drop (bs.length-4))).getD 1 0).toNat:Nat):Int)) rfl Y5 Al rfl (kf (by omega) (by have:=UInt8.toNat_lt (n:=(bs.drop (bs.length-4)).getD 1 0);omega))) ?_;refine ta 8 rfl (uJ (r:=IntKind.u32.wrap ((((((bs.drop (bs.length-4))).getD 1 0).toNat:Nat):Int)*2^8)) rfl rfl rfl (by omega) rfl) ?_;refine ta 9 rfl (Ff (r:=ig .u32 (((((bs.drop (bs.length-4))).getD 0 0).toNat:Nat):Int) (IntKind.u32.wrap ((((((bs.drop (bs.length-4))).getD 1 0).toNat:Nat):Int)*2^8))) rfl rfl rfl rfl) ?_;refine PD 10 ?_;refine ta 11 rfl (bg (r:=off_b+2) hv_b rfl e8 js rfl rfl (by omega) (by omega) (by omega)) ?_;refine ta 12 rfl (bZ (v:=(.int .u8 ((((((bs.drop (bs.length-4))).getD 2 0).toNat:Nat):Int)))) rfl Y5 rfl rfl (iV hb_b (λ_ h=>h.1)) (hcs_b 2 (by omega))) ?_;refine ta 13 rfl (cp (r:=(((((bs.drop (bs.length-4))).getD 2 0).toNat:Nat):Int)) rfl Y5 Al rfl (kf (by omega) (by have:=UInt8.toNat_lt (n:=(bs.drop (bs.length-4)).getD 2 0);omega))) ?_;refine ta 14 rfl (uJ (r:=IntKind.u32.wrap ((((((bs.drop (bs.length-4))).getD 2 0).toNat:Nat):Int)*2^16)) rfl rfl rfl (by omega) rfl) ?_
 refine ta 15 rfl (Ff (r:=ig .u32 (ig .u32 (((((bs.drop (bs.length-4))).getD 0 0).toNat:Nat):Int) (IntKind.u32.wrap ((((((bs.drop (bs.length-4))).getD 1 0).toNat:Nat):Int)*2^8))) (IntKind.u32.wrap ((((((bs.drop (bs.length-4))).getD 2 0).toNat:Nat):Int)*2^16))) rfl rfl rfl rfl) ?_;refine PD 16 ?_;refine ta 17 rfl (bg (r:=off_b+3) hv_b rfl e8 js rfl rfl (by omega) (by omega) (by omega)) ?_;refine ta 18 rfl (bZ (v:=(.int .u8 ((((((bs.drop (bs.length-4))).getD 3 0).toNat:Nat):Int)))) rfl Y5 rfl rfl (iV hb_b (λ_ h=>h.1)) (hcs_b 3 (by omega))) ?_;refine ta 19 rfl (cp (r:=(((((bs.drop (bs.length-4))).getD 3 0).toNat:Nat):Int)) rfl Y5 Al rfl (kf (by omega) (by have:=UInt8.toNat_lt (n:=(bs.drop (bs.length-4)).getD 3 0);omega))) ?_;refine ta 20 rfl (uJ (r:=IntKind.u32.wrap ((((((bs.drop (bs.length-4))).getD 3 0).toNat:Nat):Int)*2^24)) rfl rfl rfl (by omega) rfl) ?_;refine ta 21 rfl (Ff (r:=Ib ((bs.drop (bs.length-4)).getD 0 0) ((bs.drop (bs.length-4)).getD 1 0) ((bs.drop (bs.length-4)).getD 2 0) ((bs.drop (bs.length-4)).getD 3 0)) rfl rfl rfl rfl) ?_;refine PD 22 ?_;refine DN (ac J6 (aa λ_ J7=>sr λ_ J8=>PS ?_));refine aL (cells:=#[(jz (.slice a bs.length c) 0 (bs.length-4))]) (ab rfl) rfl rfl rfl uF Gv rfl rfl rfl (st hT.one (by simp)) (λb43=>CF Ke (EL (.slice (some ⟨b43,0,none⟩) (1) (1)) [(bs.take (bs.length-4))]) ID (BI hT 0 rfl rfl) ?_)
 rw[show [(bs.take (bs.length-4))].flatten=(bs.take (bs.length-4))by simp];refine P2 ?_;refine ao ?_ ?_<;>intro h46;refine nx J8 (CY (sr λ_ J9=>P2 ?_));refine nx J9 (ah (ae (WK [] (gJ rfl rfl rfl ?_))));exact .inl ⟨by rw[mx,if_neg (by omega),if_neg h46],rfl,rfl⟩;refine nx J8 (CN (qx J7 (sr λ_ J10=>Cp (ab rfl) rfl rfl rfl e8 js (λv47=>PS ?_))));refine bO (k:=0) (news:=dw ((bs.take (bs.length-4)))) (nn':=((bs.take (bs.length-4)):List UInt8).length) (xs':=dw ((bs.take (bs.length-4)))) (ab rfl) rfl rfl rfl e8 sH rfl rfl rfl rfl rfl rfl (λ_ _=>hT.src (λ_ h=>dG h)) (eB _) (by simp only[maxLen,az,bq];omega) (by simp only[az,bq];omega) (by simp) (ca _) (λv49 ov49=>P2 ?_);refine nx J10 (ah (WK [0] (gJ rfl rfl rfl ?_)));exact .inr ⟨_,_,by rw[mx,if_neg (by omega),if_pos (by simpa using h46)],rfl,rfl⟩
theorem ye(x:Value)(bs:List UInt8)(hb:bs.length≤1000000000):DT 157 #[x] (IsW x bs) [] (c9 (λv H=>(mx bs=none∧v= .tuple #[.slice none 0 0, .bool false]∧H=[])∨∃t u,mx bs=some t∧v= .tuple #[u, .bool true]∧H=[cu u t 5])):=λw G h m=>by
 obtain⟨a,c,rfl,hc,_⟩:=h.form;exact Fv a c bs hc hb w G h m
theorem tO(n:Nat)(hn:n≤1000000000000):
 DT 171 #[(.int .i64 (((n:Nat):Int)))] T0 [] (RI (.int .i64 ((bA n:Nat):Int)) []):=by
 refine BD 9 Tryz.func171 rfl rfl rfl λw0 F hF=>sr λ_ J1=>PS ?_
 refine nx J1 (aa λ_ J2=>sr λ_ J3=>P2 ?_);refine ao ?_ ?_<;>intro h4;refine nx J3 (CY (sr λ_ J4=>PS ?_));refine nx J4 (ah (ae (WK [] (av rfl rfl ?_))));obtain rfl:n=0:=by omega
 exact⟨rfl,rfl⟩;refine nx J3 (CN (qx J2 (sr λ_ J5=>PS ?_)));refine tp (ik rfl rfl rfl (bG (by omega) (by omega))) ?_;refine tp (PV.quo (r:=(((n-1) / 52:Nat):Int)) rfl rfl rfl (by omega) (by rw[show(((n:Nat):Int)-1)=((n-1:Nat):Int)by omega];exact KS (n-1) 52 (by omega))) ?_;refine AD ?_;refine PS ?_;refine nx J5 (ah (WK [] (av rfl rfl ?_)));rw[bA,if_neg (by omega)];exact⟨by simp,rfl⟩
theorem C9{number:Int}{bs:List UInt8}{k:Nat}:mA number bs (k+1)=mA number bs k++[pv (jk number k (bA bs.length) (gl bs k))++[1]]:=C8 number bs k
theorem zo(a:Option Addr)(c number:Nat)(bs:List UInt8)(hc:bs.length≤c)(hb:bs.length≤3000):
 DT 173 #[(.int .i64 (((number:Nat):Int))),(.slice a bs.length c)] (IsW (.slice a bs.length c) bs) [] (c9 (λv H=>H=[lT 53 5 v (cr ((number:Nat):Int) bs)])):=by
 refine BD 68 Tryz.func173 rfl rfl rfl λw0 F hF=>sr λ_ J1=>PS ?_
 refine nx J1 (sr λ_ J2=>PS ?_);refine tp (c8 rfl e8 rfl ⟨_,_,rfl⟩) ?_;refine CE Kf (tO bs.length (by omega)) ID ?_;refine PS ?_;refine nx J2 (sr λ_ J3=>PS ?_);refine nx J3 (aa λ_ J4=>sr λ_ J5=>P2 ?_);refine nx J5 (am ?_)
 refine bu (α:=(Nat)×(Value)) (λ⟨k,vr⟩=>k≤bA bs.length∧vr.oneCell'=true) (λ⟨k,vr⟩=>[(0,(.int .i64 (((number:Nat):Int)))),(1,(.slice a bs.length c)),(4,(.slice none 0 0)),(5,(.int .i64 (((bA bs.length:Nat):Int)))),(6,vr),(14,(.int .i64 (((bA bs.length:Nat):Int)))),(15,(.int .i64 (((k:Nat):Int))))]) (λ⟨k,vr⟩=>[lT 53 5 vr (mA ((number:Nat):Int) bs k)]) (λ⟨k,vr⟩=>bA bs.length-k) (0,(.slice none 0 0))
  ⟨aN _,rfl⟩ SB
  (λ_ s=>tG 53 5 s) (λ⟨k,vr⟩ hinv=>?_)
 obtain⟨hk,hvr⟩:=hinv;refine sr λ_ J6=>PS ?_
 refine ao ?_ ?_<;>intro h16;have hkn:=Jm (n:=bs.length) (k:=k) (by omega);have hpe:=Jn bs k;have hP:IsW (jz (.slice a bs.length c) (k*52) (min ((k+1)*52) bs.length)) (gl bs k) F:=by rw[←hpe];exact hF.cut (by omega) (by omega)
 have hpl:=s4 bs k;have hpk:=vY hb;have hP2:=hP.len;refine nx J6 (aa λ_ J7=>CY (qx J7 (aa λ_ J8=>am (sr λ_ J9=>P2 ?_))));refine nx J9 (sr λ_ J10=>P2 ?_);refine tp (GV (r:=((k*52:Nat):Int)) rfl rfl rfl (by rw[show((k:Nat):Int)*52=((k*52:Nat):Int)by omega];exact bG (by omega) (by omega))) ?_;refine PS ?_;refine AD ?_;refine tp (GV (r:=(((k+1)*52:Nat):Int)) rfl rfl rfl (by rw[show(((k:Nat):Int)+1)*52=(((k+1)*52:Nat):Int)by omega];exact bG (by omega) (by omega))) ?_;refine PS ?_;refine tp (c8 rfl e8 rfl ⟨_,_,rfl⟩) ?_;refine tp (PV.minI rfl rfl rfl) ?_;refine tp (PV.sliceLH (lo:=k*52) (hi:=min ((k+1)*52) bs.length) rfl e8 js rfl rfl rfl rfl (by omega) (by omega) (by omega)) ?_;refine PS ?_;refine nx J10 (sr λ_ J11=>TL.makeB (59) (59) (ab rfl) rfl rfl rfl e8 sH rfl rfl rfl rfl (by omega) (by omega) (λb28=>PS ?_));refine nx J11 (aa λ_ J12=>sr λ_ J13=>PS ?_);refine nx J13 (am (gK 5 (sr λ_ J14=>PS ?_)));refine nx J14 (aa λ_ J15=>CY (qx J15 (aa λ_ J16=>am (sr λ_ J17=>P2 ?_))));refine nx J17 (ad (P4 ?_));refine tp (ik (r:=3) rfl rfl rfl (by decide)) ?_;refine tp (GV (r:=24) rfl rfl rfl (by decide)) ?_;refine tp (gM (r:=((number:Nat):Int).fdiv 16777216) rfl rfl rfl (by omega) rfl) ?_;refine tp (cp (r:=(((r8 (((number:Nat):Int).fdiv 16777216)).toNat:Nat):Int)) rfl Y3 Y5 rfl (r8_wrap _)) ?_
 refine tp (ji (r:=0) rfl e8 js rfl rfl (by first|omega|decide) (by first|omega|decide) rfl) ?_;refine S0 0 js ?_;refine ap (af (ac J16 (ad (tp (bv (r:=1) rfl rfl rfl (by decide)) ?_))));refine PS ?_;refine ap (bH (sr λ_ J18=>PS ?_));refine nx J18 (aa λ_ J19=>CY (qx J19 (aa λ_ J20=>am (sr λ_ J21=>P2 ?_))));refine nx J21 (ad (P4 ?_));refine tp (ik (r:=2) rfl rfl rfl (by decide)) ?_;refine tp (GV (r:=16) rfl rfl rfl (by decide)) ?_;refine tp (gM (r:=((number:Nat):Int).fdiv 65536) rfl rfl rfl (by omega) rfl) ?_;refine tp (cp (r:=(((r8 (((number:Nat):Int).fdiv 65536)).toNat:Nat):Int)) rfl Y3 Y5 rfl (r8_wrap _)) ?_;refine tp (ji (r:=1) rfl e8 js rfl rfl (by first|omega|decide) (by first|omega|decide) rfl) ?_;refine S0 0 js ?_;refine ap (af (ac J20 (ad (tp (bv (r:=2) rfl rfl rfl (by decide)) ?_))));refine PS ?_;refine ap (bH (sr λ_ J22=>PS ?_));refine nx J22 (aa λ_ J23=>CY (qx J23 (aa λ_ J24=>am (sr λ_ J25=>P2 ?_))));refine nx J25 (ad (P4 ?_));refine tp (ik (r:=1) rfl rfl rfl (by decide)) ?_;refine tp (GV (r:=8) rfl rfl rfl (by decide)) ?_;refine tp (gM (r:=((number:Nat):Int).fdiv 256) rfl rfl rfl (by omega) rfl) ?_;refine tp (cp (r:=(((r8 (((number:Nat):Int).fdiv 256)).toNat:Nat):Int)) rfl Y3 Y5 rfl (r8_wrap _)) ?_;refine tp (ji (r:=2) rfl e8 js rfl rfl (by first|omega|decide) (by first|omega|decide) rfl) ?_;refine S0 0 js ?_
 refine ap (af (ac J24 (ad (tp (bv (r:=3) rfl rfl rfl (by decide)) ?_))));refine PS ?_;refine ap (bH (sr λ_ J26=>PS ?_));refine nx J26 (aa λ_ J27=>CY (qx J27 (aa λ_ J28=>am (sr λ_ J29=>P2 ?_))));refine nx J29 (ad (P4 ?_));refine tp (ik (r:=0) rfl rfl rfl (by decide)) ?_;refine tp (GV (r:=0) rfl rfl rfl (by decide)) ?_;refine tp (gM (r:=((number:Nat):Int)) rfl rfl rfl (by omega) (Int.fdiv_one _)) ?_;refine tp (cp (r:=(((r8 (((number:Nat):Int))).toNat:Nat):Int)) rfl Y3 Y5 rfl (r8_wrap _)) ?_;refine tp (ji (r:=3) rfl e8 js rfl rfl (by first|omega|decide) (by first|omega|decide) rfl) ?_;refine S0 0 js ?_;refine ap (af (ac J28 (ad (tp (bv (r:=4) rfl rfl rfl (by decide)) ?_))));refine PS ?_;refine ap (bH (sr λ_ J30=>PS ?_));refine nx J30 (aa λ_ J31=>CN (aV (ay (ay (bh (ac J12 (sr λ_ J32=>P4 ?_)))))));refine tp (cp (r:=(((r8 (((k:Nat):Int))).toNat:Nat):Int)) rfl Y3 Y5 rfl (r8_wrap _)) ?_;refine PS ?_;refine tp (cp (r:=(((r8 (((bA bs.length:Nat):Int))).toNat:Nat):Int)) rfl Y3 Y5 rfl (r8_wrap _)) ?_;refine PS ?_;refine tp (c8 rfl e8 rfl hP2) ?_;refine tp (cp (r:=(((r8 ((((gl bs k).length:Nat):Int))).toNat:Nat):Int)) rfl Y3 Y5 rfl (r8_wrap _)) ?_;refine tp (ji (r:=4) rfl e8 js rfl rfl (by first|omega|decide) (by first|omega|decide) rfl) ?_;refine S0 0 js ?_;refine tp (ji (r:=5) rfl e8 js rfl rfl (by first|omega|decide) (by first|omega|decide) rfl) ?_;refine S0 0 js ?_
 refine tp (ji (r:=6) rfl e8 js rfl rfl (by first|omega|decide) (by first|omega|decide) rfl) ?_;refine S0 0 js ?_;refine nx J32 (sr λ_ J33=>PS ?_);refine tp (xR (k:=7) (v:=(.slice (some ⟨b28,7,none⟩) (52) (52))) rfl e8 js rfl rfl rfl (by decide) rfl) ?_;refine PS ?_;refine LK (i:=0) (m:=(gl bs k).length) (news:=(dw (gl bs k))) (H':=[aj b28 (dw (jk ((number:Nat):Int) k (bA bs.length) (gl bs k))) 5,lT 53 5 vr (mA ((number:Nat):Int) bs k)]) (ab rfl) rfl rfl rfl e8 js rfl rfl rfl rfl (λ_ _=>hP.src (λ_ h=>dG h)) (eB _) (by show 7+min (gl bs k).length 52≤59;omega) (Fu (number:=((number:Nat):Int)) (place:=k) (all:=bA bs.length) hpl) rfl (nx J33 (ad (P2 ?_)));refine CQ Ka (tC (.slice (some ⟨b28,0,none⟩) (59) (59)) (jk ((number:Nat):Int) k (bA bs.length) (gl bs k)) (by rw[iZ hpl];decide)) ID (λg d s=>IS (If 0 59 (iZ hpl) (by decide) rfl rfl g d s)) λvR HR hR=>?_
 subst hR;refine aL (cells:=#[(.int .u8 1)]) (ab rfl) rfl rfl rfl e8 sH rfl rfl rfl (by as_aux_lemma=>kernel_rfl) (λb62=>bO (k:=1) (news:=dw ([1])) (nn':=(pv (jk ((number:Nat):Int) k (bA bs.length) (gl bs k))++[1]:List UInt8).length) (xs':=dw (pv (jk ((number:Nat):Int) k (bA bs.length) (gl bs k))++[1])) (ab rfl) rfl rfl rfl e8 sH rfl rfl rfl rfl rfl rfl (λ_ _=>fB rfl (RO 0) rfl) (eB [1]) (by rw[kq,iZ hpl];simp only[maxLen];omega) (by rw[kq,iZ hpl];omega) (by simp) (fL _ _).symm (λv63 ov63=>aL (cells:=#[v63]) (ab rfl) rfl rfl rfl uF Gv rfl rfl rfl (st ov63 (by simp)) (λb64=>?_)));change TL _ _ _ _ _ _ _ _ _ [aj b64 [v63] 53,aj b62 [(.int .u8 1)] 5,cu v63 (pv (jk ((number:Nat):Int) k (bA bs.length) (gl bs k))++[1]) 5,aj b28 (dw (jk ((number:Nat):Int) k (bA bs.length) (gl bs k))) 5,lT 53 5 vr (mA ((number:Nat):Int) bs k)];refine ce (λ_ s=>aA [4] rfl s) (KF (λus65=>bO (k:=0) (m:=1) (news:=[v63]) (nn':=(mA ((number:Nat):Int) bs k).length+1) (xs':=us65++[v63]) (ab rfl) rfl rfl rfl uF Gv rfl rfl rfl rfl rfl rfl (λ_ _=>fB rfl (RO 2) rfl) (List.forall_mem_cons.2 ⟨ov63,λ_ h=>by cases h⟩) (by rw[yi];simp only[maxLen];omega) (by rw[yi];omega) rfl rfl (λv65 ov65=>?_)))
 change TL _ _ _ _ _ _ _ _ _ [own v65 ((mA ((number:Nat):Int) bs k).length+1) (us65++[v63]) 53 1,ei us65 (mA ((number:Nat):Int) bs k) 5,aj b64 [v63] 53,aj b62 [(.int .u8 1)] 5,cu v63 (pv (jk ((number:Nat):Int) k (bA bs.length) (gl bs k))++[1]) 5,aj b28 (dw (jk ((number:Nat):Int) k (bA bs.length) (gl bs k))) 5];refine ce (λ_ s=>zm 4 rfl rfl s) (ce (H':=[own v65 ((mA ((number:Nat):Int) bs k).length+1) (us65++[v63]) 53 1,ei us65 (mA ((number:Nat):Int) bs k) 5,gz v63 (pv (jk ((number:Nat):Int) k (bA bs.length) (gl bs k))++[1]) 5,aj b64 [v63] 53,aj b62 [(.int .u8 1)] 5,aj b28 (dw (jk ((number:Nat):Int) k (bA bs.length) (gl bs k))) 5]) (λ_ s=>aA [0,0,2] rfl s) (ce (λ_ s=>tI s) ?_));rw[←C9];refine PS ?_;refine ap (af (ac J8 (ad (AD ?_))));refine PS ?_;refine ap ?_
 exact aJ ((k+1,v65):(Nat)×(Value)) ⟨by omega,ov65⟩ (by show bA bs.length- (k+1)<bA bs.length-k;omega)
  SB
  (λ_ s=>ak [0] rfl s)
 refine nx J6 (aa λ_ J34=>CN (aV (ay (ay (bh (ac J4 (sr λ_ J35=>P2 ?_)))))));refine nx J35 (ah (WK [0] (av rfl rfl ?_)));obtain rfl:k=bA bs.length:=by omega
 exact rfl
theorem zp(x:Value)(number:Nat)(bs:List UInt8)(hb:bs.length≤3000):DT 173 #[.int .i64 ((number:Nat):Int),x] (IsW x bs) [] (c9 (λv H=>H=[lT 53 5 v (cr ((number:Nat):Int) bs)])):=λw G h m=>by
 obtain⟨a,c,rfl,hc,_⟩:=h.form;exact zo a c number bs hc hb w G h m
theorem wc(s:jE)(number place:Int)(hs:s.length=64):
 DT 139 #[(.agg (dw s).toArray),(.int .i64 (number)),(.int .i64 (place))] T0 [] (c9 (λv H=>(fe s number place=none∧v= .tuple #[.slice none 0 0, .int .i64 0, .bool false]∧H=[])∨∃b all u,fe s number place=some (b,all)∧v= .tuple #[u, .int .i64 all, .bool true]∧H=[gz u b 5])):=by
 refine BD 74 Tryz.func139 rfl rfl rfl λw0 F hF=>sr λ_ J1=>XY (dw s) λb3=>?_
 refine P3 ?_;refine nx J1 (sr λ_ J2=>tp (OP (k:=63) rfl q7 js rfl rfl (by omega) (by omega) rfl) ?_);refine CQ Kj (ye (.slice (some ⟨b3,0,none⟩) (63) (64)) (s.take 63) (by rw[bq];omega)) ID (λg d s'=>IS (Gt 0 63 (by omega) (by omega) (by decide) (by rw[aC (by rw[bj];omega)]) hs.symm rfl rfl g d s')) λvR HR hR=>?_
 rcases hR with⟨ht,rfl,rfl⟩| ⟨t,u,ht,rfl,rfl⟩
 refine P4 ?_;refine PS ?_;refine nx J2 (aa λ_ J3=>sr λ_ J4=>PS ?_);refine PS ?_;refine PS ?_
 iterate 3 refine UT ?_
 refine PS ?_;refine nx J4 (CY (sr λ_ J5=>P3 ?_));exact nx J5 (ah (ae (WK [] (mQ rfl rfl rfl rfl (.inl ⟨zE ht,rfl,rfl⟩)))));have htl:=yf ht;rw[bq]at htl;have ht59:t.length=59:=by omega
 refine ij 0 rfl rfl (by omega) (λg cap hv hcap=>P4 ?_);refine PS ?_;refine nx J2 (aa λ_ J6=>sr λ_ J7=>PS ?_);refine PS ?_;refine PS ?_;refine IX 63 q7 js ?_;refine LT 1 Y5 (.int .u8 ((((s.getD 63 0).toNat:Nat):Int))) ?_ (hc:=by exact qv (by omega));refine PS ?_;refine ao ?_ ?_<;>intro h26;refine PS ?_;refine nx J7 (CY (sr λ_ J8=>P3 ?_));refine nx J8 (ah (ae (WK [] (mQ rfl rfl rfl rfl ?_))));exact .inl ⟨qM (λh=>h26 (by rw[h];rfl)),rfl,rfl⟩;refine PS ?_;refine nx J7 (CN (qx J6 (sr λ_ J9=>PS ?_)));refine nx J9 (aa λ_ J10=>sr λ_ J11=>PS ?_);refine tp (kB (PV.sliceH (a:=some ⟨g,0,none⟩) (len:=t.length) (cap:=cap) (hi:=4) rfl e8 js (by rw[←hv];rfl) rfl rfl (by omega)) (JM (by omega))) ?_;refine tp (pR rfl e8 rfl) ?_;refine PS ?_;refine nx J11 (am ?_)
 refine bu (α:=(Nat)) (λk=>k≤4) (λk=>[(1,(.int .i64 (number))),(2,(.int .i64 (place))),(6,(.slice none 0 0)),(7,(.int .i64 0)),(8,(.bool false)),(9,u),(11,(.int .i64 (GP (t.take k)))),(29,(.slice (some ⟨g,0,none⟩) (4) (cap))),(30,(.int .i64 4)),(31,(.int .i64 (((k:Nat):Int))))]) (λk=>[cu u (t) 5,aj b3 (dw s) 173]) (λk=>4-k) 0
  (aN _) SB
  (λ_ s=>s) (λk hinv=>?_)
 obtain hk:=hinv;refine sr λ_ J12=>PS ?_
 refine ao ?_ ?_<;>intro h32;refine nx J12 (aa λ_ J13=>CY (qx J13 (aa λ_ J14=>am (sr λ_ J15=>tp (ji (r:=k) rfl e8 js rfl rfl (by first|omega|decide) (by first|omega|decide) (by omega)) ?_))));refine tp (bZ (v:=(.int .u8 ((((t.getD k 0).toNat:Nat):Int)))) rfl Y5 rfl rfl (fI 0 rfl hv rfl) (qv (by omega))) ?_;refine PS ?_;refine nx J15 (ad (PS ?_));refine tp (uJ (r:=IntKind.i64.wrap ((GP (t.take k))*2^8)) rfl rfl rfl (by omega) rfl) ?_;refine PS ?_;refine tp (cp (r:=(((t.getD k 0).toNat:Nat):Int)) rfl Y5 Y3 rfl (bG (by omega) (by have:=UInt8.toNat_lt (n:=t.getD k 0);omega))) ?_;refine tp (Ff (r:=ig .i64 (IntKind.i64.wrap ((GP (t.take k))*2^8)) (((t.getD k 0).toNat:Nat):Int)) rfl rfl rfl rfl) ?_;refine PS ?_;refine ap (af (ac J14 (ad (AD ?_))));refine PS ?_;refine ap ?_
 exact aJ ((k+1):(Nat)) (by omega) (by show 4- (k+1)<4-k;omega)
  (aX (aX (aX (aX (aX (aX (bC rfl (congrArg (Value.int .i64) (IA (by omega)).symm) SB)))))))
  (λ_ s=>s)
 refine nx J12 (aa λ_ J16=>CN (aV (ay (ay (bh (ac J10 (aa λ_ J17=>oX (λw=>Frm F w∧Hx g (dw (t)) w∧True) cN rfl (λ_ s=>⟨dG s,fI 0 rfl hv rfl _ s,trivial⟩) (PD 0 ?_))))))));refine ta 1 rfl (bg (r:=5) hv rfl e8 js rfl rfl (by omega) (by omega) rfl) ?_;refine ta 2 rfl (bZ (v:=(.int .u8 ((((t.getD 5 0).toNat:Nat):Int)))) rfl Y5 rfl rfl (λ_ h=>h.2.1) (qv (by omega))) ?_;refine ta 3 rfl (cp (r:=(((t.getD 5 0).toNat:Nat):Int)) rfl Y5 Y3 rfl (bG (by omega) (by have:=UInt8.toNat_lt (n:=t.getD 5 0);omega))) ?_;refine PD 4 ?_;refine ta 5 rfl (bg (r:=6) hv rfl e8 js rfl rfl (by omega) (by omega) rfl) ?_;refine ta 6 rfl (bZ (v:=(.int .u8 ((((t.getD 6 0).toNat:Nat):Int)))) rfl Y5 rfl rfl (λ_ h=>h.2.1) (qv (by omega))) ?_;refine ta 7 rfl (cp (r:=(((t.getD 6 0).toNat:Nat):Int)) rfl Y5 Y3 rfl (bG (by omega) (by have:=UInt8.toNat_lt (n:=t.getD 6 0);omega))) ?_;refine PD 8 ?_;refine PD 9 ?_;refine DN (ac J17 (aa λ_ J18=>sr λ_ J19=>P3 ?_));refine ao ?_ ?_<;>intro h51;refine PS ?_
 iterate 6 refine UT ?_
 refine P2 ?_
 iterate 3 refine UT ?_
 refine P2 ?_;refine UT ?_;refine UT ?_;refine PS ?_;refine nx J19 (CY (sr λ_ J20=>P3 ?_));refine nx J20 (ah (ae (WK [] (mQ rfl rfl rfl rfl ?_))));exact .inl ⟨l5 ht (.inl (by have:k=4:=(by omega);subst this;exact h51)),rfl,rfl⟩;refine P2 ?_;refine tq (bg (r:=4) hv rfl e8 js rfl rfl (by omega) (by omega) rfl) ?_;refine tq (bZ (v:=(.int .u8 ((((t.getD 4 0).toNat:Nat):Int)))) rfl Y5 rfl rfl (fI 0 rfl hv rfl) (qv (by omega))) ?_;refine tq (cp (r:=(((t.getD 4 0).toNat:Nat):Int)) rfl Y5 Y3 rfl (bG (by omega) (by have:=UInt8.toNat_lt (n:=t.getD 4 0);omega))) ?_;refine P2 ?_;refine ao ?_ ?_<;>intro h58;refine P2 ?_
 iterate 3 refine UT ?_
 refine P2 ?_;refine UT ?_;refine UT ?_;refine PS ?_;refine nx J19 (CY (sr λ_ J21=>P3 ?_));exact nx J21 (ah (ae (WK [] (mQ rfl rfl rfl rfl (.inl ⟨l5 ht (.inr (.inl h58)),rfl,rfl⟩)))))
 iterate 5 refine PS ?_
 refine ao ?_ ?_<;>intro h63;refine P2 ?_;refine UT ?_;refine UT ?_;refine PS ?_;refine nx J19 (CY (sr λ_ J22=>P3 ?_));exact nx J22 (ah (ae (WK [] (mQ rfl rfl rfl rfl (.inl ⟨l5 ht (.inr (.inr (.inl h63))),rfl,rfl⟩)))));refine P4 ?_;refine ao ?_ ?_<;>intro h67;refine PS ?_;refine nx J19 (CY (sr λ_ J23=>P3 ?_));exact nx J23 (ah (ae (WK [] (mQ rfl rfl rfl rfl (.inl ⟨l5 ht (.inr (.inr (.inr h67))),rfl,rfl⟩)))));refine PS ?_;refine nx J19 (CN (qx J18 (sr λ_ J24=>P2 ?_)));refine tp (bv (r:=((7+(t.getD 6 0).toNat:Nat):Int)) rfl rfl rfl (by rw[show(7:Int)+(((t.getD 6 0).toNat:Nat):Int)=((7+(t.getD 6 0).toNat:Nat):Int)by omega];have:=UInt8.toNat_lt (n:=t.getD 6 0);exact bG (by omega) (by omega))) ?_;refine tp (kB (PV.sliceLH (a:=some ⟨g,0,none⟩) (len:=t.length) (cap:=cap) (lo:=7) (hi:=7+(t.getD 6 0).toNat) rfl e8 js (by rw[←hv];rfl) rfl rfl rfl rfl (by omega) (by omega)) (congrArg (λq=>jz q 7 (7+(t.getD 6 0).toNat)) hv.symm)) ?_;refine P4 ?_;refine nx J24 (ah (aF (H':=[gz (jz u 7 (7+(t.getD 6 0).toNat)) ((t.drop 7).take (t.getD 6 0).toNat) 5]) (cZ _) (λ_ s'=>ak [0] rfl (vC 0 rfl rfl hv (by omega) (by omega) (by omega) (by rw[jH,cq]) s')) (mQ rfl rfl rfl rfl ?_)));obtain rfl:k=4:=by omega
 have h1:s.getD 63 0=1:=UInt8.toNat_inj.1 (by have h1':(1:UInt8).toNat=1:=rfl;omega);exact .inr ⟨_,_,_,Bk ht h1 (by omega),rfl,rfl⟩
end Go.Proofs.YtfocodjhmkokpaaGreatDoor
end

section
namespace Wal
open Go Leg Codec Api Dsk
theorem tj(i:Nat){us:List Value}{ls:List (List UInt8)}{e k:Nat}{B:List HP}{F:Hl}(hk:k<ls.length)(hi:Nat.blt i B.length=true)(hH:B.getD i (λ_=>True)=ei us ls e): ∀g,Dj g F→bK B g→IsB (us.getD k undef) ls[k] (jn g F):=λg d s=>by
 obtain⟨h1,h2,d',rfl,a,_⟩:=dV i (lb hi) s;rw[hH]at a;obtain⟨hl,a⟩:=a;obtain⟨u,e1,k1,k2,dk,rfl,a3⟩:=wU us ls e _ hl a k hk;rw[List.getD_eq_getElem?_getD,e1];exact AM a3 λb o e=>gi (gi (gi e))
theorem In.read{s ws:fC}(h1:In s)(h2:In ws)(at':Int)(h: ¬(0≤at'∧at'<2048)): ∀k,k≤ws.length→iJ s ws at' k=zs
 |0,_=>by
  show kM s at'=zs
  induction s with
  |nil=>rfl
  |cons p s ih=>
   obtain⟨a,b⟩:=p;simp only[kM];have hh:=h1 (a,b) (by simp);rw[if_neg (λe=>h (by simp only at hh;omega))];exact ih λq hq=>h1 q (by simp[hq])
 |k+1,hk=>by
  simp only[iJ];rw[if_neg,In.read h1 h2 at' h k (by omega)];intro e;rw[u9 (by omega)]at e;have hh:=h2 ws[k] (eW _);exact h (by omega)
theorem DS.In.read{D:DS}(h:Wal.DS.In D){at':Int}(h2: ¬(0≤at'∧at'<2048)):D.read at'=zs:=Wal.In.read h.1 h.2 at' h2 _ (aQ _)
theorem F3(number place:Int):fe zs number place=none:=qM (by decide)
theorem wo{rd:Int→jE}{number at' all:Int}: ∀(m:Nat) {b:List UInt8},kw rd number at' all m=some b→∀k,k<m→∃x,fe (rd (at'+k)) number k=some (x,all)
 |0,_,_,k,hk=>by omega
 |m+1,b,h,k,hk=>by
  simp only[kw]at h;split at h
  · cases h
  · rename_i b' hb
    split at h
    · cases h
    · rename_i x same hx
      split at h
      · rename_i hs
        by_cases e:k=m
        · subst e;exact⟨x,by rw[hx,hs]⟩
        · exact wo m hb k (by omega)
      · cases h
theorem kS{rd:Int→jE}{number at' all:Int}{b:List UInt8}(hl:(rd at').length=64)(h:fJ rd number at'=some (b,all)):0<all∧all≤255∧∀k:Nat,(k:Int)<all→∃x,fe (rd (at'+k)) number k=some (x,all):=by
 unfold fJ at h;split at h
 · cases h
 · rename_i x al hp
   obtain⟨f1,f2,_⟩:=oa hl hp;obtain⟨c,hc,e⟩:=Option.map_eq_some_iff.1 h;injection e with e1 e2
   subst e1;subst e2;exact⟨f1,f2,λk hk=>wo _ hc k (by omega)⟩
theorem nY{D:DS}(hI:Wal.DS.In D)(hD:D.Ok){number at' all:Int}{b:List UInt8}(h0:0≤at')(h:fJ D.read number at'=some (b,all)):at'+all≤2048:=by
 obtain⟨f1,f2,f3⟩:=kS (lG hD _) h;obtain⟨x,hx⟩:=f3 (all-1).toNat (by omega)
 by_cases q:at'+all≤2048
 · exact q
 · rw[DS.In.read hI (by omega),F3]at hx;cases hx
theorem yj{rd:Int→jE}{f:Nat}{cnt used:Int}(h:fJ rd (cnt+1) used=none):fP rd f cnt used=([],used):=by
 cases f with
 |zero=>rfl
 |succ f=>simp only[fP,h]
theorem EC{rd:Int→jE}{f:Nat}{cnt used all:Int}{b:List UInt8}(h:fJ rd (cnt+1) used=some (b,all)):fP rd (f+1) cnt used=(b::(fP rd f (cnt+1) (used+all)).1,(fP rd f (cnt+1) (used+all)).2):=by simp only[fP,h]
def Scan(D:DS)(f:Nat)(rs:List (List UInt8))(used:Int):Prop:=
 fP D.read iQ 0 0=(rs++(fP D.read f rs.length used).1,(fP D.read f rs.length used).2)∧0≤used∧used≤2048∧2049≤(f:Int)+used∧(rs.length:Int)≤used
theorem Scan.start(D:DS):Scan D iQ [] 0:=by
 refine⟨?_,by omega,by omega,by rw[sj];omega,by simp⟩;have e:((([]:List (List UInt8)).length:Nat):Int)=0:=rfl;rw[ca,e]
theorem Scan.next{D:DS}(hI:Wal.DS.In D)(hD:D.Ok){f:Nat}{rs:List (List UInt8)}{used all:Int}{b:List UInt8}(h:Scan D f rs used)(h2:fJ D.read ((rs.length:Int)+1) used=some (b,all)): ∃f',f=f'+1∧Scan D f' (rs++[b]) (used+all):=by
 obtain⟨h1,h0,h3,h4,h5⟩:=h;have hr:=nY hI hD h0 h2;have hf:=(kS (lG hD _) h2).1;obtain⟨f',rfl⟩: ∃f',f=f'+1:=⟨f-1,by omega⟩;refine⟨f',rfl,?_,by omega,by omega,by omega,by simp;omega⟩;rw[h1,EC h2];simp
theorem Scan.stop{D:DS}{f:Nat}{rs:List (List UInt8)}{used:Int}(h:Scan D f rs used)(h2:fJ D.read ((rs.length:Int)+1) used=none):fP D.read iQ 0 0=(rs,used):=by
 rw[h.1,yj h2];simp
theorem Av{D:DS}{at':Int}(h:2048≤at'):jj (2048-at').toNat at' D=(0,D):=by rw[show(2048-at').toNat=0 by omega];rfl
theorem Fh{D:DS}{at':Int}(h:at'<2048)(h2:D.read at'=zs):jj (2048-at').toNat at' D=jj (2048- (at'+1)).toNat (at'+1) D:=by
 rw[show(2048-at').toNat=(2048- (at'+1)).toNat+1 by omega,jj,if_pos h2]
theorem I3{D:DS}{at':Int}(h:at'<2048)(h2:D.read at'≠zs)(h3:(D.write at' []).1=0):jj (2048-at').toNat at' D=jj (2048- (at'+1)).toNat (at'+1) (D.write at' []).2:=by
 rw[show(2048-at').toNat=(2048- (at'+1)).toNat+1 by omega,jj,if_neg h2,if_pos h3]
theorem Fi{D:DS}{at':Int}(h:at'<2048)(h2:D.read at'≠zs)(h3:(D.write at' []).1≠0):jj (2048-at').toNat at' D=D.write at' []:=by
 rw[show(2048-at').toNat=(2048- (at'+1)).toNat+1 by omega,jj,if_neg h2,if_neg h3]
theorem Dl{D D':DS}{rs:List (List UInt8)}{used e:Int}(h:fP D.read iQ 0 0=(rs,used))(h2:jj (2048-used).toNat used D=(e,D'))(h3:e≠0):bP D=⟨e,[],0,D'⟩:=by
 simp only[bP,h,h2];rw[if_pos h3]
theorem Di{D D':DS}{rs:List (List UInt8)}{used:Int}(h:fP D.read iQ 0 0=(rs,used))(h2:jj (2048-used).toNat used D=(0,D'))(h3:D'.sync.1≠0):bP D=⟨D'.sync.1,[],0,D'.sync.2⟩:=by
 simp only[bP,h,h2,ne_eq,not_true_eq_false,if_false];rw[if_pos h3]
theorem EK{D D':DS}{rs:List (List UInt8)}{used:Int}(h:fP D.read iQ 0 0=(rs,used))(h2:jj (2048-used).toNat used D=(0,D'))(h3:D'.sync.1=0):bP D=⟨0,rs,used,D'.sync.2⟩:=by
 simp only[bP,h,h2,ne_eq,not_true_eq_false,if_false];rw[if_neg (by simp[h3])]
def gO:List jE→Int→DS→Int×DS
 | [],_,D=>(0,D)
 |s::ss,at',D=>if(D.write at' s).1=0 then gO ss (at'+1) (D.write at' s).2 else D.write at' s
structure PutR where
 err:Int
 cnt:Nat
 used:Int
 D:DS
def n9(D:DS)(cnt:Nat)(used:Int)(bs:List UInt8):PutR:=
 if 3000<bs.length then⟨2,cnt,used,D⟩
 else if(bA bs.length:Int)>2048-used then⟨3,cnt,used,D⟩
 else
  let w:=gO (cr ((cnt+1:Nat):Int) bs) used D
  if w.1≠0 then⟨w.1,cnt,used,w.2⟩else if w.2.sync.1≠0 then⟨w.2.sync.1,cnt,used,w.2.sync.2⟩else⟨0,cnt+1,used+bA bs.length,w.2.sync.2⟩
theorem Aq{ss:List jE}{at':Int}{D:DS}{k:Nat}(hk:k<ss.length)(h:(D.write (at'+k) ss[k]).1=0):gO (ss.drop k) (at'+k) D=gO (ss.drop (k+1)) (at'+(k+1:Nat)) (D.write (at'+k) ss[k]).2:=by
 rw[di hk,gO,if_pos h];congr 1;omega
theorem Ar{ss:List jE}{at':Int}{D:DS}{k:Nat}(hk:k<ss.length)(h:(D.write (at'+k) ss[k]).1≠0):gO (ss.drop k) (at'+k) D=D.write (at'+k) ss[k]:=by
 rw[di hk,gO,if_neg h]
section
variable {D D':DS} {cnt:Nat} {used:Int} {bs:List UInt8}
theorem HC(h:3000<bs.length):n9 D cnt used bs=⟨2,cnt,used,D⟩:=by rw[n9,if_pos h]
theorem HD(h: ¬3000<bs.length)(h2:(bA bs.length:Int)>2048-used):n9 D cnt used bs=⟨3,cnt,used,D⟩:=by rw[n9,if_neg h,if_pos h2]
theorem FX{e:Int}(h: ¬3000<bs.length)(h2: ¬(bA bs.length:Int)>2048-used)(h3:gO (cr ((cnt+1:Nat):Int) bs) used D=(e,D'))(h4:e≠0):n9 D cnt used bs=⟨e,cnt,used,D'⟩:=by
 rw[n9,if_neg h,if_neg h2];simp only[h3];rw[if_pos h4]
theorem FW(h: ¬3000<bs.length)(h2: ¬(bA bs.length:Int)>2048-used)(h3:gO (cr ((cnt+1:Nat):Int) bs) used D=(0,D'))(h4:D'.sync.1≠0):n9 D cnt used bs=⟨D'.sync.1,cnt,used,D'.sync.2⟩:=by
 rw[n9,if_neg h,if_neg h2];simp only[h3,ne_eq,not_true_eq_false,if_false];rw[if_pos h4]
theorem put_ok(h: ¬3000<bs.length)(h2: ¬(bA bs.length:Int)>2048-used)(h3:gO (cr ((cnt+1:Nat):Int) bs) used D=(0,D'))(h4:D'.sync.1=0):n9 D cnt used bs=⟨0,cnt+1,used+bA bs.length,D'.sync.2⟩:=by
 rw[n9,if_neg h,if_neg h2];simp only[h3,ne_eq,not_true_eq_false,if_false];rw[if_neg (by simp[h4])]
end
end Wal
end

section
namespace Go.Proofs.YtfocodjhmkokpaaGreatDoor
open Go Leg Codec Api Dsk Wal
abbrev EU(lg d:Nat)(cnt used:Int):HP:=aj lg [.pointer (some ⟨d,0,none⟩), .int .i64 cnt, .int .i64 used] 186
abbrev NK(v:Value)(ls:List (List UInt8)):HP:=lT 53 5 v ls
theorem AW(d:Nat)(D:DS)(number at':Int)(hD:D.Ok)(hb:D.ws.length≤1000000000)(ha:0≤at'∧at'≤1000000):
 DT 103 #[(.pointer (some ⟨d,0,none⟩)),(.int .i64 (number)),(.int .i64 (at'))] T0 [dk d (D)] (c9 (λv H=>(fJ D.read number at'=none∧v= .tuple #[.slice none 0 0, .int .i64 0, .bool false]∧H=[dk d D])∨∃b all u,fJ D.read number at'=some (b,all)∧v= .tuple #[u, .int .i64 all, .bool true]∧H=[gz u b 5,dk d D])):=by
 refine BD 56 Tryz.func103 rfl rfl rfl λw0 F hF=>sr λ_ J1=>P3 ?_
 refine nx J1 (sr λ_ J2=>P2 ?_);refine CR H6 (zY d (D) at' hD hb) ID λvR HR hR=>?_
 obtain⟨hv,rfl⟩:=hR;subst hv;refine PS ?_;refine CR Kl (wc ((D).read at') number 0 (lG hD _)) ID λvR HR hR=>?_
 rcases hR with⟨hp,rfl,rfl⟩| ⟨b,all,u,hp,rfl,rfl⟩
 refine P4 ?_;refine P3 ?_;refine nx J2 (aa λ_ J3=>sr λ_ J4=>PS ?_);refine PS ?_;refine nx J4 (CY (sr λ_ J5=>P3 ?_));exact nx J5 (ah (ae (WK [0] (mQ rfl rfl rfl rfl (.inl ⟨qh hp,rfl,rfl⟩)))));refine TL.subLen 0 rfl rfl (λhul hu=>?_);have hpf:=oa (lG hD _) hp;refine P4 ?_;refine P3 ?_;refine nx J2 (aa λ_ J6=>sr λ_ J7=>PS ?_);refine PS ?_;refine nx J7 (CN (qx J6 (aa λ_ J8=>sr λ_ J9=>PS ?_)));refine nx J9 (am ?_)
 refine bu (α:=(Nat)×(List UInt8)×(Value)) (λ⟨k,c,w⟩=>1≤k∧k≤all.toNat∧kw D.read number at' all k=some c∧c.length≤k*52∧w.oneCell'=true) (λ⟨k,c,w⟩=>[(0,(.pointer (some ⟨d,0,none⟩))),(1,(.int .i64 (number))),(2,(.int .i64 (at'))),(9,w),(10,(.int .i64 (all))),(12,(.int .i64 (((k:Nat):Int))))]) (λ⟨k,c,w⟩=>[gz w (c) 5,dk d (D)]) (λ⟨k,c,w⟩=>all.toNat-k) (1,b,u)
  ⟨aQ _,by omega,Gi hp,by omega,hu⟩ SB
  (λ_ s=>s) (λ⟨k,c,w⟩ hinv=>?_)
 obtain⟨hk1,hk2,hk3,hk4,hw⟩:=hinv;refine aa λ_ J10=>sr λ_ J11=>P3 ?_
 refine ao ?_ ?_<;>intro h29;refine nx J11 (CY (qx J10 (aa λ_ J12=>am (sr λ_ J13=>P3 ?_))));refine AD ?_;refine CR H6 (zY d (D) (at'+((k:Nat):Int)) hD hb) (SM [1]) λvR HR hR=>?_
 obtain⟨hv,rfl⟩:=hR;subst hv;refine P2 ?_;refine CR Kl (wc ((D).read (at'+((k:Nat):Int))) number ((k:Nat):Int) (lG hD _)) ID λvR HR hR=>?_
 rcases hR with⟨hp2,rfl,rfl⟩| ⟨b2,all2,u2,hp2,rfl,rfl⟩
 refine P4 ?_;refine P3 ?_;refine nx J13 (aa λ_ J14=>sr λ_ J15=>PS ?_);refine PS ?_;refine PS ?_
 iterate 3 refine UT ?_
 refine PS ?_;refine nx J15 (CY (sr λ_ J16=>P3 ?_));refine nx J16 (ah (ae (aH (ae (ae (aH (ae (WK [0] (mQ rfl rfl rfl rfl ?_)))))))));exact .inl ⟨qg hp (wn (.inl hp2) _ (by omega)),rfl,rfl⟩;refine TL.subLen 0 rfl rfl (λhul2 hu2=>?_);have hpf2:=oa (lG hD _) hp2;refine P4 ?_;refine P3 ?_;refine nx J13 (aa λ_ J17=>sr λ_ J18=>PS ?_);refine PS ?_;refine P4 ?_;refine ao ?_ ?_<;>intro h49;refine PS ?_;refine nx J18 (CY (sr λ_ J19=>P3 ?_));refine nx J19 (ah (ae (aH (ae (ae (aH (ae (WK [1] (mQ rfl rfl rfl rfl ?_)))))))));exact .inl ⟨qg hp (wn (.inr ⟨b2,all2,hp2,h49⟩) _ (by omega)),rfl,rfl⟩;refine PS ?_;refine nx J18 (CN (qx J17 (ad (P2 ?_))));refine TL.appendS (k:=2) (news:=b2) (bs':=c++b2) (ab rfl) rfl rfl rfl e8 sH rfl rfl rfl rfl (λ_ s=>Src.sub 0 rfl rfl s) (by omega) rfl (λv53 ov53=>PS ?_);refine ap (af (ac J12 (ad (PS ?_))));refine AD ?_;refine PS ?_;refine ap ?_
 exact aJ ((k+1,c++b2,v53):(Nat)×(List UInt8)×(Value)) ⟨by omega,by omega,wq hk3 (by rw[hp2,show all2=all by omega]),by rw[ag];omega,ov53⟩ (by show all.toNat- (k+1)<all.toNat-k;omega)
  SB
  (λ_ s=>ak [2,1] rfl s)
 refine nx J11 (CN (aV (ay (ay (bh (ac J8 (sr λ_ J20=>?_)))))))
 iterate 5 refine PS ?_
 refine nx J20 (ah (WK [0,0] (mQ rfl rfl rfl rfl ?_)));exact .inr ⟨c,all,w,rH hp (by rw[show all.toNat=k by omega];exact hk3),rfl,rfl⟩
theorem FO(lg d:Nat)(cnt used:Int)(h:0≤used∧used≤2048):
 DT 172 #[(.pointer (some ⟨lg,0,none⟩))] T0 [aj lg [(.pointer (some ⟨d,0,none⟩)),(.int .i64 (cnt)),(.int .i64 (used))] 186] (RI (.int .i64 (2048-used)) [EU lg d cnt used]):=by
 refine BD 8 Tryz.func172 rfl rfl rfl λw0 F hF=>sr λ_ J1=>PS ?_
 refine nx J1 (sr λ_ J2=>P2 ?_);refine FA 2 qe aO ?_;refine LA 0 Y3 ?_;refine tp (ik rfl rfl rfl (bG (by omega) (by omega))) ?_;refine PS ?_;exact nx J2 (ah (WK [0] (av rfl rfl ⟨rfl,rfl⟩)))
theorem AB(lg d cnt:Nat)(used:Int)(x:Value)(bs:List UInt8)(D:DS)(hD:D.Ok)(hb:D.ws.length≤1000000)(hu:0≤used∧used≤2048)(hc:cnt≤1000000):
 DT 155 #[(.pointer (some ⟨lg,0,none⟩)),x] (IsW x bs) [aj lg [(.pointer (some ⟨d,0,none⟩)),(.int .i64 (((cnt:Nat):Int))),(.int .i64 (used))] 186,dk d (D)] (RI (.int .i64 (n9 D cnt used bs).err) [EU lg d (((n9 D cnt used bs).cnt:Nat):Int) (n9 D cnt used bs).used,dk d (n9 D cnt used bs).D]):=by
 refine BD 72 Tryz.func155 rfl rfl rfl λw0 F hF=>sr λ_ J1=>PS ?_
 refine nx J1 (aa λ_ J2=>sr λ_ J3=>PS ?_);refine tp (c8 rfl e8 rfl hF.len) ?_;refine PS ?_;refine ao ?_ ?_<;>intro h12;refine nx J3 (CY (sr λ_ J4=>PS ?_));refine nx J4 (ah (ae (WK [0,0] (av rfl rfl ?_))));rw[HC (by omega)];exact⟨rfl,rfl⟩;refine nx J3 (CN (qx J2 (sr λ_ J5=>PS ?_)));refine tp (c8 rfl e8 rfl hF.len) ?_;refine CE Kf (tO bs.length (by omega)) ID ?_;refine PS ?_;refine nx J5 (aa λ_ J6=>sr λ_ J7=>P2 ?_);refine CE MD (FO lg d ((cnt:Nat):Int) used hu) ID ?_;refine PS ?_;refine ao ?_ ?_<;>intro h19;refine nx J7 (CY (sr λ_ J8=>PS ?_));refine nx J8 (ah (ae (WK [0,0] (av rfl rfl ?_))));rw[HD (by omega) (by omega)];exact⟨rfl,rfl⟩;refine nx J7 (CN (qx J6 (aa λ_ J9=>sr λ_ J10=>P2 ?_)));refine FA 1 qe aO ?_;refine LA 0 Y3 ?_;refine tp (kB (v':=(.int .i64 (((cnt+1:Nat):Int)))) (bv rfl rfl rfl (bG (by omega) (by omega))) rfl) ?_;refine PS ?_;refine CQ MC (zp x (cnt+1) bs (by omega)) ID (λg d _=>Ny hF d) λvR HR hR=>?_
 have hR:=hR;subst hR;change TL _ _ _ _ _ _ _ _ _ [lT 53 5 vR (cr ((cnt+1:Nat):Int) bs),aj lg [(.pointer (some ⟨d,0,none⟩)),(.int .i64 (((cnt:Nat):Int))),(.int .i64 (used))] 186,dk d (D)];refine TL.recsLen 0 rfl rfl (λhrl hro=>?_);rw[ej]at hrl;refine tp (c8 rfl uF rfl hrl) ?_;refine PS ?_;refine nx J10 (am ?_)
 refine bu (α:=(Nat)×(DS)) (λ⟨k,D'⟩=>k≤bA bs.length∧gO (cr ((cnt+1:Nat):Int) bs) used D=gO ((cr ((cnt+1:Nat):Int) bs).drop k) (used+(k:Nat)) D'∧D'.Ok∧D'.ws.length≤D.ws.length+k) (λ⟨k,D'⟩=>[(0,(.pointer (some ⟨lg,0,none⟩))),(5,(.int .i64 (((bA bs.length:Nat):Int)))),(26,vR),(27,(.int .i64 ((((bA bs.length):Nat):Int)))),(28,(.int .i64 (((k:Nat):Int))))]) (λ⟨k,D'⟩=>[aj lg [(.pointer (some ⟨d,0,none⟩)),(.int .i64 (((cnt:Nat):Int))),(.int .i64 (used))] 186,dk d (D'),lT 53 5 vR (cr ((cnt+1:Nat):Int) bs)]) (λ⟨k,D'⟩=>bA bs.length-k) (0,D)
  ⟨aN _,by simp,hD,by omega⟩ SB
  (λ_ s=>aA [1,1,0] rfl s) (λ⟨k,D'⟩ hinv=>?_)
 obtain⟨hk,hwr,hD',hws⟩:=hinv;refine sr λ_ J11=>PS ?_
 refine ao ?_ ?_<;>intro h29;refine ce (λ_ s=>aA [2] rfl s) (KF (λus=>?_));change TL _ _ _ _ _ _ _ _ _ [own vR ((cr ((cnt+1:Nat):Int) bs).length) (us) 53 1,ei us (cr ((cnt+1:Nat):Int) bs) 5,aj lg [(.pointer (some ⟨d,0,none⟩)),(.int .i64 (((cnt:Nat):Int))),(.int .i64 (used))] 186,dk d (D')];refine xM (p:=us.length=(cr ((cnt+1:Nat):Int) bs).length*1) (λw m=>m.own_len (i:=0) (lb rfl) rfl) (λhul=>?_);rw[ej,fH]at hul;have hkl:k< (cr ((cnt+1:Nat):Int) bs).length:=by rw[ej];omega
 obtain⟨sk,hsk⟩: ∃x,(cr ((cnt+1:Nat):Int) bs)[k]=x:=⟨_,rfl⟩;refine ij 0 rfl rfl (by omega) (λg cap hv hcap=>nx J11 (aa λ_ J12=>CY (qx J12 (aa λ_ J13=>am (sr λ_ J14=>PS ?_)))));refine tp (bg (r:=k) hv rfl uF kj rfl rfl (by omega) (by omega) (by omega)) ?_;refine tp (bZ (v:=(us.getD k undef)) rfl e8 rfl rfl (fI 0 rfl hv rfl) (by simp[List.getD_eq_getElem?_getD,show k<us.length by omega])) ?_;refine P2 ?_;refine nx J14 (aa λ_ J15=>D1 2 cN ?_);refine PD 0 ?_;refine PD 1 ?_;refine FD 2 0 qe vn ?_;refine LX 3 IH (.pointer (some ⟨d,0,none⟩)) ?_ (hc:=by exact rfl);refine PD 4 ?_;refine PD 5 ?_;refine FD 6 2 qe aO ?_;refine LX 7 Y3 (.int .i64 (used)) ?_ (hc:=by exact rfl);refine PD 8 ?_;refine ta 9 rfl (bv rfl rfl rfl (bG (by omega) (by omega))) ?_;refine PD 10 ?_;refine AL 11 ?_;refine CQ Mi (B7 d D' (used+((k:Nat):Int)) (us.getD k undef) sk hD' (by omega)) (SM [3]) (λg d s=>IS (hsk▸tj 1 hkl rfl rfl g d s)) λvR HR hR=>?_
 obtain⟨hv2,rfl⟩:=hR;subst hv2;refine EN (PD 12 ?_);refine DN (ac J15 (sr λ_ J16=>P2 ?_));refine ao ?_ ?_<;>intro h46;refine nx J16 (CY (sr λ_ J17=>P2 ?_));refine nx J17 (ah (aH (ae (ae (aH (ae (WK [3,0] (av rfl rfl ?_))))))));have hf:=Ar (D:=D') (at':=used) hkl (by rw[hsk];exact h46);rw[hsk]at hf;rw[FX (by omega) (by omega) (hwr.trans hf) h46];exact⟨rfl,rfl⟩;refine nx J16 (CN (aM (af (ac J13 (ad (AD ?_))))));refine PS ?_;refine ap ?_
 exact aJ ((k+1,(D'.write (used+((k:Nat):Int)) sk).2):(Nat)×(DS)) ⟨by omega,by rw[hwr];subst hsk;exact Aq hkl (by simpa using h46),DS.write_ok hD' _ _,by have:=DS.write_ws (D:=D') (at':=used+((k:Nat):Int)) (bs:=sk);omega⟩ (by show bA bs.length- (k+1)<bA bs.length-k;omega)
  SB
  (λ_ s=>aA [1,1,0] rfl (bo (p:=λus:List Value=>[own vR (cr ((cnt+1:Nat):Int) bs).length us 53 1,ei us (cr ((cnt+1:Nat):Int) bs) 5]) us (ak [1,1,1,0] rfl s)))
 refine nx J11 (aa λ_ J18=>CN (aV (ay (ay (bh (ac J9 (aa λ_ J19=>sr λ_ J20=>P2 ?_)))))));refine FA 0 qe vn ?_;refine LA 0 IH ?_;refine CR Mh (EX d (D') hD') (SM [1]) λvR HR hR=>?_
 obtain⟨hv,rfl⟩:=hR;subst hv;refine PS ?_;refine nx J20 (sr λ_ J21=>P2 ?_);refine ao ?_ ?_<;>intro h55;refine nx J21 (CY (sr λ_ J22=>P2 ?_));refine nx J22 (ah (ae (WK [1,0] (av rfl rfl ?_))));have hf:gO (cr ((cnt+1:Nat):Int) bs) used D=(0,D'):=by rw[hwr,cY (by rw[ej];omega)];rfl
 rw[FW (by omega) (by omega) hf h55];exact⟨rfl,rfl⟩;refine nx J21 (CN (qx J19 (sr λ_ J23=>P2 ?_)));refine FA 1 qe aO ?_;refine LA 1 Y3 ?_;refine AD ?_;refine PS ?_;refine FA 1 qe aO ?_;refine S0 1 aO ?_;refine nx J23 (sr λ_ J24=>P2 ?_);refine FA 2 qe aO ?_;refine LA 1 Y3 ?_;refine PS ?_;refine AD ?_;refine PS ?_;refine FA 2 qe aO ?_;refine S0 1 aO ?_;refine nx J24 (sr λ_ J25=>PS ?_);refine nx J25 (ah (WK [1,0] (av rfl rfl ?_)));have hf:gO (cr ((cnt+1:Nat):Int) bs) used D=(0,D'):=by rw[hwr,cY (by rw[ej];omega)];rfl
 rw[put_ok (by omega) (by omega) hf (by simpa using h55)];exact⟨rfl,rfl⟩
theorem Gb(d:Nat)(D:DS)(hD:D.Ok)(hI:Wal.DS.In D)(hb:D.ws.length≤1000000):
 DT 66 #[(.pointer (some ⟨d,0,none⟩))] T0 [dk d (D)] (c9 (λv H=>((bP D).err≠0∧v= .tuple #[.pointer none, .slice none 0 0, .int .i64 (bP D).err]∧H=[dk d (bP D).D])∨((bP D).err=0∧∃lg vr,v= .tuple #[.pointer (some ⟨lg,0,none⟩),vr, .int .i64 0]∧H=[EU lg d (((bP D).recs.length:Nat):Int) (bP D).used,NK vr (bP D).recs,dk d (bP D).D]))):=by
 refine BD 80 Tryz.func66 rfl rfl rfl λw0 F hF=>sr λ_ J1=>P3 ?_
 refine nx J1 (aa λ_ J2=>sr λ_ J3=>PS ?_);refine tp (fG rfl IH rfl rfl) ?_;refine nx J3 (CN (qx J2 (sr λ_ J4=>PS ?_)));refine BV #[(.pointer (some ⟨d,0,none⟩)),(.int .i64 0),(.int .i64 0)] ?_;refine XB λb17=>?_
 refine PS ?_;refine nx J4 (sr λ_ J5=>PS ?_);refine nx J5 (aa λ_ J6=>am ?_)
 refine bu (α:=(Nat)×(List (List UInt8))×(Int)×(Value)) (λ⟨f,rs,used,vr⟩=>Scan D f rs used∧vr.oneCell'=true) (λ⟨f,rs,used,vr⟩=>[(0,(.pointer (some ⟨d,0,none⟩))),(2,(.pointer none)),(3,(.slice none 0 0)),(4,(.int .i64 0)),(5,(.pointer (some ⟨b17,0,none⟩))),(6,vr)]) (λ⟨f,rs,used,vr⟩=>[aj b17 [(.pointer (some ⟨d,0,none⟩)),(.int .i64 (((rs.length:Nat):Int))),(.int .i64 (used))] 186,dk d (D),lT 53 5 vr (rs)]) (λ⟨f,rs,used,vr⟩=>f) (iQ,[],0,(.slice none 0 0))
  ⟨Scan.start D,rfl⟩ SB
  (λ_ s=>dY (List.Perm.trans (List.Perm.swap _ _ _) (List.Perm.cons _ (List.Perm.swap _ _ _))) (tG 53 5 s)) (λ⟨f,rs,used,vr⟩ hinv=>?_)
 obtain⟨hsc,hvr⟩:=hinv;obtain⟨hs1,hs2,hs3,hs4,hs5⟩:=id hsc;refine am (aa λ_ J7=>D1 0 cN ?_);refine PD 0 ?_;refine PD 1 ?_;refine PD 2 ?_;refine FD 3 1 qe aO ?_;refine LX 4 Y3 (.int .i64 (((rs.length:Nat):Int))) ?_ (hc:=by exact rfl);refine ta 5 rfl (bv rfl rfl rfl (bG (by omega) (by omega))) ?_;refine PD 6 ?_;refine PD 7 ?_;refine FD 8 2 qe aO ?_;refine LX 9 Y3 (.int .i64 (used)) ?_ (hc:=by exact rfl);refine AL 10 ?_;refine CR M8 (AW d D (((rs.length:Nat):Int)+1) used hD (by omega) (by omega)) (SM [1]) λvR HR hR=>?_
 rcases hR with⟨hst,rfl,rfl⟩| ⟨b,all,u,hst,rfl,rfl⟩
 have hss:=Scan.stop hsc hst;refine EN (PD 11 ?_);refine PD 12 ?_;refine PD 13 ?_;refine PD 14 ?_;refine PD 15 ?_;refine PD 16 ?_;refine PD 17 ?_;refine DN (ac J7 (aa λ_ J8=>sr λ_ J9=>PS ?_));refine PS ?_;refine nx J9 (CY (aV (ay (TE.miss (by decide) (ay (bh (ac J6 (aa λ_ J10=>sr λ_ J11=>P2 ?_))))))));refine FA 2 qe aO ?_;refine LA 1 Y3 ?_;refine PS ?_;refine nx J11 (am ?_)
 refine bu (α:=(Int)×(DS)) (λ⟨at',D'⟩=>used≤at'∧at'≤2048∧jj (2048-used).toNat used D=jj (2048-at').toNat at' D'∧D'.Ok∧D'.ws.length≤D.ws.length+(at'-used).toNat) (λ⟨at',D'⟩=>[(0,(.pointer (some ⟨d,0,none⟩))),(5,(.pointer (some ⟨b17,0,none⟩))),(6,vr),(10,(.int .i64 (at')))]) (λ⟨at',D'⟩=>[aj b17 [(.pointer (some ⟨d,0,none⟩)),(.int .i64 (((rs.length:Nat):Int))),(.int .i64 (used))] 186,dk d (D'),lT 53 5 vr (rs)]) (λ⟨at',D'⟩=>(2048-at').toNat) (used,D)
  ⟨by omega,by omega,rfl,hD,by omega⟩ SB
  (λ_ s=>ak [1,0,0] rfl s) (λ⟨at',D'⟩ hinv=>?_)
 obtain⟨ha1,ha2,hwi,hD',hws⟩:=hinv;refine aa λ_ J12=>sr λ_ J13=>P2 ?_
 refine ao ?_ ?_<;>intro h59;refine nx J13 (CY (qx J12 (aa λ_ J14=>am (aa λ_ J15=>sr λ_ J16=>P2 ?_))));refine CR H6 (zY d (D') at' hD' (by omega)) (SM [1]) λvR HR hR=>?_
 obtain⟨hv,rfl⟩:=hR;subst hv;refine BV ((dw zs).toArray) ?_;refine tp (PV.eqlBy (a:=((D').read at')) (b:=zs) (m:=2) L6 L4 rfl L7 L9 L8 (lG hD' _) (by decide) rfl rfl rfl) ?_;refine ao ?_ ?_<;>intro h66;refine nx J16 (CY (aV (ay (bh (ac J14 (ad (PS ?_)))))));refine AD ?_;refine PS ?_;refine ap ?_
 exact aJ ((at'+1,D'):(Int)×(DS)) ⟨by omega,by omega,by rw[hwi];exact Fh (by omega) h66,hD',by omega⟩ (by show(2048- (at'+1)).toNat< (2048-at').toNat;omega)
  SB
  (λ_ s=>ak [1,0,0] rfl s)
 refine nx J16 (CN (qx J15 (sr λ_ J17=>P2 ?_)));refine CQ Mi (B7 d (D') at' (.slice none 0 0) ([]) hD' (by omega)) ID (λ_ _ _=> .inl (.inl ⟨rfl,rfl⟩)) λvR HR hR=>?_
 obtain⟨hv,rfl⟩:=hR;subst hv;refine PS ?_;refine nx J17 (sr λ_ J18=>P2 ?_);refine ao ?_ ?_<;>intro h71;refine nx J18 (CY (sr λ_ J19=>P4 ?_));refine nx J19 (ah (aH (ae (ae (aH (ae (WK [0] (mQ rfl rfl rfl rfl ?_))))))));rw[Dl hss (hwi.trans (Fi (by omega) h66 h71)) h71];exact .inl ⟨h71,rfl,rfl⟩;refine nx J18 (CN (aM (af (ac J14 (ad (PS ?_))))));refine AD ?_;refine PS ?_;refine ap ?_
 exact aJ ((at'+1,(D'.write at' []).2):(Int)×(DS)) ⟨by omega,by omega,by rw[hwi];exact I3 (by omega) h66 (by simpa using h71),DS.write_ok hD' _ _,by have:=DS.write_ws (D:=D') (at':=at') (bs:=[]);omega⟩ (by show(2048- (at'+1)).toNat< (2048-at').toNat;omega)
  SB
  (λ_ s=>ak [1,0,0] rfl s)
 refine nx J13 (CN (aV (ay (ay (bh (ac J10 (aa λ_ J20=>sr λ_ J21=>PS ?_)))))));refine CR Mh (EX d (D') hD') (SM [1]) λvR HR hR=>?_
 obtain⟨hv,rfl⟩:=hR;subst hv;refine PS ?_;refine nx J21 (sr λ_ J22=>P2 ?_);refine ao ?_ ?_<;>intro h76;refine nx J22 (CY (sr λ_ J23=>P4 ?_));refine nx J23 (ah (ae (WK [0] (mQ rfl rfl rfl rfl ?_))));rw[Di hss (hwi.trans (Av (by omega))) h76];exact .inl ⟨h76,rfl,rfl⟩;refine nx J22 (CN (qx J20 (sr λ_ J24=>?_)))
 iterate 5 refine PS ?_
 refine nx J24 (ah (WK [1,1,0] (mQ rfl rfl rfl rfl ?_)));have h76':D'.sync.1=0:=by omega
 rw[EK hss (hwi.trans (Av (by omega))) h76'];exact .inr ⟨rfl,b17,vr,rfl,rfl⟩;have hro:=nY hI hD (by omega) hst;have hfa:=(kS (lG hD _) hst).1;obtain⟨f',rfl,hsn⟩:=Scan.next hI hD hsc hst;refine TL.subLen 0 rfl rfl (λhul hu=>EN (PD 11 ?_));refine PD 12 ?_;refine PD 13 ?_;refine PD 14 ?_;refine PD 15 ?_;refine PD 16 ?_;refine PD 17 ?_;refine DN (ac J7 (aa λ_ J25=>sr λ_ J26=>PS ?_));refine PS ?_;refine nx J26 (CN (qx J25 (sr λ_ J27=>P2 ?_)));refine aL (cells:=#[u]) (ab rfl) rfl rfl rfl uF Gv rfl rfl rfl (st hu (by simp)) (λb37=>?_);change TL _ _ _ _ _ _ _ _ _ [aj b37 [u] 53,gz u (b) 5,dk d (D),aj b17 [(.pointer (some ⟨d,0,none⟩)),(.int .i64 (((rs.length:Nat):Int))),(.int .i64 (used))] 186,lT 53 5 vr (rs)];refine ce (λ_ s=>aA [4] rfl s) (KF (λus38=>bO (k:=0) (m:=1) (news:=[u]) (nn':=(rs).length+1) (xs':=us38++[u]) (ab rfl) rfl rfl rfl uF Gv rfl rfl rfl rfl rfl rfl (λ_ _=>fB rfl (RO 2) rfl) (List.forall_mem_cons.2 ⟨hu,λ_ h=>by cases h⟩) (by simp only[maxLen];omega) (by omega) rfl rfl (λv38 ov38=>?_)));change TL _ _ _ _ _ _ _ _ _ [own v38 ((rs).length+1) (us38++[u]) 53 1,ei us38 (rs) 5,aj b37 [u] 53,gz u (b) 5,dk d (D),aj b17 [(.pointer (some ⟨d,0,none⟩)),(.int .i64 (((rs.length:Nat):Int))),(.int .i64 (used))] 186]
 refine ce (H':=[own v38 ((rs).length+1) (us38++[u]) 53 1,ei us38 (rs) 5,gz u (b) 5,aj b37 [u] 53,dk d (D),aj b17 [(.pointer (some ⟨d,0,none⟩)),(.int .i64 (((rs.length:Nat):Int))),(.int .i64 (used))] 186]) (λ_ s=>aA [0,0,1] rfl s) (ce (λ_ s=>tI s) (PS ?_));refine nx J27 (sr λ_ J28=>P2 ?_);refine FA 1 qe aO ?_;refine LA 3 Y3 ?_;refine tp (kB (v':=(.int .i64 ((((rs++[b]).length:Nat):Int)))) (bv rfl rfl rfl (bG (by omega) (by omega))) (congrArg (Value.int .i64) (by simp))) ?_;refine PS ?_;refine FA 1 qe aO ?_;refine S0 3 aO ?_;refine nx J28 (ad (P2 ?_));refine FA 2 qe aO ?_;refine LA 3 Y3 ?_;refine PS ?_;refine AD ?_;refine PS ?_;refine FA 2 qe aO ?_;refine S0 3 aO ?_;refine ap (af ?_)
 exact aJ ((f',rs++[b],used+all,v38):(Nat)×(List (List UInt8))×(Int)×(Value)) ⟨hsn,ov38⟩ (Nat.lt_succ_self _)
  SB
  (λ_ s=>ak [3,2,0] rfl s)
end Go.Proofs.YtfocodjhmkokpaaGreatDoor
end

section
namespace Wal
open Go Leg Codec Api Dsk
theorem AZ(s ws:fC)(j:Int): ∀k,kM (BF s ws k) j=iJ s ws j k
 |0=>rfl
 |k+1=>by
  rw[BF,iJ,Ho,AZ s ws j k]
  by_cases h:j=(kC ws k).1
  · rw[if_pos h,if_pos h.symm]
  · rw[if_neg h,if_neg (λq=>h q.symm)]
theorem G7{ws x:fC}{k:Nat}(h:k<ws.length):kC (ws++x) k=kC ws k:=by simp[kC,List.getD_eq_getElem?_getD,List.getElem?_append_left h]
theorem vS{s ws x:fC}{j:Int}: ∀k,k≤ws.length→iJ s (ws++x) j k=iJ s ws j k
 |0,_=>rfl
 |k+1,h=>by rw[iJ,iJ,G7 (by omega),vS k (by omega)]
theorem FU(s ws:fC)(p:Int×jE)(j:Int):iJ s (ws++[p]) j (ws++[p]).length=if j=p.1 then p.2 else iJ s ws j ws.length:=by
 rw[ag,aw,az,bi,iJ,vS _ (aQ _)];have:kC (ws++[p]) ws.length=p:=by simp[kC,List.getD_eq_getElem?_getD]
 rw[this]
 by_cases h:j=p.1
 · rw[if_pos h,if_pos h.symm]
 · rw[if_neg h,if_neg (λq=>h q.symm)]
def Dg(D:DS)(at':Int)(bs:List UInt8):DS:= {D with ws:=D.ws++[(at',eE bs)],lf:=if D.ar=true then D.lf-1 else D.lf,dn:=false}
theorem uV{D:DS}{at':Int}{bs:List UInt8}(h1:0≤at'∧at'<2048)(h2:bs.length≤64)(h3:D.dn=false)(h4:D.ar=false∨0<D.lf):D.write at' bs=(0,Dg D at' bs):=by
 rw[DS.write,if_neg (by omega),if_neg]
 · rfl
 · rintro (h| ⟨h,h5⟩)
   · rw[h3]at h;cases h
   · rcases h4 with h4|h4
     · rw[h4]at h;cases h
     · omega
theorem CC{D:DS}{at':Int}{bs:List UInt8}(h1:0≤at'∧at'<2048)(h2:bs.length≤64)(h4:D.ar=true∧D.lf=0):D.write at' bs=(4,{D with dn:=true}):=by
 rw[DS.write,if_neg (by omega),if_pos (.inr h4)]
theorem FZ(D:DS)(at':Int)(bs:List UInt8)(j:Int):(Dg D at' bs).read j=if j=at' then eE bs else D.read j:=FU _ _ _ _
theorem EH{D:DS}(h:D.Ok){at':Int}{bs:List UInt8}(h2:bs.length≤64)(h4:D.ar=false∨0<D.lf):(Dg D at' bs).Ok:=by
 refine⟨h.s,h.ws.add _ (dq h2),?_⟩;have:=h.lf;show 0≤(if D.ar=true then D.lf-1 else D.lf)∧(if D.ar=true then D.lf-1 else D.lf)≤9223372036854775807;split
 · rename_i h5
   rcases h4 with h4|h4
   · rw[h4]at h5;cases h5
   · omega
 · exact this
theorem EI{D:DS}(h:Wal.DS.In D){at':Int}{bs:List UInt8}(h1:0≤at'∧at'<2048):Wal.DS.In (Dg D at' bs):=⟨h.1,λp hp=>by
 rcases fz.1 hp with hp|hp
 · exact h.2 p hp
 · simp only[im]at hp;subst hp;exact h1⟩
theorem In.put{s:fC}(h:In s){k:Int}{v:jE}(h1:0≤k∧k<2048):In (nu s k v):=by
 induction s with
 |nil=>intro p hp;simp only[nu,im]at hp;subst hp;exact h1
 |cons p s ih=>
  obtain⟨a,b⟩:=p;intro q hq;simp only[nu]at hq;split at hq
  · rcases bT.1 hq with rfl|hq
    · exact h (a,b) (by simp)
    · exact h q (by simp[hq])
  · rcases bT.1 hq with rfl|hq
    · exact h (a,b) (by simp)
    · exact ih (λq hq=>h q (by simp[hq])) q hq
theorem In.lay{s ws:fC}(h:In s)(hw:In ws): ∀k,k≤ws.length→In (BF s ws k)
 |0,_=>h
 |k+1,hk=>by
  have:=hw (kC ws k) (by rw[u9 (by omega)];exact eW _);exact(In.lay h hw k (by omega)).put this
theorem In.crash{mask torn:Int}{c:Nat}{s ws:fC}(h:In s)(hw:In ws): ∀k,k≤ws.length→In (mM mask torn c s ws k)
 |0,_=>h
 |k+1,hk=>by
  have h1:=hw (kC ws k) (by rw[u9 (by omega)];exact eW _);have ih:=In.crash (mask:=mask) (torn:=torn) (c:=c) h hw k (by omega);simp only[mM,mm];split
  · exact ih.put h1
  · split
    · exact ih.put h1
    · exact ih
theorem In.nil:In []:=λ_ h=>absurd h (by simp)
abbrev Pb:= @In.nil
structure Calm(D:DS):Prop where
 ok:D.Ok
 inn:Wal.DS.In D
 ar:D.ar=false
 dn:D.dn=false
theorem Calm.crash{D:DS}(h:D.Ok)(hi:Wal.DS.In D)(mask torn n:Int):Calm (D.crash mask torn n):=⟨DS.crash_ok h _ _ _,⟨hi.1.crash hi.2 _ (aQ _),Pb⟩,rfl,rfl⟩
theorem Fw{D:DS}(h:D.dn=false)(j:Int):D.sync.2.read j=D.read j:=by
 unfold DS.sync;rw[if_neg (by simp[h])];exact AZ _ _ _ _
theorem sV{D:DS}(h:D.dn=false):D.sync.1=0∧D.sync.2.ws=[]∧D.sync.2.dn=false∧D.sync.2.ar=D.ar∧D.sync.2.lf=D.lf:=by
 unfold DS.sync;rw[if_neg (by simp[h])];exact⟨rfl,rfl,h,rfl,rfl⟩
theorem Ex{D:DS}(h:Wal.DS.In D):Wal.DS.In D.sync.2:=by
 unfold DS.sync;split
 · exact h
 · exact⟨h.1.lay h.2 _ (aQ _),Pb⟩
theorem Calm.sync{D:DS}(h:Calm D):Calm D.sync.2:=by
 obtain⟨_,_,h3,h4,_⟩:=sV h.dn;exact⟨DS.sync_ok h.ok,Ex h.inn,h4.trans h.ar,h3⟩
theorem Calm.put{D:DS}(h:Calm D){at':Int}{bs:List UInt8}(h1:0≤at'∧at'<2048)(h2:bs.length≤64):Calm (Dg D at' bs):=⟨EH h.ok h2 (.inl h.ar),EI h.inn h1,h.ar,rfl⟩
theorem HH:eE []=zs:=rfl
theorem sJ: ∀(n:Nat) (at':Int) (D:DS),Calm D→0≤at'→at'+n≤2048→∃D',jj n at' D=(0,D')∧Calm D'∧∀j,D'.read j=if at'≤j∧j<at'+n then zs else D.read j
 |0,at',D,h,_,_=>⟨D,rfl,h,λj=>by rw[if_neg (by omega)]⟩
 |n+1,at',D,h,h0,h1=>by
  by_cases hz:D.read at'=zs
  · obtain⟨D',e,c,r⟩:=sJ n (at'+1) D h (by omega) (by omega)
    refine⟨D',by rw[jj,if_pos hz,e],c,λj=>?_⟩;rw[r j]
    by_cases q:j=at'
    · subst q;rw[if_neg (by omega),if_pos (by omega),hz]
    · by_cases q2:at'+1≤j∧j<at'+1+n
      · rw[if_pos q2,if_pos (by omega)]
      · rw[if_neg q2,if_neg (by omega)]
  · have hw:=uV (D:=D) (at':=at') (bs:=[]) (by omega) (by simp) h.dn (.inl h.ar)
    obtain⟨D',e,c,r⟩:=sJ n (at'+1) (Dg D at' []) (h.put (by omega) (by simp)) (by omega) (by omega);refine⟨D',by rw[jj,if_neg hz,hw,if_pos rfl,e],c,λj=>?_⟩;rw[r j,FZ,HH]
    by_cases q:j=at'
    · subst q;rw[if_neg (by omega),if_pos rfl,if_pos (by omega)]
    · rw[if_neg q]
      by_cases q2:at'+1≤j∧j<at'+1+n
      · rw[if_pos q2,if_pos (by omega)]
      · rw[if_neg q2,if_neg (by omega)]
theorem FI{D:DS}(h:Calm D):0≤(fP D.read iQ 0 0).2∧(fP D.read iQ 0 0).2≤2048∧((fP D.read iQ 0 0).1.length:Int)≤(fP D.read iQ 0 0).2:=by
 have key: ∀f rs used,Scan D f rs used→∃rs' used',fP D.read iQ 0 0=(rs',used')∧0≤used'∧used'≤2048∧(rs'.length:Int)≤used':=by
  intro f
  induction f with
  |zero=>
   intro rs used hs;cases hst:fJ D.read ((rs.length:Int)+1) used with
   |none=>exact⟨rs,used,hs.stop hst,hs.2.1,hs.2.2.1,hs.2.2.2.2⟩
   |some p=>obtain⟨b,all⟩:=p;obtain⟨f',e,_⟩:=Scan.next h.inn h.ok hs hst;omega
  |succ f ih=>
   intro rs used hs;cases hst:fJ D.read ((rs.length:Int)+1) used with
   |none=>exact⟨rs,used,hs.stop hst,hs.2.1,hs.2.2.1,hs.2.2.2.2⟩
   |some p=>
    obtain⟨b,all⟩:=p;obtain⟨f',e,hs'⟩:=Scan.next h.inn h.ok hs hst;obtain rfl:f=f':=by omega
    exact ih _ _ hs'
 obtain⟨rs,used,e,h1,h2,h3⟩:=key _ _ _ (Scan.start D);rw[e];exact⟨h1,h2,h3⟩
theorem Gc{D:DS}(h:Calm D): ∃D',bP D=⟨0,(fP D.read iQ 0 0).1,(fP D.read iQ 0 0).2,D'⟩∧Calm D'∧D'.ws=[]∧∀j,D'.read j=if(fP D.read iQ 0 0).2≤j∧j<2048 then zs else D.read j:=by
 obtain⟨h1,h2,_⟩:=FI h;generalize hr:fP D.read iQ 0 0=r at*;obtain⟨rs,used⟩:=r;simp only at h1 h2 ⊢;obtain⟨D',e,c,rd⟩:=sJ (2048-used).toNat used D h h1 (by omega);obtain⟨s1,s2,_⟩:=sV c.dn;refine⟨D'.sync.2,EK hr e s1,c.sync,s2,λj=>?_⟩;rw[Fw c.dn,rd j]
 by_cases q:used≤j∧j<2048
 · rw[if_pos q,if_pos (by omega)]
 · rw[if_neg q,if_neg (by omega)]
def j7:Nat→List (List UInt8)→List jE
 |_,[]=>[]
 |n,b::ls=>cr ((n+1:Nat):Int) b++j7 (n+1) ls
def tF(ls:List (List UInt8)):Nat:=(j7 0 ls).length
theorem zS: ∀(a:List (List UInt8)) (n:Nat) (b:List (List UInt8)),j7 n (a++b)=j7 n a++j7 (n+a.length) b
 | [],n,b=>by simp[j7]
 |x::a,n,b=>by
  simp only[xc,j7,zS a (n+1) b,aZ,aw];rw[show n+1+a.length=n+(a.length+1)by omega]
theorem yK: ∀(ls:List (List UInt8)) (n m:Nat),(j7 n ls).length=(j7 m ls).length
 | [],_,_=>rfl
 |b::ls,n,m=>by simp only[j7,ag,ej,yK ls (n+1) (m+1)]
theorem AX: ∀ls:List (List UInt8),ls.length≤tF ls
 | []=>aQ _
 |b::ls=>by
  have h1:=AX ls;have h2:=pw b.length;have h3:=yK ls 1 0;simp only[tF,j7,ag,ej,aw,h3]at*;omega
theorem zr{number:Int}{b:List UInt8}{k:Nat}(h:k< (cr number b).length):(cr number b)[k]=pn number k (bA b.length) (gl b k):=by simp[cr]
theorem zq(number:Int)(b:List UInt8): ∀s∈cr number b,s.length=64:=λs hs=>by
 obtain⟨i,_,rfl⟩:=fT.1 hs;exact FG (s4 b i)
theorem vZ{number:Int}{b:List UInt8}{k:Nat}(h:k< (cr number b).length)(h0:0≤number)(h1:number<4294967296)(hb:b.length≤3000):fe (cr number b)[k] number k=some (gl b k,((bA b.length:Nat):Int)):=by
 rw[zr h];rw[ej]at h;exact Bl (s4 b k) h0 h1 h (by have:=vY hb;omega)
theorem yB{rd:Int→jE}{number at':Int}{b:List UInt8}(h0:0≤number)(h1:number<4294967296)(hb:b.length≤3000): ∀k,k≤bA b.length→(∀j (h:j< (cr number b).length),j<k→rd (at'+j)=(cr number b)[j])→
 kw rd number at' ((bA b.length:Nat):Int) k=some ((List.range k).map (gl b)).flatten
 |0,_,_=>rfl
 |k+1,hk,h=>by
  have ih:=yB h0 h1 hb k (by omega) (λj hj hj2=>h j hj (by omega));have hl:k< (cr number b).length:=by rw[ej];omega
  rw[wq ih (by rw[h k hl (by omega)];exact vZ hl h0 h1 hb)];simp[cC]
theorem AV{rd:Int→jE}{number at':Int}{b:List UInt8}(h0:0≤number)(h1:number<4294967296)(hb:b.length≤3000)(h: ∀j (h:j< (cr number b).length),rd (at'+j)=(cr number b)[j]):fJ rd number at'=some (b,((bA b.length:Nat):Int)):=by
 have hl:0< (cr number b).length:=by rw[ej];exact pw _
 have hp:fe (rd at') number 0=some (gl b 0,((bA b.length:Nat):Int)):=by
  have e:=h 0 hl;rw[show at'+((0:Nat):Int)=at' by omega]at e;rw[e];exact vZ hl h0 h1 hb
 refine rH hp ?_;rw[IT,yB h0 h1 hb _ (aQ _) (λj hj _=>h j hj),F5 b _ (xu _)]
def Shows(rd:Int→jE)(at':Int)(l:List jE):Prop:=∀j (h:j<l.length),rd (at'+j)=l[j]
theorem Shows.left{rd:Int→jE}{at':Int}{a b:List jE}(h:Shows rd at' (a++b)):Shows rd at' a:=λj hj=>by
 rw[h j (by rw[ag];omega),List.getElem_append_left hj]
theorem Shows.right{rd:Int→jE}{at':Int}{a b:List jE}(h:Shows rd at' (a++b)):Shows rd (at'+a.length) b:=λj hj=>by
 have:=h (a.length+j) (by rw[ag];omega);rw[show at'+((a.length+j:Nat):Int)=at'+a.length+j by omega]at this;rw[this,List.getElem_append_right (by omega)];congr 1;omega
theorem A6{rd:Int→jE}: ∀(ls:List (List UInt8)) (n:Nat) (at':Int) (f:Nat),(∀b∈ls,b.length≤3000)→n+ls.length<4294967296→Shows rd at' (j7 n ls)→
 fP rd (ls.length+f) n at'=(ls++(fP rd f ((n+ls.length:Nat):Int) (at'+(j7 n ls).length)).1,(fP rd f ((n+ls.length:Nat):Int) (at'+(j7 n ls).length)).2)
 | [],n,at',f,_,_,_=>by simp[j7]
 |b::ls,n,at',f,hl,hn,h=>by
  simp only[j7]at h ⊢;simp only[aw]at hn ⊢;have hs:=AV (rd:=rd) (number:=((n+1:Nat):Int)) (at':=at') (by omega) (by omega) (hl b (by simp)) h.left;have ih:=A6 (rd:=rd) ls (n+1) (at'+(cr ((n+1:Nat):Int) b).length) f (λx hx=>hl x (by simp[hx])) (by omega) h.right;rw[ej]at ih;rw[show ls.length+1+f=(ls.length+f)+1 by omega,EC (b:=b) (all:=((bA b.length:Nat):Int)) (by rw[←hs];congr 1)];rw[show((n:Nat):Int)+1=((n+1:Nat):Int)by omega,ih];rw[ag,ej,show n+1+ls.length=n+(ls.length+1)by omega,show at'+((bA b.length+(j7 (n+1) ls).length:Nat):Int)=at'+((bA b.length:Nat):Int)+(((j7 (n+1) ls).length:Nat):Int)by omega];simp
structure LogD(D:DS)(ls:List (List UInt8)):Prop where
 ok:D.Ok
 inn:Wal.DS.In D
 ws:D.ws=[]
 short: ∀b∈ls,b.length≤3000
 room:tF ls≤2048
 shows:Shows D.read 0 (j7 0 ls)
 zero: ∀j,((tF ls:Nat):Int)≤j→D.read j=zs
theorem LogD.len{D:DS}{ls:List (List UInt8)}(h:LogD D ls):ls.length≤2048:=by have:=AX ls;have:=h.room;omega
theorem Fy{rd:Int→jE}{number at':Int}(h:(rd at').getD 63 0≠1):fJ rd number at'=none:=qh (qM h)
theorem KH:zs.getD 63 0≠1:=by decide
theorem LogD.scan{D:DS}{ls:List (List UInt8)}(h:LogD D ls):fP D.read iQ 0 0=(ls,((tF ls:Nat):Int)):=by
 have hl:=h.len;obtain⟨f,hf⟩: ∃f,iQ=ls.length+f:=⟨iQ-ls.length,by rw[sj];omega⟩;have:=A6 (rd:=D.read) ls 0 0 f h.short (by omega) h.shows;rw[←hf]at this;rw[show((0:Nat):Int)=0 from rfl]at this;have hz:=h.zero _ (Int.le_refl _);simp only[tF]at hz;rw[this,Int.zero_add,yj (Fy (by rw[hz];exact KH))];simp[tF]
theorem LogD.new:LogD DS.new []:=⟨DS.new_ok,⟨Pb,Pb⟩,rfl,λ_ h=>absurd h (by simp),by decide,λj h=>absurd h (by simp[j7]),λj _=>rfl⟩
theorem LogD.open{D:DS}{ls:List (List UInt8)}(h:LogD D ls)(ha:D.ar=false)(hd:D.dn=false): ∃D',bP D=⟨0,ls,((tF ls:Nat):Int),D'⟩∧LogD D' ls∧D'.ar=false∧D'.dn=false:=by
 obtain⟨D',e,c,hw,hr⟩:=Gc (D:=D) ⟨h.ok,h.inn,ha,hd⟩;rw[h.scan]at e hr
 have hrd: ∀j,D'.read j=D.read j:=λj=>by
  rw[hr j];split
  · rename_i q;rw[h.zero j q.1]
  · rfl
 exact⟨D',e,⟨c.ok,c.inn,hw,h.short,h.room,λj hj=>by rw[hrd];exact h.shows j hj,λj hj=>by rw[hrd];exact h.zero j hj⟩,c.ar,c.dn⟩
def NS:Int→List jE→fC
 |_,[]=>[]
 |at',s::ss=>(at',s)::NS (at'+1) ss
end Wal
end

section
namespace Go.Proofs.YtfocodjhmkokpaaGreatDoor
open Go Leg Codec Api
theorem CD(wb b off cap:Nat)(v:Value)(bs:List UInt8)(l:List Int)(cs:List Value)(T:TypeId)(z:Nat×Nat)(hlen:bs.length+10*l.length≤140737488355328)(hb: ∀j,j<l.length→cs[off+j]?=some (.int .i64 (l.getD j 0))):
 DT 174 #[(.pointer (some ⟨wb,0,none⟩)),(.slice (some ⟨b,off,none⟩) (l.length) (cap))] (λF=>F b=some (.cells cs.toArray T z)) [aj wb [v] 247,cu v (bs) 5] (pP 247 5 wb (bs++bl l)):=by
 refine BD 45 Tryz.func174 rfl rfl rfl λw0 F hF=>sr λ_ J1=>PS ?_
 refine nx J1 (aa λ_ J2=>sr λ_ J3=>PS ?_);refine tp (pR rfl ii rfl) ?_;refine PS ?_;refine nx J3 (am ?_)
 refine bu (α:=(Nat)×(Value)×(List UInt8)) (λ⟨k,u,laid⟩=>k≤l.length∧laid++bl (l.drop k)=bs++bl l) (λ⟨k,u,laid⟩=>[(0,(.pointer (some ⟨wb,0,none⟩))),(4,(.pointer none)),(8,(.slice (some ⟨b,off,none⟩) (l.length) (cap))),(9,(.int .i64 (((l.length:Nat):Int)))),(10,(.int .i64 ((k:Nat))))]) (λ⟨k,u,laid⟩=>[aj wb [u] 247,cu u (laid) 5]) (λ⟨k,u,laid⟩=>l.length-k) (0,v,bs)
  ⟨by omega,rfl⟩ SB
  (λ_ s=>s) (λ⟨k,u,laid⟩ hinv=>?_)
 obtain⟨hk,hL⟩:=hinv;refine sr λ_ J4=>PS ?_
 refine ao ?_ ?_<;>intro h11;refine nx J4 (aa λ_ J5=>CY (qx J5 (aa λ_ J6=>am (sr λ_ J7=>tp (ji (r:=off+k) rfl ii aO rfl rfl (by first|omega|decide) (by first|omega|decide) (by omega)) ?_))));refine tp (ek (v:=(.int .i64 ((l.getD k 0)))) rfl Y3 rfl rfl (Rd.ro hF) (hb k (by omega))) ?_;refine PS ?_;refine nx J7 (sr λ_ J8=>PS ?_);refine tp (cp (r:=((((l.getD k 0%18446744073709551616).toNat:Nat)):Int)) rfl Y3 Tryz.underlying237 rfl (y1 _)) ?_;refine PS ?_;refine nx J8 (aa λ_ J9=>am ?_)
 refine bu (α:=(Nat)×(Value)×(List UInt8)) (λ⟨m,u2,laid2⟩=>laid2++(wL m++bl (l.drop (k+1)))=bs++bl l) (λ⟨m,u2,laid2⟩=>[(0,(.pointer (some ⟨wb,0,none⟩))),(4,(.pointer none)),(7,(.int .u64 ((m:Nat)))),(8,(.slice (some ⟨b,off,none⟩) (l.length) (cap))),(9,(.int .i64 (((l.length:Nat):Int)))),(10,(.int .i64 ((k:Nat))))]) (λ⟨m,u2,laid2⟩=>[aj wb [u2] 247,cu u2 (laid2) 5]) (λ⟨m,u2,laid2⟩=>m) ((l.getD k 0%18446744073709551616).toNat,u,laid)
  (by rw[←hL,GC (l:=l) (k:=k) (by omega)];rfl) SB
  (λ_ s=>s) (λ⟨m,u2,laid2⟩ hinv=>?_)
 have hM:=hinv;refine aa λ_ J10=>sr λ_ J11=>P2 ?_
 refine ao ?_ ?_<;>intro h17;refine nx J11 (CY (qx J10 (am (sr λ_ J12=>P3 ?_))));refine FA 0 IJ kj ?_;refine LA 0 e8 ?_;refine PS ?_;refine tp (cp (r:=(IntKind.u8.wrap ((m:Nat):Int))) rfl Tryz.underlying237 Y5 rfl rfl) ?_;refine tp (Ff (r:=(((UInt8.ofNat (m%128+128)).toNat:Nat):Int)) rfl rfl rfl (Mf m)) ?_;refine aL (cells:=#[(.int .u8 ((((UInt8.ofNat (m%128+128)).toNat:Nat):Int)))]) (ab rfl) rfl rfl rfl e8 sH rfl rfl rfl (by as_aux_lemma=>kernel_rfl) (λb26=>bO (k:=2) (news:=dw ([(UInt8.ofNat (m%128+128))])) (nn':=(laid2++[(UInt8.ofNat (m%128+128))]:List UInt8).length) (xs':=dw (laid2++[(UInt8.ofNat (m%128+128))])) (ab rfl) rfl rfl rfl e8 sH rfl rfl rfl rfl rfl rfl (λ_ _=>fB rfl (RO 0) rfl) (eB [(UInt8.ofNat (m%128+128))]) (by have:=congrArg List.length hM;have:=aY l;have:=pF m;simp only[ag,maxLen]at*;omega) (by have:=congrArg List.length hM;have:=aY l;have:=pF m;simp only[ag]at*;omega) (by simp) (fL _ _).symm (λv27 ov27=>PS ?_));refine FA 0 IJ kj ?_;refine bB (i:=1) (ab rfl) rfl rfl rfl rfl ov27 kj rfl rfl (lb rfl) rfl rfl (nx J12 (ad (PS ?_)));refine tp (gM (r:=((m / 128:Nat):Int)) rfl rfl rfl (by omega) (NY m)) ?_;refine PS ?_;refine ap (af ?_)
 exact aJ ((m / 128,v27,laid2++[(UInt8.ofNat (m%128+128))]):(Nat)×(Value)×(List UInt8)) (by rw[←hM,uP (by omega)];simp) (by show m / 128<m;omega)
  SB
  (λ_ s=>ak [1,1] rfl s)
 refine nx J11 (CN (aV (ay (ay (bh (ac J9 (ad (P3 ?_))))))));refine FA 0 IJ kj ?_;refine LA 0 e8 ?_;refine PS ?_;refine tp (cp (r:=(((UInt8.ofNat m).toNat:Nat):Int)) rfl Tryz.underlying237 Y5 rfl (JR (by omega))) ?_;refine aL (cells:=#[(.int .u8 ((((UInt8.ofNat m).toNat:Nat):Int)))]) (ab rfl) rfl rfl rfl e8 sH rfl rfl rfl (by as_aux_lemma=>kernel_rfl) (λb39=>bO (k:=2) (news:=dw ([(UInt8.ofNat m)])) (nn':=(laid2++[(UInt8.ofNat m)]:List UInt8).length) (xs':=dw (laid2++[(UInt8.ofNat m)])) (ab rfl) rfl rfl rfl e8 sH rfl rfl rfl rfl rfl rfl (λ_ _=>fB rfl (RO 0) rfl) (eB [(UInt8.ofNat m)]) (by have:=congrArg List.length hM;have:=aY l;have:=pF m;simp only[ag,maxLen]at*;omega) (by have:=congrArg List.length hM;have:=aY l;have:=pF m;simp only[ag]at*;omega) (by simp) (fL _ _).symm (λv40 ov40=>PS ?_));refine FA 0 IJ kj ?_;refine bB (i:=1) (ab rfl) rfl rfl rfl rfl ov40 kj rfl rfl (lb rfl) rfl rfl (ap (af (ac J6 (ad (AD ?_)))));refine PS ?_;refine ap ?_
 exact aJ ((k+1,v40,laid2++[(UInt8.ofNat m)]):(Nat)×(Value)×(List UInt8)) ⟨by omega,by rw[←hM,su (by omega)];simp⟩ (by show _-_<_-_;omega)
  SB
  (λ_ s=>ak [1,1] rfl s)
 refine nx J4 (aa λ_ J13=>CN (aV (ay (ay (bh (ac J2 (sr λ_ J14=>P2 ?_)))))));refine nx J14 (ah (WK [0,0] (av rfl rfl ?_)));obtain rfl:laid=bs++bl l:=by rw[←hL,eX (by omega)];simp[bl]
 exact⟨u,rfl,rfl⟩
theorem G3(wb:Nat)(v:Value)(bs:List UInt8):
 DT 174 #[(.pointer (some ⟨wb,0,none⟩)),(.slice none 0 0)] T0 [aj wb [v] 247,cu v (bs) 5] (pP 247 5 wb (bs++bl [])):=by
 refine BD 45 Tryz.func174 rfl rfl rfl λw0 F hF=>sr λ_ J1=>PS ?_
 refine nx J1 (aa λ_ J2=>sr λ_ J3=>PS ?_);refine tp (pR rfl ii rfl) ?_;refine PS ?_;refine nx J3 (am ?_)
 refine bu (α:=Unit) (λ_u=>True) (λ_u=>[(0,(.pointer (some ⟨wb,0,none⟩))),(4,(.pointer none)),(8,(.slice none 0 0)),(9,(.int .i64 0)),(10,(.int .i64 0))]) (λ_u=>[aj wb [v] 247,cu v (bs) 5]) (λ_u=>0) ()
  trivial SB
  (λ_ s=>s) (λ_u hinv=>?_)
 obtain _:=hinv;refine sr λ_ J4=>PS ?_
 refine nx J4 (aa λ_ J5=>CN (aV (ay (ay (bh (ac J2 (sr λ_ J6=>P2 ?_)))))));refine nx J6 (ah (av rfl rfl ?_));exact⟨v,rfl,by rw[Il,a8]⟩
theorem dE(wb:Nat)(v:Value)(bs:List UInt8)(x:Value)(l:List Int)(hlen:bs.length+10*l.length≤140737488355328):DT 174 #[(.pointer (some ⟨wb,0,none⟩)),x] (OS x l) [aj wb [v] 247,cu v bs 5] (pP 247 5 wb (bs++bl l)):=by
 refine Leg.Does.of λF hF=>?_
 rcases id hF with⟨rfl,rfl⟩| ⟨b,off,cap,cs,T,z,rfl,h3,h4⟩
 · exact⟨_,trivial,G3 wb v bs⟩
 · exact⟨_,h3,CD wb b off cap v bs l cs T z hlen h4⟩
theorem dX(wb:Nat)(v:Value)(bs:List UInt8)(hlen:bs.length≤140737488355328):
 DT 179 #[(.pointer (some ⟨wb,0,none⟩))] T0 [aj wb [v] 247,cu v (bs) 5] (c9 (λx H=>∃u,x=u∧H=[aj wb [v] 247,cu v bs 5,cu u bs 5])):=by
 refine Leg.Does.body (vs:=[(.pointer (some ⟨wb,0,none⟩))]) (n:=9) Tryz.func179 rfl rfl rfl (λw0 F hF=>?_);refine sr λ_ J1=>?_
 refine lc ?_;refine nx J1 ?_;refine sr λ_ J2=>?_
 refine Cp (ab rfl) rfl rfl rfl e8 js (λv3=>?_);change TL _ _ _ _ _ _ _ _ _ [cu v3 ([]) 5,aj wb [v] 247,cu v (bs) 5];refine mv ?_;refine tp (eR rfl rfl) ?_;refine tp (aW (r:=0) rfl IJ rfl kj rfl rfl) ?_;refine tp (ek (v:=v) rfl e8 rfl rfl (du 1 rfl rfl) rfl) ?_;refine bO (k:=0) (news:=dw (bs)) (nn':=(bs:List UInt8).length) (xs':=dw (bs)) (ab rfl) rfl rfl rfl e8 sH rfl rfl rfl rfl rfl rfl (λ_ s=>IN 2 rfl rfl s) (eB _) (by simp only[maxLen,aw,az];omega) (by simp only[aw,az];omega) (by simp) (ca _) (λv8 ov8=>?_);change TL _ _ _ _ _ _ _ _ _ [cu v8 (bs) 5,aj wb [v] 247,cu v (bs) 5];refine lc ?_;refine nx J2 ?_;refine ah ?_;refine aF (cZ _) (λ_ s=>ak [1,1,0] rfl s) ?_;refine av rfl rfl ?_;exact⟨v8,rfl,rfl⟩
theorem Ap(wb:Nat)(v:Value)(bs:List UInt8)(a0 a1 g0 g1 g2 g3 g4:Int)(hlen:bs.length+70≤140737488355328):
 DT 178 #[(.pointer (some ⟨wb,0,none⟩)),(.agg #[(.int .i64 (a0)),(.int .i64 (a1)),(.int .i64 (g0)),(.int .i64 (g1)),(.int .i64 (g2)),(.int .i64 (g3)),(.int .i64 (g4))])] T0 [aj wb [v] 247,cu v (bs) 5] (pP 247 5 wb (bs++bl [a0,a1,g0,g1,g2,g3,g4])):=by
 refine BD 15 Tryz.func178 rfl rfl rfl λw0 F hF=>sr λ_ J1=>XB λb3=>?_
 refine PS ?_;refine nx J1 (aa λ_ J2=>D1 0 bf ?_);refine PD 0 ?_;refine FD 1 0 dS aO ?_;refine LX 2 Y3 (.int .i64 (a0)) ?_ (hc:=by exact rfl);refine FD 3 1 dS aO ?_;refine LX 4 Y3 (.int .i64 (a1)) ?_ (hc:=by exact rfl);refine FD 7 2 dS fb ?_;refine ta 8 rfl (m9 rfl jA aO rfl) ?_;refine AL 5 ?_;refine aL (cells:=#[(.int .i64 (a0)),(.int .i64 (a1))]) (ab rfl) rfl rfl rfl ii nf rfl rfl rfl (by as_aux_lemma=>kernel_rfl) (λb10=>EN (AL 6 ?_));refine CQ jx (dE wb v (bs) (.slice (some ⟨b10,0,none⟩) (2) (2)) [a0,a1] (by simp only[ag,aw,az,aB];first|omega| (have:=aY [a0,a1];simp only[aw,az]at this;omega))) (SM [2,2]) (dv 0 rfl rfl rfl rfl) λvR HR hR=>?_
 obtain⟨u1,rfl,rfl⟩:=hR;refine EN (AL 9 ?_);refine CQ jx (dE wb u1 (bs++bl [a0,a1]) (.slice (some ⟨b3,2,none⟩) (5) (5)) [g0,g1,g2,g3,g4] (by simp only[ag,aw,az,aB];first|omega| (have:=aY [a0,a1];simp only[aw,az]at this;omega))) ID (dv 1 rfl rfl rfl rfl) λvR HR hR=>?_
 obtain⟨u2,rfl,rfl⟩:=hR;refine EN (PD 10 ?_);refine DN (ac J2 (ah (WK [0,0] (av rfl rfl ?_))));exact⟨_,rfl,by rw[aZ,←pE];rfl⟩
theorem xg(wb:Nat)(v:Value)(bs:List UInt8)(a0 a1 a2:Int)(hlen:bs.length+30≤140737488355328):
 DT 177 #[(.pointer (some ⟨wb,0,none⟩)),(.agg #[(.int .i64 (a0)),(.int .i64 (a1)),(.int .i64 (a2))])] T0 [aj wb [v] 247,cu v (bs) 5] (pP 247 5 wb (bs++bl [a0,a1,a2])):=by
 refine BD 14 Tryz.func177 rfl rfl rfl λw0 F hF=>sr λ_ J1=>XB λb3=>?_
 refine PS ?_;refine nx J1 (sr λ_ J2=>PS ?_);refine FA 0 lW aO ?_;refine LA 0 Y3 ?_;refine FA 1 lW aO ?_;refine LA 0 Y3 ?_;refine FA 2 lW aO ?_;refine LA 0 Y3 ?_;refine aL (cells:=#[(.int .i64 (a0)),(.int .i64 (a1)),(.int .i64 (a2))]) (ab rfl) rfl rfl rfl ii nf rfl rfl rfl (by as_aux_lemma=>kernel_rfl) (λb12=>CQ jx (dE wb v (bs) (.slice (some ⟨b12,0,none⟩) (3) (3)) [a0,a1,a2] (by simp only[ag,aw,az,aB];first|omega| (have:=aY [a0,a1];simp only[aw,az]at this;omega))) (SM [2,2]) (dv 0 rfl rfl rfl rfl) λvR HR hR=>?_);obtain⟨u1,rfl,rfl⟩:=hR;refine PS ?_;exact nx J2 (ah (WK [0,0] (av rfl rfl ⟨_,rfl,rfl⟩)))
theorem xh(wb:Nat)(v:Value)(bs:List UInt8)(a0 a1:Int)(hlen:bs.length+20≤140737488355328):
 DT 176 #[(.pointer (some ⟨wb,0,none⟩)),(.agg #[(.int .i64 (a0)),(.int .i64 (a1))])] T0 [aj wb [v] 247,cu v (bs) 5] (pP 247 5 wb (bs++bl [a0,a1])):=by
 refine BD 12 Tryz.func176 rfl rfl rfl λw0 F hF=>sr λ_ J1=>XB λb3=>?_
 refine PS ?_;refine nx J1 (sr λ_ J2=>PS ?_);refine FA 0 jQ aO ?_;refine LA 0 Y3 ?_;refine FA 1 jQ aO ?_;refine LA 0 Y3 ?_;refine aL (cells:=#[(.int .i64 (a0)),(.int .i64 (a1))]) (ab rfl) rfl rfl rfl ii nf rfl rfl rfl (by as_aux_lemma=>kernel_rfl) (λb10=>CQ jx (dE wb v (bs) (.slice (some ⟨b10,0,none⟩) (2) (2)) [a0,a1] (by simp only[ag,aw,az,aB];first|omega| (have:=aY [a0,a1];simp only[aw,az]at this;omega))) (SM [2,2]) (dv 0 rfl rfl rfl rfl) λvR HR hR=>?_);obtain⟨u1,rfl,rfl⟩:=hR;refine PS ?_;exact nx J2 (ah (WK [0,0] (av rfl rfl ⟨_,rfl,rfl⟩)))
theorem Ay(wb:Nat)(v:Value)(bs:List UInt8)(a0 a1 g0 g1 g2 g3 g4:Int)(hlen:bs.length+70≤140737488355328):
 DT 191 #[(.pointer (some ⟨wb,0,none⟩)),(.agg #[(.int .i64 (a0)),(.int .i64 (a1)),(.int .i64 (g0)),(.int .i64 (g1)),(.int .i64 (g2)),(.int .i64 (g3)),(.int .i64 (g4))])] T0 [aj wb [v] 247,cu v (bs) 5] (c9 (λx H=>∃v',x= .tuple #[]∧H=[aj wb [v'] 247,cu v' (bs++bl [a0,a1,g0,g1,g2,g3,g4]) 5])):=by
 refine BD 14 Tryz.func191 rfl rfl rfl λw0 F hF=>sr λ_ J1=>XB λb3=>?_
 refine nx J1 (D1 0 bf ?_);refine PD 0 ?_;refine FD 1 0 mn aO ?_;refine LX 2 Y3 (.int .i64 (a0)) ?_ (hc:=by exact rfl);refine FD 3 1 mn aO ?_;refine LX 4 Y3 (.int .i64 (a1)) ?_ (hc:=by exact rfl);refine FD 7 2 mn fb ?_;refine ta 8 rfl (m9 rfl jA aO rfl) ?_;refine AL 5 ?_;refine aL (cells:=#[(.int .i64 (a0)),(.int .i64 (a1))]) (ab rfl) rfl rfl rfl ii nf rfl rfl rfl (by as_aux_lemma=>kernel_rfl) (λb9=>EN (AL 6 ?_));refine CQ jx (dE wb v (bs) (.slice (some ⟨b9,0,none⟩) (2) (2)) [a0,a1] (by simp only[ag,aw,az,aB];first|omega| (have:=aY [a0,a1];simp only[aw,az]at this;omega))) (SM [2,2]) (dv 0 rfl rfl rfl rfl) λvR HR hR=>?_
 obtain⟨u1,rfl,rfl⟩:=hR;refine EN (AL 9 ?_);refine CQ jx (dE wb u1 (bs++bl [a0,a1]) (.slice (some ⟨b3,2,none⟩) (5) (5)) [g0,g1,g2,g3,g4] (by simp only[ag,aw,az,aB];first|omega| (have:=aY [a0,a1];simp only[aw,az]at this;omega))) ID (dv 1 rfl rfl rfl rfl) λvR HR hR=>?_
 obtain⟨u2,rfl,rfl⟩:=hR;refine EN (DN (WK [0,0] (br rfl ?_)));exact⟨_,rfl,by rw[aZ,←pE];rfl⟩
theorem uY(wb:Nat)(v:Value)(bs:List UInt8)(c:CellT)(hlen:bs.length+70≤140737488355328):DT 191 #[(.pointer (some ⟨wb,0,none⟩)),c.val] T0 [aj wb [v] 247,cu v bs 5] (c9 (λx H=>∃v',x= .tuple #[]∧H=[aj wb [v'] 247,cu v' (bs++bl c.flat) 5])):=by
 obtain⟨i,o,g⟩:=c;exact LQ (p:=λg=>Leg.Does Tryz.prog 191 #[(.pointer (some ⟨wb,0,none⟩)),CellT.val ⟨i,o,g⟩] (λ_=>True) [aj wb [v] 247,cu v bs 5] (c9 (λx H=>∃v',x= .tuple #[]∧H=[aj wb [v'] 247,cu v' (bs++bl (CellT.flat ⟨i,o,g⟩)) 5]))) (λa b c d e=>Ay wb v bs i o a b c d e hlen) g
theorem qt(wb:Nat)(v:Value)(bs:List UInt8)(x:ViewT)(hlen:bs.length+70≤140737488355328):DT 178 #[(.pointer (some ⟨wb,0,none⟩)),x.val] T0 [aj wb [v] 247,cu v bs 5] (pP 247 5 wb (bs++bl x.flat)):=by
 obtain⟨i,o,g⟩:=x;exact LQ (p:=λg=>Leg.Does Tryz.prog 178 #[(.pointer (some ⟨wb,0,none⟩)),ViewT.val ⟨i,o,g⟩] (λ_=>True) [aj wb [v] 247,cu v bs 5] (pP 247 5 wb (bs++bl (ViewT.flat ⟨i,o,g⟩)))) (λa b c d e=>Ap wb v bs i o a b c d e hlen) g
theorem nT(wb:Nat)(v:Value)(bs:List UInt8)(x:ChangeT)(hlen:bs.length+30≤140737488355328):DT 177 #[(.pointer (some ⟨wb,0,none⟩)),x.val] T0 [aj wb [v] 247,cu v bs 5] (pP 247 5 wb (bs++bl x.flat)):=xg wb v bs x.kind x.who x.heir (by omega)
theorem iY(wb:Nat)(v:Value)(bs:List UInt8)(x:BallotT)(hlen:bs.length+30≤140737488355328):DT 176 #[(.pointer (some ⟨wb,0,none⟩)),x.val] T0 [aj wb [v] 247,cu v bs 5] (pP 247 5 wb (bs++bl x.flat)):=xh wb v bs x.round x.who (by omega)
theorem sI(wb:Nat)(v:Value)(bs:List UInt8)(x:RowT)(hlen:bs.length+2000≤140737488355328):
 DT 175 #[(.pointer (some ⟨wb,0,none⟩)),(.agg (ints x.flat).toArray)] T0 [aj wb [v] 247,cu v (bs) 5] (pP 247 5 wb (bs++hZ x)):=by
 refine BD 50 Tryz.func175 rfl rfl rfl λw0 F hF=>sr λ_ J1=>XY (ints x.flat) λb3=>?_
 refine PS ?_;refine nx J1 (sr λ_ J2=>PS ?_);refine FA 0 dI aO ?_;refine LT 0 Y3 (.int .i64 (x.version)) ?_ (hc:=by exact RowT.get_version _);refine aL (cells:=#[(.int .i64 (x.version))]) (ab rfl) rfl rfl rfl ii nf rfl rfl rfl (by as_aux_lemma=>kernel_rfl) (λb14=>CQ jx (dE wb v (bs) (.slice (some ⟨b14,0,none⟩) (1) (1)) [x.version] (by have:=congrArg List.length (Eq.refl bs);have:=hY x;simp only[ag,aw,az]at*;omega)) (SM [2,2]) (dv 0 rfl rfl rfl rfl) λvR HR hR=>?_);obtain⟨u1,rfl,rfl⟩:=hR;refine nx J2 (aa λ_ J3=>sr λ_ J4=>FA 1 dI la ?_);refine tp (aK (vs:=ints (bR x.cells.toList)) rfl An rfl la rfl (RO 3) (by rw[ints_length,cT];simp) (RowT.get_cells _)) ?_;refine PS ?_;refine nx J4 (am ?_)
 refine bu (α:=(Nat)×(Value)×(List UInt8)) (λ⟨k,u,laid⟩=>k≤4∧laid++(bl (bR (x.cells.toList.drop k))++gf x 5 0)=bs++hZ x) (λ⟨k,u,laid⟩=>[(0,(.pointer (some ⟨wb,0,none⟩))),(3,(.pointer (some ⟨b3,0,none⟩))),(4,(.pointer none)),(17,(.agg (ints (bR x.cells.toList)).toArray)),(18,(.int .i64 ((k:Nat))))]) (λ⟨k,u,laid⟩=>[aj b3 (ints x.flat) 39,aj wb [u] 247,cu u (laid) 5]) (λ⟨k,u,laid⟩=>4-k) (0,u1,bs++bl [x.version])
  ⟨by omega,by simp[hZ,bl]⟩ SB
  (λ_ s=>ak [3,0,0] rfl s) (λ⟨k,u,laid⟩ hinv=>?_)
 obtain⟨hk,hL⟩:=hinv;have hE:=hL;rw[show bl (bR (x.cells.toList.drop k))=bl (bR (x.cells.toList.drop k))from rfl]at hE;refine sr λ_ J5=>PS ?_
 refine ao ?_ ?_<;>intro h19;refine nx J5 (aa λ_ J6=>CY (qx J6 (aa λ_ J7=>am (sr λ_ J8=>tp (O0 (cs:=ints (bR (x.cells.toList))) (r:=k*7) rfl An mn rfl eO rfl rfl (by omega) (by omega) (by omega) (yJ (by simp;omega))) ?_))));refine XA IV λb6=>?_
 refine bL (vs:=ints ((x.cells.toList)[k]'(by simp;omega)).flat) (cs':=ints ((x.cells.toList)[k]'(by simp;omega)).flat) (i:=0) (ab rfl) rfl rfl rfl rfl rfl (by rw[aT];exact eO) (bm _) rfl rfl (by rw[aT];exact aQ _) (iH (by rw[aT];rfl)) rfl (nx J8 (ad (PS ?_)));refine tp (aK (vs:=ints ((x.cells.toList)[k]'(by simp;omega)).flat) rfl mn rfl eO rfl (RO 0) (aT _) (by rw[bb,aC (by rw[aT];decide)])) ?_;refine CR J0 (uY wb u (laid) ((x.cells.toList)[k]'(by simp;omega)) (by have:=congrArg List.length hE;have:=hY x;have:=aY ((x.cells.toList)[k]'(by simp;omega)).flat;rw[bn]at this;simp only[ag]at*;omega)) (SM [2,2]) λvR HR hR=>?_
 obtain⟨u2,rfl,rfl⟩:=hR;refine ap (af (ac J7 (ad (AD ?_))));refine PS ?_;refine ap ?_
 exact aJ ((k+1,u2,laid++bl ((x.cells.toList)[k]'(by simp;omega)).flat):(Nat)×(Value)×(List UInt8)) ⟨by omega,by rw[←hL,oj (l:=x.cells.toList) (k:=k) (by simp;omega)];simp⟩ (by show _-_<_-_;omega)
  SB
  (λ_ s=>ak [3,0,0] rfl s)
 refine nx J5 (aa λ_ J9=>CN (aV (ay (ay (bh (ac J3 (aa λ_ J10=>sr λ_ J11=>FA 29 dI fb ?_)))))));refine tp (aK (vs:=ints x.heir.toList) rfl jA rfl fb rfl (RO 0) (by rw[ints_length];simp) (RowT.get_heirs _)) ?_;refine PS ?_;refine nx J11 (am ?_)
 refine bu (α:=(Nat)×(Value)×(List UInt8)) (λ⟨i,u,laid⟩=>i≤5∧laid++gf x (5-i) i=bs++hZ x) (λ⟨i,u,laid⟩=>[(0,(.pointer (some ⟨wb,0,none⟩))),(3,(.pointer (some ⟨b3,0,none⟩))),(4,(.pointer none)),(26,(.agg (ints x.heir.toList).toArray)),(27,(.int .i64 ((i:Nat))))]) (λ⟨i,u,laid⟩=>[aj b3 (ints x.flat) 39,aj wb [u] 247,cu u (laid) 5]) (λ⟨i,u,laid⟩=>5-i) (0,u,laid)
  ⟨by omega,by rw[←hL,eX (by simp;omega)];simp[bR,bl]⟩ SB
  (λ_ s=>ak [0,0,0] rfl s) (λ⟨i,u,laid⟩ hinv=>?_)
 obtain⟨hi,hL⟩:=hinv;have hE:=hL;refine sr λ_ J12=>PS ?_
 refine ao ?_ ?_<;>intro h28;refine nx J12 (aa λ_ J13=>CY (qx J13 (aa λ_ J14=>am (sr λ_ J15=>PS ?_))));refine tp (ia (cs:=ints x.heir.toList) (v:= .int .i64 (x.heir[i]'(by omega))) (r:=i) rfl jA Y3 rfl aO rfl rfl (by omega) (by omega) (by omega) (by rw[ints_get _ _ (by simp;omega)];simp[List.getD_eq_getElem?_getD,show i<5 by omega])) ?_;refine P2 ?_;refine nx J15 (sr λ_ J16=>P2 ?_);refine aL (cells:=#[(.int .i64 (x.heir[i]'(by omega)))]) (ab rfl) rfl rfl rfl ii nf rfl rfl rfl (by as_aux_lemma=>kernel_rfl) (λb33=>CQ jx (dE wb u (laid) (.slice (some ⟨b33,0,none⟩) (1) (1)) [x.heir[i]'(by omega)] (by have:=congrArg List.length hE;have:=hY x;simp only[ag,aw,az]at*;omega)) (SM [2,2]) (dv 0 rfl rfl rfl rfl) λvR HR hR=>?_);obtain⟨u2,rfl,rfl⟩:=hR;refine nx J16 (sr λ_ J17=>P2 ?_);refine ao ?_ ?_<;>intro h36;refine nx J17 (CY (sr λ_ J18=>PS ?_));refine FA 34 dI AI ?_;refine IX (34+i*28) KE la ?_;refine tp (aK (vs:=ints (bR (x.left[i]'(by omega)).toList)) rfl An rfl la rfl (RO 3) (by rw[ints_length,cT];simp) (RowT.get_left _ i (by omega))) ?_;refine PS ?_;refine nx J18 (am ?_)
 refine bu (α:=(Nat)×(Value)×(List UInt8)) (λ⟨k,u3,laid3⟩=>k≤4∧laid3++(bl (bR ((x.left[i]'(by omega)).toList.drop k))++gf x (5- (i+1)) (i+1))=bs++hZ x) (λ⟨k,u3,laid3⟩=>[(0,(.pointer (some ⟨wb,0,none⟩))),(3,(.pointer (some ⟨b3,0,none⟩))),(4,(.pointer none)),(26,(.agg (ints x.heir.toList).toArray)),(27,(.int .i64 ((i:Nat)))),(40,(.agg (ints (bR (x.left[i]'(by omega)).toList)).toArray)),(41,(.int .i64 ((k:Nat))))]) (λ⟨k,u3,laid3⟩=>[aj b3 (ints x.flat) 39,aj wb [u3] 247,cu u3 (laid3) 5]) (λ⟨k,u3,laid3⟩=>4-k) (0,u2,laid++bl [x.heir[i]'(by omega)])
  ⟨by omega,by rw[←hL,qm (i:=i) (by omega),if_pos h36];simp[bl]⟩ SB
  (λ_ s=>ak [3,0,0] rfl s) (λ⟨k,u3,laid3⟩ hinv=>?_)
 obtain⟨hk,hM⟩:=hinv;have hE:=hM;refine sr λ_ J19=>PS ?_
 refine ao ?_ ?_<;>intro h42;refine nx J19 (aa λ_ J20=>CY (qx J20 (aa λ_ J21=>am (sr λ_ J22=>tp (O0 (cs:=ints (bR ((x.left[i]'(by omega)).toList))) (r:=k*7) rfl An mn rfl eO rfl rfl (by omega) (by omega) (by omega) (yJ (by simp;omega))) ?_))));refine XA IV λb10=>?_
 refine bL (vs:=ints (((x.left[i]'(by omega)).toList)[k]'(by simp;omega)).flat) (cs':=ints (((x.left[i]'(by omega)).toList)[k]'(by simp;omega)).flat) (i:=0) (ab rfl) rfl rfl rfl rfl rfl (by rw[aT];exact eO) (bm _) rfl rfl (by rw[aT];exact aQ _) (iH (by rw[aT];rfl)) rfl (nx J22 (ad (PS ?_)));refine tp (aK (vs:=ints (((x.left[i]'(by omega)).toList)[k]'(by simp;omega)).flat) rfl mn rfl eO rfl (RO 0) (aT _) (by rw[bb,aC (by rw[aT];decide)])) ?_;refine CR J0 (uY wb u3 (laid3) (((x.left[i]'(by omega)).toList)[k]'(by simp;omega)) (by have:=congrArg List.length hE;have:=hY x;have:=aY (((x.left[i]'(by omega)).toList)[k]'(by simp;omega)).flat;rw[bn]at this;simp only[ag]at*;omega)) (SM [2,2]) λvR HR hR=>?_
 obtain⟨u3,rfl,rfl⟩:=hR;refine ap (af (ac J21 (ad (AD ?_))));refine PS ?_;refine ap ?_
 exact aJ ((k+1,u3,laid3++bl (((x.left[i]'(by omega)).toList)[k]'(by simp;omega)).flat):(Nat)×(Value)×(List UInt8)) ⟨by omega,by rw[←hM,oj (l:=(x.left[i]'(by omega)).toList) (k:=k) (by simp;omega)];simp⟩ (by show _-_<_-_;omega)
  SB
  (λ_ s=>ak [3,0,0] rfl s)
 refine nx J19 (aa λ_ J23=>CN (aV (ay (ay (bh (af (ac J14 (ad (AD ?_)))))))));refine PS ?_;refine ap ?_
 exact aJ ((i+1,u3,laid3):(Nat)×(Value)×(List UInt8)) ⟨by omega,by rw[←hM,eX (by simp;omega)];simp[bR,bl]⟩ (by show _-_<_-_;omega)
  SB
  (λ_ s=>ak [0,0,0] rfl s)
 refine nx J17 (CN (aM (af (ac J14 (ad (AD ?_))))));refine PS ?_;refine ap ?_
 exact aJ ((i+1,u2,laid++bl [x.heir[i]'(by omega)]):(Nat)×(Value)×(List UInt8)) ⟨by omega,by rw[←hL,qm (i:=i) (by omega),if_neg h36];simp[bl]⟩ (by show _-_<_-_;omega)
  SB
  (λ_ s=>ak [3,0,0] rfl s)
 refine nx J12 (aa λ_ J24=>CN (aV (ay (ay (bh (ac J10 (sr λ_ J25=>P2 ?_)))))));refine nx J25 (ah (WK [1,1] (av rfl rfl ?_)));obtain rfl:laid=bs++hZ x:=by rw[←hL,show 5-i=0 by omega];simp[gf]
 exact⟨u,rfl,rfl⟩
theorem BU(m:MsgT):
 DT 217 #[(.agg (ints m.flat).toArray)] T0 [] (c9 (λr' H=>∃u,r'=u∧H=[cu u (dP m) 5])):=by
 refine BD 100 Tryz.func217 rfl rfl rfl λw0 F hF=>sr λ_ J1=>XY (ints m.flat) λb1=>?_
 refine PS ?_;refine nx J1 (sr λ_ J2=>XA LO λb4=>?_);refine TL.ownNil 5 (λon=>?_);clear on;refine PS ?_;refine nx J2 (aa λ_ J3=>sr λ_ J4=>FA 0 bd aO ?_);refine LU 2 Y3 (eM m rfl) ?_;refine nx J4 (am (aa λ_ J5=>eT (α:=Unit) (λ_u=>True) (λ_u=>[(1,(.pointer (some ⟨b1,0,none⟩))),(2,(.slice none 0 0)),(3,(.pointer (some ⟨b4,0,none⟩))),(6,(.int .i64 (m.kind))),(7,(.bool ((e7 m.kind))))]) (λ_u=>[cu (.slice none 0 0) ([]) 5,aj b4 [(.slice none 0 0)] 247,aj b1 (ints m.flat) 163]) (λ_u hinv=>?_) (λtl5=>?_)));have _:=hinv;refine ac J5 (TC.cond rfl (λh7=>?_) (λh7=>?_));refine D1 2 bf ?_;refine PD 0 ?_;refine FD 1 0 bd aO ?_;refine LR 2 Y3 (eM m rfl) ?_;refine FD 3 1 bd aO ?_;refine LR 4 Y3 (co m rfl) ?_;refine FD 7 2 bd ba ?_;refine ta 8 rfl (aK (vs:=ints m.row.flat) rfl dI rfl ba rfl (λ_ h=>h.2.1) (ai m.row) (lP m 0 rfl (by decide) (whole (ai m.row)))) ?_;refine AL 5 ?_;refine aL (cells:=#[(.int .i64 (m.kind)),(.int .i64 (m.whose))]) (ab rfl) rfl rfl rfl ii nf rfl rfl rfl (by as_aux_lemma=>kernel_rfl) (λb16=>EN (AL 6 ?_));refine CQ jx (dE b4 (.slice none 0 0) ([]) (.slice (some ⟨b16,0,none⟩) (2) (2)) [m.kind,m.whose] (by simp)) (SM [2,1]) (dv 0 rfl rfl rfl rfl) λvR HR hR=>?_
 obtain⟨u1,rfl,rfl⟩:=hR;refine EN (AL 9 ?_);refine CR HU (sI b4 u1 (bl [m.kind,m.whose]) m.row (by(have:=aY [m.kind,m.whose]);simp only[BallotT.flat,ViewT.flat,ChangeT.flat,aw,az,aB,ag]at*;omega)) ID λvR HR hR=>?_
 obtain⟨u2,rfl,rfl⟩:=hR;refine EN (DN (af (ac J3 (sr λ_ J6=>PS ?_))));refine CR mG (dX b4 u2 (bl [m.kind,m.whose]++hZ m.row) (by(have:=aY [m.kind,m.whose]);(have:=hY m.row);simp only[BallotT.flat,ViewT.flat,ChangeT.flat,aw,az,aB,ag]at*;omega)) ID λvR HR hR=>?_
 obtain⟨_,rfl,rfl⟩:=hR;revert vR;intro u3;refine PS ?_;refine nx J6 (ah (WK [2] (av rfl rfl ?_)));exact⟨_,rfl,congrArg (λb=>[cu u3 b 5]) (show(bl [m.kind,m.whose]++hZ m.row)=dP m by simp[dP,bl, *])⟩;refine sr λ_ J7=>PS ?_
 refine ao ?_ ?_<;>intro h22;refine PS ?_;refine nx J7 (CY (ad (PS ?_)));refine FA 0 bd aO ?_;refine LU 2 Y3 (eM m rfl) ?_;refine FA 176 bd aO ?_;refine LU 2 Y3 (MsgT.at_version m rfl) ?_;refine aL (cells:=#[(.int .i64 (m.kind)),(.int .i64 (m.version))]) (ab rfl) rfl rfl rfl ii nf rfl rfl rfl (by as_aux_lemma=>kernel_rfl) (λb28=>CQ jx (dE b4 (.slice none 0 0) ([]) (.slice (some ⟨b28,0,none⟩) (2) (2)) [m.kind,m.version] (by simp)) (SM [2,1]) (dv 0 rfl rfl rfl rfl) λvR HR hR=>?_);obtain⟨u1,rfl,rfl⟩:=hR;refine ap (af (ac J3 (sr λ_ J8=>PS ?_)));refine CR mG (dX b4 u1 (bl [m.kind,m.version]) (by(have:=aY [m.kind,m.version]);simp only[BallotT.flat,ViewT.flat,ChangeT.flat,aw,az,aB,ag]at*;omega)) ID λvR HR hR=>?_
 obtain⟨_,rfl,rfl⟩:=hR;revert vR;intro u2;refine PS ?_;refine nx J8 (ah (WK [2] (av rfl rfl ?_)));exact⟨_,rfl,congrArg (λb=>[cu u2 b 5]) (show(bl [m.kind,m.version])=dP m by simp[dP,e7,ff,bl, *])⟩;refine PS ?_;refine nx J7 (CN (aa λ_ J9=>eT (α:=Unit) (λ_u=>True) (λ_u=>[(1,(.pointer (some ⟨b1,0,none⟩))),(2,(.slice none 0 0)),(3,(.pointer (some ⟨b4,0,none⟩))),(6,(.int .i64 (m.kind))),(30,(.bool ((ff m.kind))))]) (λ_u=>[cu (.slice none 0 0) ([]) 5,aj b4 [(.slice none 0 0)] 247,aj b1 (ints m.flat) 163]) (λ_u hinv=>?_) (λtl9=>?_)));have _:=hinv;refine ac J9 (TC.cond rfl (λh30=>?_) (λh30=>?_));refine D1 2 bf ?_;refine PD 0 ?_;refine FD 1 0 bd aO ?_;refine LR 2 Y3 (eM m rfl) ?_;refine FD 3 177 bd aO ?_;refine LR 4 Y3 (ez m rfl) ?_;refine FD 7 178 bd cw ?_;refine ta 8 rfl (aK (vs:=ints m.ballot.flat) rfl jQ rfl cw rfl (λ_ h=>h.2.1) (aq m.ballot) (iF m 0 rfl (by decide) (whole (aq m.ballot)))) ?_;refine AL 5 ?_;refine aL (cells:=#[(.int .i64 (m.kind)),(.int .i64 (m.epoch))]) (ab rfl) rfl rfl rfl ii nf rfl rfl rfl (by as_aux_lemma=>kernel_rfl) (λb38=>EN (AL 6 ?_));refine CQ jx (dE b4 (.slice none 0 0) ([]) (.slice (some ⟨b38,0,none⟩) (2) (2)) [m.kind,m.epoch] (by simp)) (SM [2,1]) (dv 0 rfl rfl rfl rfl) λvR HR hR=>?_
 obtain⟨u1,rfl,rfl⟩:=hR;refine EN (AL 9 ?_);refine CR yy (iY b4 u1 (bl [m.kind,m.epoch]) m.ballot (by(have:=aY [m.kind,m.epoch]);simp only[BallotT.flat,ViewT.flat,ChangeT.flat,aw,az,aB,ag]at*;omega)) ID λvR HR hR=>?_
 obtain⟨u2,rfl,rfl⟩:=hR;refine EN (DN (af (ac J3 (sr λ_ J10=>PS ?_))));refine CR mG (dX b4 u2 (bl [m.kind,m.epoch]++bl m.ballot.flat) (by(have:=aY [m.kind,m.epoch]);(have:=aY (m.ballot.flat));simp only[BallotT.flat,ViewT.flat,ChangeT.flat,aw,az,aB,ag]at*;omega)) ID λvR HR hR=>?_
 obtain⟨_,rfl,rfl⟩:=hR;revert vR;intro u3;refine PS ?_;refine nx J10 (ah (WK [2] (av rfl rfl ?_)));exact⟨_,rfl,congrArg (λb=>[cu u3 b 5]) (show(bl [m.kind,m.epoch]++bl m.ballot.flat)=dP m by simp[dP,bl, *])⟩;refine sr λ_ J11=>PS ?_
 refine ao ?_ ?_<;>intro h44;refine PS ?_;refine nx J11 (CY (D1 2 bf ?_));refine PD 0 ?_;refine FD 1 0 bd aO ?_;refine LR 2 Y3 (eM m rfl) ?_;refine FD 3 177 bd aO ?_;refine LR 4 Y3 (ez m rfl) ?_;refine FD 7 178 bd cw ?_;refine ta 8 rfl (aK (vs:=ints m.ballot.flat) rfl jQ rfl cw rfl (λ_ h=>h.2.1) (aq m.ballot) (iF m 0 rfl (by decide) (whole (aq m.ballot)))) ?_;refine FD 10 180 bd cw ?_;refine ta 11 rfl (aK (vs:=ints m.had.flat) rfl jQ rfl cw rfl (λ_ h=>h.2.1) (aq m.had) (Pa m 0 rfl (by decide) (whole (aq m.had)))) ?_;refine FD 13 182 bd eZ ?_;refine ta 14 rfl (aK (vs:=ints m.change.flat) rfl lW rfl eZ rfl (λ_ h=>h.2.1) (aI m.change) (mS m 0 rfl (by decide) (whole (aI m.change)))) ?_;refine AL 5 ?_;refine aL (cells:=#[(.int .i64 (m.kind)),(.int .i64 (m.epoch))]) (ab rfl) rfl rfl rfl ii nf rfl rfl rfl (by as_aux_lemma=>kernel_rfl) (λb50=>EN (AL 6 ?_));refine CQ jx (dE b4 (.slice none 0 0) ([]) (.slice (some ⟨b50,0,none⟩) (2) (2)) [m.kind,m.epoch] (by simp)) (SM [2,1]) (dv 0 rfl rfl rfl rfl) λvR HR hR=>?_
 obtain⟨u1,rfl,rfl⟩:=hR;refine EN (AL 9 ?_);refine CR yy (iY b4 u1 (bl [m.kind,m.epoch]) m.ballot (by(have:=aY [m.kind,m.epoch]);simp only[BallotT.flat,ViewT.flat,ChangeT.flat,aw,az,aB,ag]at*;omega)) ID λvR HR hR=>?_
 obtain⟨u2,rfl,rfl⟩:=hR;refine EN (AL 12 ?_);refine CR yy (iY b4 u2 (bl [m.kind,m.epoch]++bl m.ballot.flat) m.had (by(have:=aY [m.kind,m.epoch]);(have:=aY (m.ballot.flat));simp only[BallotT.flat,ViewT.flat,ChangeT.flat,aw,az,aB,ag]at*;omega)) ID λvR HR hR=>?_
 obtain⟨u3,rfl,rfl⟩:=hR;refine EN (AL 15 ?_);refine CR HT (nT b4 u3 (bl [m.kind,m.epoch]++bl m.ballot.flat++bl m.had.flat) m.change (by(have:=aY [m.kind,m.epoch]);(have:=aY (m.ballot.flat));(have:=aY (m.had.flat));simp only[BallotT.flat,ViewT.flat,ChangeT.flat,aw,az,aB,ag]at*;omega)) ID λvR HR hR=>?_
 obtain⟨u4,rfl,rfl⟩:=hR;refine EN (DN (af (ac J3 (sr λ_ J12=>PS ?_))));refine CR mG (dX b4 u4 (bl [m.kind,m.epoch]++bl m.ballot.flat++bl m.had.flat++bl m.change.flat) (by(have:=aY [m.kind,m.epoch]);(have:=aY (m.ballot.flat));(have:=aY (m.had.flat));(have:=aY (m.change.flat));simp only[BallotT.flat,ViewT.flat,ChangeT.flat,aw,az,aB,ag]at*;omega)) ID λvR HR hR=>?_
 obtain⟨_,rfl,rfl⟩:=hR;revert vR;intro u5;refine PS ?_;refine nx J12 (ah (WK [2] (av rfl rfl ?_)));exact⟨_,rfl,congrArg (λb=>[cu u5 b 5]) (show(bl [m.kind,m.epoch]++bl m.ballot.flat++bl m.had.flat++bl m.change.flat)=dP m by simp[dP,e7,ff,bl, *])⟩;refine PS ?_;refine nx J11 (CN (sr λ_ J13=>PS ?_));refine ao ?_ ?_<;>intro h62;refine PS ?_;refine nx J13 (CY (D1 2 bf ?_));refine PD 0 ?_;refine FD 1 0 bd aO ?_;refine LR 2 Y3 (eM m rfl) ?_;refine FD 3 177 bd aO ?_;refine LR 4 Y3 (ez m rfl) ?_;refine FD 7 178 bd cw ?_;refine ta 8 rfl (aK (vs:=ints m.ballot.flat) rfl jQ rfl cw rfl (λ_ h=>h.2.1) (aq m.ballot) (iF m 0 rfl (by decide) (whole (aq m.ballot)))) ?_;refine FD 10 182 bd eZ ?_;refine ta 11 rfl (aK (vs:=ints m.change.flat) rfl lW rfl eZ rfl (λ_ h=>h.2.1) (aI m.change) (mS m 0 rfl (by decide) (whole (aI m.change)))) ?_;refine AL 5 ?_;refine aL (cells:=#[(.int .i64 (m.kind)),(.int .i64 (m.epoch))]) (ab rfl) rfl rfl rfl ii nf rfl rfl rfl (by as_aux_lemma=>kernel_rfl) (λb68=>EN (AL 6 ?_));refine CQ jx (dE b4 (.slice none 0 0) ([]) (.slice (some ⟨b68,0,none⟩) (2) (2)) [m.kind,m.epoch] (by simp)) (SM [2,1]) (dv 0 rfl rfl rfl rfl) λvR HR hR=>?_
 obtain⟨u1,rfl,rfl⟩:=hR;refine EN (AL 9 ?_);refine CR yy (iY b4 u1 (bl [m.kind,m.epoch]) m.ballot (by(have:=aY [m.kind,m.epoch]);simp only[BallotT.flat,ViewT.flat,ChangeT.flat,aw,az,aB,ag]at*;omega)) ID λvR HR hR=>?_
 obtain⟨u2,rfl,rfl⟩:=hR;refine EN (AL 12 ?_);refine CR HT (nT b4 u2 (bl [m.kind,m.epoch]++bl m.ballot.flat) m.change (by(have:=aY [m.kind,m.epoch]);(have:=aY (m.ballot.flat));simp only[BallotT.flat,ViewT.flat,ChangeT.flat,aw,az,aB,ag]at*;omega)) ID λvR HR hR=>?_
 obtain⟨u3,rfl,rfl⟩:=hR;refine EN (DN (af (ac J3 (sr λ_ J14=>PS ?_))));refine CR mG (dX b4 u3 (bl [m.kind,m.epoch]++bl m.ballot.flat++bl m.change.flat) (by(have:=aY [m.kind,m.epoch]);(have:=aY (m.ballot.flat));(have:=aY (m.change.flat));simp only[BallotT.flat,ViewT.flat,ChangeT.flat,aw,az,aB,ag]at*;omega)) ID λvR HR hR=>?_
 obtain⟨_,rfl,rfl⟩:=hR;revert vR;intro u4;refine PS ?_;refine nx J14 (ah (WK [2] (av rfl rfl ?_)));exact⟨_,rfl,congrArg (λb=>[cu u4 b 5]) (show(bl [m.kind,m.epoch]++bl m.ballot.flat++bl m.change.flat)=dP m by simp[dP,e7,ff,bl, *])⟩;refine PS ?_;refine nx J13 (CN (sr λ_ J15=>PS ?_));refine ao ?_ ?_<;>intro h77;refine PS ?_;refine nx J15 (CY (D1 2 bf ?_));refine PD 0 ?_;refine FD 1 0 bd aO ?_;refine LR 2 Y3 (eM m rfl) ?_;refine FD 5 185 bd be ?_;refine ta 6 rfl (aK (vs:=ints m.view.flat) rfl dS rfl be rfl (λ_ h=>h.2.1) (an m.view) (uK m 0 rfl (by decide) (whole (an m.view)))) ?_;refine AL 3 ?_;refine aL (cells:=#[(.int .i64 (m.kind))]) (ab rfl) rfl rfl rfl ii nf rfl rfl rfl (by as_aux_lemma=>kernel_rfl) (λb81=>EN (AL 4 ?_));refine CQ jx (dE b4 (.slice none 0 0) ([]) (.slice (some ⟨b81,0,none⟩) (1) (1)) [m.kind] (by simp)) (SM [2,1]) (dv 0 rfl rfl rfl rfl) λvR HR hR=>?_
 obtain⟨u1,rfl,rfl⟩:=hR;refine EN (AL 7 ?_);refine CR HS (qt b4 u1 (bl [m.kind]) m.view (by(have:=aY [m.kind]);simp only[BallotT.flat,ViewT.flat,ChangeT.flat,aw,az,aB,ag]at*;omega)) ID λvR HR hR=>?_
 obtain⟨u2,rfl,rfl⟩:=hR;refine EN (DN (af (ac J3 (sr λ_ J16=>PS ?_))));refine CR mG (dX b4 u2 (bl [m.kind]++bl m.view.flat) (by(have:=aY [m.kind]);(have:=aY (m.view.flat));simp only[BallotT.flat,ViewT.flat,ChangeT.flat,aw,az,aB,ag]at*;omega)) ID λvR HR hR=>?_
 obtain⟨_,rfl,rfl⟩:=hR;revert vR;intro u3;refine PS ?_;refine nx J16 (ah (WK [2] (av rfl rfl ?_)));exact⟨_,rfl,congrArg (λb=>[cu u3 b 5]) (show(bl [m.kind]++bl m.view.flat)=dP m by simp[dP,e7,ff,bl, *])⟩;refine PS ?_;refine nx J15 (CN (sr λ_ J17=>PS ?_));refine ao ?_ ?_<;>intro h87;refine PS ?_;refine nx J17 (CY (D1 2 bf ?_));refine PD 0 ?_;refine FD 1 0 bd aO ?_;refine LR 2 Y3 (eM m rfl) ?_;refine FD 3 1 bd aO ?_;refine LR 4 Y3 (co m rfl) ?_;refine FD 7 185 bd be ?_;refine ta 8 rfl (aK (vs:=ints m.view.flat) rfl dS rfl be rfl (λ_ h=>h.2.1) (an m.view) (uK m 0 rfl (by decide) (whole (an m.view)))) ?_;refine AL 5 ?_;refine aL (cells:=#[(.int .i64 (m.kind)),(.int .i64 (m.whose))]) (ab rfl) rfl rfl rfl ii nf rfl rfl rfl (by as_aux_lemma=>kernel_rfl) (λb93=>EN (AL 6 ?_));refine CQ jx (dE b4 (.slice none 0 0) ([]) (.slice (some ⟨b93,0,none⟩) (2) (2)) [m.kind,m.whose] (by simp)) (SM [2,1]) (dv 0 rfl rfl rfl rfl) λvR HR hR=>?_
 obtain⟨u1,rfl,rfl⟩:=hR;refine EN (AL 9 ?_);refine CR HS (qt b4 u1 (bl [m.kind,m.whose]) m.view (by(have:=aY [m.kind,m.whose]);simp only[BallotT.flat,ViewT.flat,ChangeT.flat,aw,az,aB,ag]at*;omega)) ID λvR HR hR=>?_
 obtain⟨u2,rfl,rfl⟩:=hR;refine EN (DN (af (ac J3 (sr λ_ J18=>PS ?_))));refine CR mG (dX b4 u2 (bl [m.kind,m.whose]++bl m.view.flat) (by(have:=aY [m.kind,m.whose]);(have:=aY (m.view.flat));simp only[BallotT.flat,ViewT.flat,ChangeT.flat,aw,az,aB,ag]at*;omega)) ID λvR HR hR=>?_
 obtain⟨_,rfl,rfl⟩:=hR;revert vR;intro u3;refine PS ?_;refine nx J18 (ah (WK [2] (av rfl rfl ?_)));exact⟨_,rfl,congrArg (λb=>[cu u3 b 5]) (show(bl [m.kind,m.whose]++bl m.view.flat)=dP m by simp[dP,e7,ff,bl, *])⟩;refine PS ?_;refine nx J17 (CN (aM (af (ac J3 (sr λ_ J19=>PS ?_)))));refine CR mG (dX b4 (.slice none 0 0) ([]) (by simp)) (SM [1,0]) λvR HR hR=>?_
 obtain⟨_,rfl,rfl⟩:=hR;revert vR;intro u1;refine PS ?_;refine nx J19 (ah (WK [2] (av rfl rfl ?_)));exact⟨_,rfl,congrArg (λb=>[cu u1 b 5]) (show([]:List UInt8)=dP m by simp[dP,bl, *])⟩;refine sr λ_ J20=>P2 ?_
 refine ao ?_ ?_<;>intro h30;refine nx J20 (CY (aM ?_))
 exact aF
  (aX (aX (aX (aX (bC rfl (by simp[ff, *]) SB)))))
  (λ_ s=>s)
  (tl9 (():Unit) trivial)
 refine nx J20 (CN (ad (PS ?_)));refine ao ?_ ?_<;>intro h32;refine PS ?_;refine ap ?_
 exact aF
  (aX (aX (aX (aX (bC rfl (by simp[ff, *]) SB)))))
  (λ_ s=>s)
  (tl9 (():Unit) trivial)
 refine PS ?_;refine ap ?_
 exact aF
  (aX (aX (aX (aX (bC rfl (by simp[ff, *]) SB)))))
  (λ_ s=>s)
  (tl9 (():Unit) trivial)
 refine sr λ_ J21=>P2 ?_
 refine ao ?_ ?_<;>intro h7;refine nx J21 (CY (aM ?_))
 exact aF
  (aX (aX (aX (aX (bC rfl (by simp[e7, *]) SB)))))
  (λ_ s=>s)
  (tl5 (():Unit) trivial)
 refine nx J21 (CN (sr λ_ J22=>P2 ?_));refine ao ?_ ?_<;>intro h7;refine nx J22 (CY (aM ?_))
 exact aF
  (aX (aX (aX (aX (bC rfl (by simp[e7, *]) SB)))))
  (λ_ s=>s)
  (tl5 (():Unit) trivial)
 refine nx J22 (CN (ad (PS ?_)));refine ao ?_ ?_<;>intro h10;refine PS ?_;refine ap ?_
 exact aF
  (aX (aX (aX (aX (bC rfl (by simp[e7, *]) SB)))))
  (λ_ s=>s)
  (tl5 (():Unit) trivial)
 refine PS ?_;refine ap ?_
 exact aF
  (aX (aX (aX (aX (bC rfl (by simp[e7, *]) SB)))))
  (λ_ s=>s)
  (tl5 (():Unit) trivial)
theorem Be(m:RecT):
 DT 156 #[(.agg (ints m.flat).toArray)] T0 [] (c9 (λr' H=>∃u,r'=u∧H=[cu u (jX m) 5])):=by
 refine BD 77 Tryz.func156 rfl rfl rfl λw0 F hF=>sr λ_ J1=>XY (ints m.flat) λb1=>?_
 refine PS ?_;refine nx J1 (sr λ_ J2=>XA LO λb4=>?_);refine TL.ownNil 5 (λon=>?_);clear on;refine PS ?_;refine nx J2 (aa λ_ J3=>sr λ_ J4=>FA 0 dT aO ?_);refine LU 2 Y3 (kc m rfl) ?_;refine nx J4 (am (sr λ_ J5=>PS ?_));refine ao ?_ ?_<;>intro h8;refine PS ?_;refine nx J5 (CY (D1 2 bf ?_));refine PD 0 ?_;refine FD 1 0 dT aO ?_;refine LR 2 Y3 (kc m rfl) ?_;refine FD 5 2 dT ba ?_;refine ta 6 rfl (aK (vs:=ints m.row.flat) rfl dI rfl ba rfl (λ_ h=>h.2.1) (ai m.row) (rc m 0 rfl (by decide) (whole (ai m.row)))) ?_;refine AL 3 ?_;refine aL (cells:=#[(.int .i64 (m.kind))]) (ab rfl) rfl rfl rfl ii nf rfl rfl rfl (by as_aux_lemma=>kernel_rfl) (λb12=>EN (AL 4 ?_));refine CQ jx (dE b4 (.slice none 0 0) ([]) (.slice (some ⟨b12,0,none⟩) (1) (1)) [m.kind] (by simp)) (SM [2,1]) (dv 0 rfl rfl rfl rfl) λvR HR hR=>?_
 obtain⟨u1,rfl,rfl⟩:=hR;refine EN (AL 7 ?_);refine CR HU (sI b4 u1 (bl [m.kind]) m.row (by(have:=aY [m.kind]);simp only[BallotT.flat,ViewT.flat,ChangeT.flat,aw,az,aB,ag]at*;omega)) ID λvR HR hR=>?_
 obtain⟨u2,rfl,rfl⟩:=hR;refine EN (DN (af (ac J3 (sr λ_ J6=>PS ?_))));refine CR mG (dX b4 u2 (bl [m.kind]++hZ m.row) (by(have:=aY [m.kind]);(have:=hY m.row);simp only[BallotT.flat,ViewT.flat,ChangeT.flat,aw,az,aB,ag]at*;omega)) ID λvR HR hR=>?_
 obtain⟨_,rfl,rfl⟩:=hR;revert vR;intro u3;refine PS ?_;refine nx J6 (ah (WK [2] (av rfl rfl ?_)));exact⟨_,rfl,congrArg (λb=>[cu u3 b 5]) (show(bl [m.kind]++hZ m.row)=jX m by simp[jX,e7,ff,bl, *])⟩;refine PS ?_;refine nx J5 (CN (sr λ_ J7=>PS ?_));refine ao ?_ ?_<;>intro h18;refine PS ?_;refine nx J7 (CY (D1 2 bf ?_));refine PD 0 ?_;refine FD 1 0 dT aO ?_;refine LR 2 Y3 (kc m rfl) ?_;refine FD 3 1 dT aO ?_;refine LR 4 Y3 (Fe m rfl) ?_;refine FD 7 2 dT ba ?_;refine ta 8 rfl (aK (vs:=ints m.row.flat) rfl dI rfl ba rfl (λ_ h=>h.2.1) (ai m.row) (rc m 0 rfl (by decide) (whole (ai m.row)))) ?_;refine AL 5 ?_;refine aL (cells:=#[(.int .i64 (m.kind)),(.int .i64 (m.whose))]) (ab rfl) rfl rfl rfl ii nf rfl rfl rfl (by as_aux_lemma=>kernel_rfl) (λb24=>EN (AL 6 ?_));refine CQ jx (dE b4 (.slice none 0 0) ([]) (.slice (some ⟨b24,0,none⟩) (2) (2)) [m.kind,m.whose] (by simp)) (SM [2,1]) (dv 0 rfl rfl rfl rfl) λvR HR hR=>?_
 obtain⟨u1,rfl,rfl⟩:=hR;refine EN (AL 9 ?_);refine CR HU (sI b4 u1 (bl [m.kind,m.whose]) m.row (by(have:=aY [m.kind,m.whose]);simp only[BallotT.flat,ViewT.flat,ChangeT.flat,aw,az,aB,ag]at*;omega)) ID λvR HR hR=>?_
 obtain⟨u2,rfl,rfl⟩:=hR;refine EN (DN (af (ac J3 (sr λ_ J8=>PS ?_))));refine CR mG (dX b4 u2 (bl [m.kind,m.whose]++hZ m.row) (by(have:=aY [m.kind,m.whose]);(have:=hY m.row);simp only[BallotT.flat,ViewT.flat,ChangeT.flat,aw,az,aB,ag]at*;omega)) ID λvR HR hR=>?_
 obtain⟨_,rfl,rfl⟩:=hR;revert vR;intro u3;refine PS ?_;refine nx J8 (ah (WK [2] (av rfl rfl ?_)));exact⟨_,rfl,congrArg (λb=>[cu u3 b 5]) (show(bl [m.kind,m.whose]++hZ m.row)=jX m by simp[jX,e7,ff,bl, *])⟩;refine PS ?_;refine nx J7 (CN (sr λ_ J9=>PS ?_));refine ao ?_ ?_<;>intro h30;refine PS ?_;refine nx J9 (CY (ad (PS ?_)));refine FA 0 dT aO ?_;refine LU 2 Y3 (kc m rfl) ?_;refine FA 1 dT aO ?_;refine LU 2 Y3 (Fe m rfl) ?_;refine aL (cells:=#[(.int .i64 (m.kind)),(.int .i64 (m.whose))]) (ab rfl) rfl rfl rfl ii nf rfl rfl rfl (by as_aux_lemma=>kernel_rfl) (λb36=>CQ jx (dE b4 (.slice none 0 0) ([]) (.slice (some ⟨b36,0,none⟩) (2) (2)) [m.kind,m.whose] (by simp)) (SM [2,1]) (dv 0 rfl rfl rfl rfl) λvR HR hR=>?_);obtain⟨u1,rfl,rfl⟩:=hR;refine ap (af (ac J3 (sr λ_ J10=>PS ?_)));refine CR mG (dX b4 u1 (bl [m.kind,m.whose]) (by(have:=aY [m.kind,m.whose]);simp only[BallotT.flat,ViewT.flat,ChangeT.flat,aw,az,aB,ag]at*;omega)) ID λvR HR hR=>?_
 obtain⟨_,rfl,rfl⟩:=hR;revert vR;intro u2;refine PS ?_;refine nx J10 (ah (WK [2] (av rfl rfl ?_)));exact⟨_,rfl,congrArg (λb=>[cu u2 b 5]) (show(bl [m.kind,m.whose])=jX m by simp[jX,e7,ff,bl, *])⟩;refine PS ?_;refine nx J9 (CN (sr λ_ J11=>PS ?_));refine ao ?_ ?_<;>intro h39;refine PS ?_;refine nx J11 (CY (D1 2 bf ?_));refine PD 0 ?_;refine FD 1 0 dT aO ?_;refine LR 2 Y3 (kc m rfl) ?_;refine FD 3 176 dT aO ?_;refine LR 4 Y3 (RecT.at_epoch m rfl) ?_;refine FD 7 177 dT cw ?_;refine ta 8 rfl (aK (vs:=ints m.ballot.flat) rfl jQ rfl cw rfl (λ_ h=>h.2.1) (aq m.ballot) (qf m 0 rfl (by decide) (whole (aq m.ballot)))) ?_;refine AL 5 ?_;refine aL (cells:=#[(.int .i64 (m.kind)),(.int .i64 (m.epoch))]) (ab rfl) rfl rfl rfl ii nf rfl rfl rfl (by as_aux_lemma=>kernel_rfl) (λb45=>EN (AL 6 ?_));refine CQ jx (dE b4 (.slice none 0 0) ([]) (.slice (some ⟨b45,0,none⟩) (2) (2)) [m.kind,m.epoch] (by simp)) (SM [2,1]) (dv 0 rfl rfl rfl rfl) λvR HR hR=>?_
 obtain⟨u1,rfl,rfl⟩:=hR;refine EN (AL 9 ?_);refine CR yy (iY b4 u1 (bl [m.kind,m.epoch]) m.ballot (by(have:=aY [m.kind,m.epoch]);simp only[BallotT.flat,ViewT.flat,ChangeT.flat,aw,az,aB,ag]at*;omega)) ID λvR HR hR=>?_
 obtain⟨u2,rfl,rfl⟩:=hR;refine EN (DN (af (ac J3 (sr λ_ J12=>PS ?_))));refine CR mG (dX b4 u2 (bl [m.kind,m.epoch]++bl m.ballot.flat) (by(have:=aY [m.kind,m.epoch]);(have:=aY (m.ballot.flat));simp only[BallotT.flat,ViewT.flat,ChangeT.flat,aw,az,aB,ag]at*;omega)) ID λvR HR hR=>?_
 obtain⟨_,rfl,rfl⟩:=hR;revert vR;intro u3;refine PS ?_;refine nx J12 (ah (WK [2] (av rfl rfl ?_)));exact⟨_,rfl,congrArg (λb=>[cu u3 b 5]) (show(bl [m.kind,m.epoch]++bl m.ballot.flat)=jX m by simp[jX,e7,ff,bl, *])⟩;refine PS ?_;refine nx J11 (CN (sr λ_ J13=>PS ?_));refine ao ?_ ?_<;>intro h51;refine PS ?_;refine nx J13 (CY (D1 2 bf ?_));refine PD 0 ?_;refine FD 1 0 dT aO ?_;refine LR 2 Y3 (kc m rfl) ?_;refine FD 3 176 dT aO ?_;refine LR 4 Y3 (RecT.at_epoch m rfl) ?_;refine FD 7 177 dT cw ?_;refine ta 8 rfl (aK (vs:=ints m.ballot.flat) rfl jQ rfl cw rfl (λ_ h=>h.2.1) (aq m.ballot) (qf m 0 rfl (by decide) (whole (aq m.ballot)))) ?_;refine FD 10 179 dT eZ ?_;refine ta 11 rfl (aK (vs:=ints m.change.flat) rfl lW rfl eZ rfl (λ_ h=>h.2.1) (aI m.change) (Lw m 0 rfl (by decide) (whole (aI m.change)))) ?_;refine AL 5 ?_;refine aL (cells:=#[(.int .i64 (m.kind)),(.int .i64 (m.epoch))]) (ab rfl) rfl rfl rfl ii nf rfl rfl rfl (by as_aux_lemma=>kernel_rfl) (λb57=>EN (AL 6 ?_));refine CQ jx (dE b4 (.slice none 0 0) ([]) (.slice (some ⟨b57,0,none⟩) (2) (2)) [m.kind,m.epoch] (by simp)) (SM [2,1]) (dv 0 rfl rfl rfl rfl) λvR HR hR=>?_
 obtain⟨u1,rfl,rfl⟩:=hR;refine EN (AL 9 ?_);refine CR yy (iY b4 u1 (bl [m.kind,m.epoch]) m.ballot (by(have:=aY [m.kind,m.epoch]);simp only[BallotT.flat,ViewT.flat,ChangeT.flat,aw,az,aB,ag]at*;omega)) ID λvR HR hR=>?_
 obtain⟨u2,rfl,rfl⟩:=hR;refine EN (AL 12 ?_);refine CR HT (nT b4 u2 (bl [m.kind,m.epoch]++bl m.ballot.flat) m.change (by(have:=aY [m.kind,m.epoch]);(have:=aY (m.ballot.flat));simp only[BallotT.flat,ViewT.flat,ChangeT.flat,aw,az,aB,ag]at*;omega)) ID λvR HR hR=>?_
 obtain⟨u3,rfl,rfl⟩:=hR;refine EN (DN (af (ac J3 (sr λ_ J14=>PS ?_))));refine CR mG (dX b4 u3 (bl [m.kind,m.epoch]++bl m.ballot.flat++bl m.change.flat) (by(have:=aY [m.kind,m.epoch]);(have:=aY (m.ballot.flat));(have:=aY (m.change.flat));simp only[BallotT.flat,ViewT.flat,ChangeT.flat,aw,az,aB,ag]at*;omega)) ID λvR HR hR=>?_
 obtain⟨_,rfl,rfl⟩:=hR;revert vR;intro u4;refine PS ?_;refine nx J14 (ah (WK [2] (av rfl rfl ?_)));exact⟨_,rfl,congrArg (λb=>[cu u4 b 5]) (show(bl [m.kind,m.epoch]++bl m.ballot.flat++bl m.change.flat)=jX m by simp[jX,e7,ff,bl, *])⟩;refine PS ?_;refine nx J13 (CN (sr λ_ J15=>PS ?_));refine ao ?_ ?_<;>intro h66;refine PS ?_;refine nx J15 (CY (D1 2 bf ?_));refine PD 0 ?_;refine FD 1 0 dT aO ?_;refine LR 2 Y3 (kc m rfl) ?_;refine FD 5 182 dT be ?_;refine ta 6 rfl (aK (vs:=ints m.view.flat) rfl dS rfl be rfl (λ_ h=>h.2.1) (an m.view) (OO m 0 rfl (by decide) (whole (an m.view)))) ?_;refine AL 3 ?_;refine aL (cells:=#[(.int .i64 (m.kind))]) (ab rfl) rfl rfl rfl ii nf rfl rfl rfl (by as_aux_lemma=>kernel_rfl) (λb70=>EN (AL 4 ?_));refine CQ jx (dE b4 (.slice none 0 0) ([]) (.slice (some ⟨b70,0,none⟩) (1) (1)) [m.kind] (by simp)) (SM [2,1]) (dv 0 rfl rfl rfl rfl) λvR HR hR=>?_
 obtain⟨u1,rfl,rfl⟩:=hR;refine EN (AL 7 ?_);refine CR HS (qt b4 u1 (bl [m.kind]) m.view (by(have:=aY [m.kind]);simp only[BallotT.flat,ViewT.flat,ChangeT.flat,aw,az,aB,ag]at*;omega)) ID λvR HR hR=>?_
 obtain⟨u2,rfl,rfl⟩:=hR;refine EN (DN (af (ac J3 (sr λ_ J16=>PS ?_))));refine CR mG (dX b4 u2 (bl [m.kind]++bl m.view.flat) (by(have:=aY [m.kind]);(have:=aY (m.view.flat));simp only[BallotT.flat,ViewT.flat,ChangeT.flat,aw,az,aB,ag]at*;omega)) ID λvR HR hR=>?_
 obtain⟨_,rfl,rfl⟩:=hR;revert vR;intro u3;refine PS ?_;refine nx J16 (ah (WK [2] (av rfl rfl ?_)));exact⟨_,rfl,congrArg (λb=>[cu u3 b 5]) (show(bl [m.kind]++bl m.view.flat)=jX m by simp[jX,e7,ff,bl, *])⟩;refine PS ?_;refine nx J15 (CN (aM (af (ac J3 (sr λ_ J17=>PS ?_)))));refine CR mG (dX b4 (.slice none 0 0) ([]) (by simp)) (SM [1,0]) λvR HR hR=>?_
 obtain⟨_,rfl,rfl⟩:=hR;revert vR;intro u1;refine PS ?_;refine nx J17 (ah (WK [2] (av rfl rfl ?_)));exact⟨_,rfl,congrArg (λb=>[cu u1 b 5]) (show([]:List UInt8)=jX m by simp[jX,e7,ff,bl, *])⟩
open Dsk Wal
theorem ReplyT.flat_length(x:ReplyT):x.flat.length=3:=rfl
theorem pX(who:Int)(hm:cy who=true):DT 127 #[.int .i64 who] T0 [] (c9 (λr' H=>∃u,r'=u∧H=[own u 2 [.int .i64 ((who+1)%5), .int .i64 ((who+2)%5)] 3 1])):=by
 have:=o6 who;rw[show gL who=[(who+1)%5,(who+2)%5]by rw[gL,if_pos hm]]at this;exact this
theorem Dd(r:Nat)(x:RepT)(op err val:Int)(rs:List ReplyT)(hrs:rs.length≤1000000):
 DT 74 #[(.pointer (some ⟨r,0,none⟩)),(.int .i64 (op)),(.int .i64 (err)),(.int .i64 (val))] T0 [aj r (RepT.cells x) 87,own x.replies ((rs).length) (ints (List.flatMap ReplyT.flat (rs))) 47 3] (c9 (λ_ H=>∃v',v'.oneCell'=true∧H=[aj r (RepT.cells {x with replies:=v'}) 87,own v' (rs++[ReplyT.mk op err val]).length (ints (List.flatMap ReplyT.flat (rs++[ReplyT.mk op err val]))) 47 3])):=by
 refine BD 21 Tryz.func74 rfl rfl rfl λw0 F hF=>ad (P3 ?_)
 refine FA 1942 cW xn ?_;refine LT 0 El x.replies ?_ (hc:=by exact RepT.at_replies x rfl);refine P3 ?_;refine tp (xW (cs:=ints (ReplyT.mk op err val).flat) (segs:=[[Value.int .i64 0],[Value.int .i64 0],[Value.int .i64 0]]) (res:=[[Value.int .i64 op],[Value.int .i64 err],[Value.int .i64 val]]) (parts:=[(0,[Value.int .i64 op]),(1,[Value.int .i64 err]),(2,[Value.int .i64 val])]) rfl rfl Tryz.underlying47 (by kernel_rfl) (by kernel_rfl) rfl (e6 rfl rfl (e6 rfl rfl (e6 rfl rfl li))) (ReplyT.eq (ReplyT.mk op err val)).symm) ?_;refine aL (cells:=(ints (ReplyT.mk op err val).flat).toArray) (ab rfl) rfl rfl rfl El Gw rfl rfl rfl (je (Nt (ReplyT.mk op err val)) (by simp)) (λb17=>?_);change TL _ _ _ _ _ _ _ _ _ [aj b17 (ints (ReplyT.mk op err val).flat) 47,aj r (RepT.cells x) 87,own x.replies ((rs).length) (ints (List.flatMap ReplyT.flat (rs))) 47 3];refine bO (k:=2) (news:=ints (ReplyT.mk op err val).flat) (nn':=(rs++[ReplyT.mk op err val]).length) (xs':=ints (List.flatMap ReplyT.flat (rs++[ReplyT.mk op err val]))) (ab rfl) rfl rfl rfl El Gw rfl rfl rfl rfl rfl rfl (λ_ _=>fB (Nt _) (RO 0) (by rw[bb,eV])) (bm _) (by simp only[maxLen];omega) (by omega) (by simp) (by simp[ints]) (λv18 ov18=>PS ?_);refine FA 1942 cW xn ?_;exact bB (i:=1) (ab rfl) rfl rfl rfl rfl ov18 xn rfl rfl (LB (cQ _)) (RepT.set_replies x rfl _) rfl (ap (WK [1,1] (br rfl ⟨_,ov18,rfl⟩)))
theorem Bg(r:Nat)(x:RepT)(key:Int):
 DT 27 #[(.pointer (some ⟨r,0,none⟩)),(.int .i64 (key))] T0 [aj r (RepT.cells x) 87] (RI (.int .i64 (jf x.book key)) [aj r (RepT.cells x) 87]):=by
 refine BD 10 Tryz.func27 rfl rfl rfl λw0 F hF=>sr λ_ J1=>PS ?_
 refine nx J1 (sr λ_ J2=>P2 ?_);refine FA 1068 cW AG ?_;refine PS ?_;refine CE Jz (ky r 1068 87 (λu=>RepT.cells {x with book:=u}) (fR x) x.book key) ID ?_;refine PS ?_;exact nx J2 (ah (WK [0] (av rfl rfl ⟨rfl,rfl⟩)))
theorem FV(r:Nat)(x:RepT):
 DT 13 #[(.pointer (some ⟨r,0,none⟩))] T0 [aj r (RepT.cells x) 87] (RI (.agg (ints x.own.flat).toArray) [aj r (RepT.cells x) 87]):=by
 refine BD 7 Tryz.func13 rfl rfl rfl λw0 F hF=>sr λ_ J1=>XZ tx (ints RowT.zero.flat) λb2=>?_
 refine nx J1 (sr λ_ J2=>P2 ?_);refine FA 9 cW ba ?_;refine LV 1 dI ba ai Cr (y:=x.own) ?_;refine SW 0 ba ai ?_;refine nx J2 (ah (RC 0 [1] dI ba (ai _) ?_));exact⟨rfl,rfl⟩
theorem Df(r:Nat)(x:RepT):
 DT 12 #[(.pointer (some ⟨r,0,none⟩))] T0 [aj r (RepT.cells x) 87] (RI (.agg (ints x.view.flat).toArray) [aj r (RepT.cells x) 87]):=by
 refine BD 7 Tryz.func12 rfl rfl rfl λw0 F hF=>sr λ_ J1=>XZ rf (ints ViewT.zero.flat) λb2=>?_
 refine nx J1 (sr λ_ J2=>P2 ?_);refine FA 2 cW be ?_;refine LV 1 dS be an cO (y:=x.view) ?_;refine SW 0 be an ?_;refine nx J2 (ah (RC 0 [1] dS be (an _) ?_));exact⟨rfl,rfl⟩
theorem vV(r:Nat)(x:RepT)(who:Int):
 DT 33 #[(.pointer (some ⟨r,0,none⟩)),(.int .i64 (who))] T0 [aj r (RepT.cells x) 87] (RI (.tuple #[.agg (ints (cJ x.mirror who).flat).toArray, .bool (fw x.mirror who)]) [aj r (RepT.cells x) 87]):=by
 refine BD 16 Tryz.func33 rfl rfl rfl λw0 F hF=>sr λ_ J1=>XZ tx (ints RowT.zero.flat) λb4=>?_
 refine PS ?_;refine nx J1 (aa λ_ J2=>D0 bf ?_);refine PD 0 ?_;refine PD 1 ?_;refine FD 2 183 cW sT ?_;refine PD 3 ?_;refine PD 5 ?_;refine PD 6 ?_;refine FD 7 183 cW sT ?_;refine PD 8 ?_;refine AL 4 ?_;refine CE HO (lp r 183 87 (λu=>RepT.cells {x with mirror:=u}) (dN x) x.mirror who) (SM [1]) ?_;refine EN (AL 9 ?_);refine CE Lb (mI r 183 87 (λu=>RepT.cells {x with mirror:=u}) (dN x) x.mirror who) ID ?_;refine EN (AL 10 ?_);refine SW 1 ba ai ?_;refine EN (PD 11 ?_);refine DN (ac J2 (ah (RT 1 [0] dI ba (ai _) ?_)));exact⟨rfl,rfl⟩
theorem zx(r:Nat)(x:RepT)(rs:List ReplyT)(hrs:rs.length≤1000000):
 DT 31 #[(.pointer (some ⟨r,0,none⟩))] T0 [aj r (RepT.cells x) 87,own x.replies ((rs).length) (ints (List.flatMap ReplyT.flat (rs))) 47 3] (c9 (λr' H=>∃u,r'=u∧H=[aj r (RepT.cells x) 87,own x.replies rs.length (ints (List.flatMap ReplyT.flat rs)) 47 3,own u rs.length (ints (List.flatMap ReplyT.flat rs)) 47 3])):=by
 refine BD 8 Tryz.func31 rfl rfl rfl λw0 F hF=>sr λ_ J1=>GU 47 3 (λ_=>PS ?_)
 refine nx J1 (sr λ_ J2=>P2 ?_);refine FA 1942 cW xn ?_;refine LT 1 El x.replies ?_ (hc:=by exact RepT.at_replies x rfl);refine bO (k:=0) (news:=ints (List.flatMap ReplyT.flat rs)) (nn':=rs.length) (xs':=ints (List.flatMap ReplyT.flat rs)) (ab rfl) rfl rfl rfl El Gw rfl rfl rfl rfl rfl rfl (λ_ s=>IN 2 rfl rfl s) (bm _) (by simp only[maxLen];omega) (by omega) (by simp) (by simp) (λv7 ov7=>PS ?_);exact nx J2 (ah (WK [1,1,0] (av rfl rfl ⟨_,rfl,rfl⟩)))
end Go.Proofs.YtfocodjhmkokpaaGreatDoor
end

section
namespace Api
open Go Leg Codec Dsk Wal
def jU(w:Int)(x:RowT):RecT:= {RecT.zero with kind:=1,whose:=w,row:=x}
def ja(w:Int):RecT:= {RecT.zero with kind:=2,whose:=w}
def kR(v:ViewT):RecT:= {RecT.zero with kind:=5,view:=v}
def se(v:Int):MsgT:= {MsgT.zero with kind:=1,version:=v}
def gS(w:Int)(x:RowT):MsgT:= {MsgT.zero with kind:=9,whose:=w,row:=x}
section
variable {x:RepT} {from' w:Int} {y:RowT} {recs:List (List UInt8)}
end
section
variable {x:RepT} {from' w:Int} {v:ViewT} {recs:List (List UInt8)}
end
end Api
end

section
namespace Go.Proofs.YtfocodjhmkokpaaGreatDoor
open Go Leg Codec Api Dsk Wal
theorem F2(r:Nat)(x:RepT)(o:OpT):
 DT 73 #[(.pointer (some ⟨r,0,none⟩)),(.agg (ints o.flat).toArray)] T0 [aj r (RepT.cells x) 87] (RI (.tuple #[.agg (ints (j0 x o).1.flat).toArray, .int .i64 (j0 x o).2.1, .int .i64 (j0 x o).2.2]) [aj r (RepT.cells x) 87]):=by
 refine BD 121 Tryz.func73 rfl rfl rfl λw0 F hF=>sr λ_ J1=>XY (ints o.flat) λb3=>?_
 refine XZ tx (ints RowT.zero.flat) λb4=>?_
 refine P2 ?_;refine nx J1 (aa λ_ J2=>aa λ_ J3=>D1 2 bf ?_);refine PD 0 ?_;refine PD 1 ?_;refine FD 2 2 cW be ?_;refine ta 3 rfl (aK (vs:=ints x.view.flat) rfl dS rfl be rfl (λ_ h=>h.2.1) (an x.view) (fO x 0 rfl (by decide) (whole (an x.view)))) ?_;refine PD 4 ?_;refine PD 5 ?_;refine FD 6 0 cW aO ?_;refine LR 7 Y3 (cF x rfl) ?_;refine AL 8 ?_;refine CE px (dr x.view x.id) ID ?_;refine bc ?_ ?_<;>intro h17;refine EN (PD 9 ?_);refine DN (ac J3 (CN (qx J2 (aa λ_ J4=>sr λ_ J5=>FA 3 eI aO ?_))));refine LU 1 Y3 (mV o rfl) ?_;refine PS ?_;refine ao ?_ ?_<;>intro h22;have hkb:mK o.key=false:=decide_eq_false (by omega);refine PS ?_
 iterate 3 refine UT ?_
 refine PS ?_;refine nx J5 (CY (sr λ_ J6=>BV ((ints RowT.zero.flat).toArray) ?_));refine SW 0 ba ai ?_;refine P2 ?_;refine nx J6 (ah (ae (RU 0 [2] dI ba (ai _) ?_)));exact⟨by simp[j0,gU, *],rfl⟩;refine PS ?_;refine FA 3 eI aO ?_;refine LU 1 Y3 (mV o rfl) ?_;refine PS ?_;refine ao ?_ ?_<;>intro h26;have hkb:mK o.key=false:=decide_eq_false (by omega);refine PS ?_;refine nx J5 (CY (sr λ_ J7=>BV ((ints RowT.zero.flat).toArray) ?_));refine SW 0 ba ai ?_;refine P2 ?_;refine nx J7 (ah (ae (RU 0 [2] dI ba (ai _) ?_)));exact⟨by simp[j0,gU, *],rfl⟩;have hkb:mK o.key=true:=decide_eq_true (by omega);refine PS ?_;refine nx J5 (CN (qx J4 (aa λ_ J8=>sr λ_ J9=>FA 0 eI aO ?_)));refine LU 1 Y3 (cB o rfl) ?_;refine PS ?_;refine ao ?_ ?_<;>intro h31;refine nx J9 (CY (aa λ_ J10=>D1 1 bf ?_));refine ta 0 rfl (jF (cells:=(ints RowT.zero.flat).toArray) rfl rfl (by as_aux_lemma=>kernel_rfl)) ?_;refine PD 1 ?_;refine PD 2 ?_;refine FD 3 1068 cW AG ?_;refine FD 4 3 eI aO ?_;refine LR 5 Y3 (mV o rfl) ?_;refine AL 6 ?_;refine CE Jz (ky r 1068 87 (λu=>RepT.cells {x with book:=u}) (fR x) x.book o.key) (SM [2]) ?_;refine EN (AL 7 ?_);refine SW 1 ba ai ?_;refine EN (PD 8 ?_);refine PD 9 ?_;refine DN (ac J10 (ah (ae (RU 1 [0] dI ba (ai _) ?_))));exact⟨by simp[j0,gU, *],rfl⟩;refine nx J9 (CN (qx J8 (aa λ_ J11=>sr λ_ J12=>P2 ?_)));refine FA 1938 cW kE ?_;refine LU 2 Y4 (xQ x rfl) ?_;refine bc ?_ ?_<;>intro h42
 refine nx J12 (CY (sr λ_ J13=>BV ((ints RowT.zero.flat).toArray) ?_));refine SW 0 ba ai ?_;refine P2 ?_;refine nx J13 (ah (ae (RU 0 [2] dI ba (ai _) ?_)));exact⟨by simp[j0,gU, *],rfl⟩;refine nx J12 (CN (qx J11 (sr λ_ J14=>XZ tx (ints RowT.zero.flat) λb7=>?_)));refine nx J14 (sr λ_ J15=>PS ?_);refine nx J15 (aa λ_ J16=>sr λ_ J17=>FA 0 eI aO ?_);refine LU 2 Y3 (cB o rfl) ?_;refine nx J17 (am (sr λ_ J18=>PS ?_));refine ao ?_ ?_<;>intro h47;refine PS ?_;refine nx J18 (CY (D2 3 2 bf ?_));refine PD 0 ?_;refine PD 1 ?_;refine FD 2 9 cW ba ?_;refine ta 3 rfl (aK (vs:=ints x.own.flat) rfl dI rfl ba rfl (λ_ h=>h.2.1) (ai x.own) (xO x 0 rfl (by decide) (whole (ai x.own)))) ?_;refine FD 4 3 eI aO ?_;refine LR 5 Y3 (mV o rfl) ?_;refine FD 6 4 eI aO ?_;refine LR 7 Y3 (pS o rfl) ?_;refine AL 8 ?_;refine CE M5 (Ba x.own o.key o.n) ID ?_;refine EN (PD 9 ?_);refine PD 10 ?_;refine PD 11 ?_;refine AL 12 ?_;refine SW 0 ba ai ?_;refine EN (PD 13 ?_);refine DN (af (ac J16 (aa λ_ J19=>sr λ_ J20=>P2 ?_)));refine ao ?_ ?_<;>intro h98;refine nx J20 (CY (sr λ_ J21=>BV ((ints RowT.zero.flat).toArray) ?_));refine PS ?_;refine SW 1 ba ai ?_;refine P2 ?_;refine nx J21 (ah (ae (RU 1 [3] dI ba (ai _) ?_)));exact⟨by simp[j0,gU, *],rfl⟩;refine nx J20 (CN (qx J19 (aa λ_ J22=>aa λ_ J23=>D2 2 3 bf ?_)));refine FD 0 0 eI aO ?_;refine LR 1 Y3 (cB o rfl) ?_;refine PD 2 ?_;refine jh ?_ ?_<;>intro h103
 · exact absurd h47 h103
 refine PD 3 ?_;refine NT 4 ?_;refine NT 5 ?_;refine NT 6 ?_;refine NT 7 ?_;refine NT 8 ?_;refine NT 9 ?_;refine NT 10 ?_;refine NT 11 ?_;refine NT 12 ?_;refine NT 13 ?_;refine NT 14 ?_;refine NT 15 ?_;refine NT 16 ?_;refine PD 17 ?_;refine DN (ac J23 (CN (qx J22 (sr λ_ J24=>LW 0 dI ba ai ?_))));refine SW 1 ba ai ?_;refine P2 ?_;refine nx J24 (ah (RU 1 [3] dI ba (ai _) ?_));exact⟨by simp[j0,gU, *],rfl⟩;refine PS ?_;refine nx J18 (CN (sr λ_ J25=>PS ?_));refine ao ?_ ?_<;>intro h61;refine PS ?_;refine nx J25 (CY (D2 3 2 bf ?_));refine PD 0 ?_;refine PD 1 ?_;refine FD 2 9 cW ba ?_;refine ta 3 rfl (aK (vs:=ints x.own.flat) rfl dI rfl ba rfl (λ_ h=>h.2.1) (ai x.own) (xO x 0 rfl (by decide) (whole (ai x.own)))) ?_;refine FD 4 3 eI aO ?_;refine LR 5 Y3 (mV o rfl) ?_;refine FD 6 4 eI aO ?_;refine LR 7 Y3 (pS o rfl) ?_;refine AL 8 ?_;refine CE M4 (Bb x.own o.key o.n) ID ?_;refine EN (PD 9 ?_);refine PD 10 ?_;refine PD 11 ?_;refine AL 12 ?_;refine SW 0 ba ai ?_;refine EN (PD 13 ?_);refine DN (af (ac J16 (aa λ_ J26=>sr λ_ J27=>P2 ?_)));refine ao ?_ ?_<;>intro h98;refine nx J27 (CY (sr λ_ J28=>BV ((ints RowT.zero.flat).toArray) ?_));refine PS ?_;refine SW 1 ba ai ?_;refine P2 ?_;refine nx J28 (ah (ae (RU 1 [3] dI ba (ai _) ?_)));exact⟨by simp[j0,gU, *],rfl⟩;refine nx J27 (CN (qx J26 (aa λ_ J29=>aa λ_ J30=>D2 2 3 bf ?_)));refine FD 0 0 eI aO ?_;refine LR 1 Y3 (cB o rfl) ?_;refine PD 2 ?_;refine jh ?_ ?_<;>intro h103;refine PD 3 ?_
 refine PD 4 ?_;refine PD 5 ?_;refine FD 6 1068 cW AG ?_;refine PD 7 ?_;refine PD 8 ?_;refine FD 9 0 cW aO ?_;refine LR 10 Y3 (cF x rfl) ?_;refine FD 11 3 eI aO ?_;refine LR 12 Y3 (mV o rfl) ?_;refine FD 14 4 eI aO ?_;refine LR 15 Y3 (pS o rfl) ?_;refine AL 13 ?_;refine CE Kr (oF r 1068 87 (λu=>RepT.cells {x with book:=u}) (fR x) x.book x.id o.key) (SM [3]) ?_;refine EN (PD 16 ?_);refine jh ?_ ?_<;>intro h117;refine PD 17 ?_;refine DN (ac J30 (CY (sr λ_ J31=>BV ((ints RowT.zero.flat).toArray) ?_)));refine SW 2 ba ai ?_;refine P2 ?_;refine nx J31 (ah (ae (RU 2 [0] dI ba (ai _) ?_)));exact⟨by simp[j0,gU, *],rfl⟩;refine PD 17 ?_;refine DN (ac J30 (CN (qx J29 (sr λ_ J32=>LW 1 dI ba ai ?_))));refine SW 2 ba ai ?_;refine P2 ?_;refine nx J32 (ah (RU 2 [0] dI ba (ai _) ?_));exact⟨by simp[j0,gU, *],rfl⟩
 · exact absurd h47 h103
 refine PS ?_;refine nx J25 (CN (sr λ_ J33=>PS ?_));refine ao ?_ ?_<;>intro h75;refine PS ?_;refine nx J33 (CY (aa λ_ J34=>D2 2 3 bf ?_));refine FD 0 2 eI aO ?_;refine LR 1 Y3 (gN o rfl) ?_;refine PD 2 ?_;refine PD 3 ?_;refine FD 4 0 cW aO ?_;refine LR 5 Y3 (cF x rfl) ?_;refine PD 6 ?_;refine jh ?_ ?_<;>intro h82;refine DN (ac J34 (CY (D2 3 2 bf ?_)));refine PD 0 ?_;refine PD 1 ?_;refine FD 2 9 cW ba ?_;refine ta 3 rfl (aK (vs:=ints x.own.flat) rfl dI rfl ba rfl (λ_ h=>h.2.1) (ai x.own) (xO x 0 rfl (by decide) (whole (ai x.own)))) ?_;refine FD 4 3 eI aO ?_;refine LR 5 Y3 (mV o rfl) ?_;refine FD 6 4 eI aO ?_;refine LR 7 Y3 (pS o rfl) ?_;refine FD 8 2 eI aO ?_;refine LR 9 Y3 (gN o rfl) ?_;refine AL 10 ?_;refine CE M3 (zv x.own o.key o.n o.to') ID ?_;refine EN (PD 11 ?_);refine PD 12 ?_;refine PD 13 ?_;refine AL 14 ?_;refine SW 0 ba ai ?_;refine EN (PD 15 ?_);refine DN (af (ac J16 (aa λ_ J35=>sr λ_ J36=>P2 ?_)));refine ao ?_ ?_<;>intro h98;refine nx J36 (CY (sr λ_ J37=>BV ((ints RowT.zero.flat).toArray) ?_));refine PS ?_;refine SW 1 ba ai ?_;refine P2 ?_;refine nx J37 (ah (ae (RU 1 [3] dI ba (ai _) ?_)));exact⟨by simp[j0,gU, *],rfl⟩;refine nx J36 (CN (qx J35 (aa λ_ J38=>aa λ_ J39=>D2 2 3 bf ?_)));refine FD 0 0 eI aO ?_;refine LR 1 Y3 (cB o rfl) ?_;refine PD 2 ?_;refine jh ?_ ?_<;>intro h103;refine PD 3 ?_;refine PD 4 ?_;refine PD 5 ?_;refine FD 6 1068 cW AG ?_;refine PD 7 ?_;refine PD 8 ?_;refine FD 9 0 cW aO ?_
 refine LR 10 Y3 (cF x rfl) ?_;refine FD 11 3 eI aO ?_;refine LR 12 Y3 (mV o rfl) ?_;refine FD 14 4 eI aO ?_;refine LR 15 Y3 (pS o rfl) ?_;refine AL 13 ?_;refine CE Kr (oF r 1068 87 (λu=>RepT.cells {x with book:=u}) (fR x) x.book x.id o.key) (SM [3]) ?_;refine EN (PD 16 ?_);refine jh ?_ ?_<;>intro h117;refine PD 17 ?_;refine DN (ac J39 (CY (sr λ_ J40=>BV ((ints RowT.zero.flat).toArray) ?_)));refine SW 2 ba ai ?_;refine P2 ?_;refine nx J40 (ah (ae (RU 2 [0] dI ba (ai _) ?_)));exact⟨by simp[j0,gU, *],rfl⟩;refine PD 17 ?_;refine DN (ac J39 (CN (qx J38 (sr λ_ J41=>LW 1 dI ba ai ?_))));refine SW 2 ba ai ?_;refine P2 ?_;refine nx J41 (ah (RU 2 [0] dI ba (ai _) ?_));exact⟨by simp[j0,gU, *],rfl⟩
 · exact absurd h47 h103
 refine DN (ac J34 (CN (aM (af (ac J16 (aa λ_ J42=>sr λ_ J43=>P2 ?_))))));refine nx J43 (CY (sr λ_ J44=>BV ((ints RowT.zero.flat).toArray) ?_));refine PS ?_;refine SW 1 ba ai ?_;refine P2 ?_;refine nx J44 (ah (ae (RU 1 [3] dI ba (ai _) ?_)));exact⟨by simp[j0,gU, *],rfl⟩;refine PS ?_;refine nx J33 (CN (aM (af (ac J16 (aa λ_ J45=>sr λ_ J46=>P2 ?_)))));refine nx J46 (CY (sr λ_ J47=>BV ((ints RowT.zero.flat).toArray) ?_));refine PS ?_;refine SW 1 ba ai ?_;refine P2 ?_;refine nx J47 (ah (ae (RU 1 [3] dI ba (ai _) ?_)));exact⟨by simp[j0,gU, *],rfl⟩;refine EN (PD 9 ?_);refine DN (ac J3 (CY (sr λ_ J48=>BV ((ints RowT.zero.flat).toArray) ?_)));refine SW 0 ba ai ?_;refine P2 ?_;refine nx J48 (ah (ae (RU 0 [2] dI ba (ai _) ?_)));exact⟨by simp[j0,gU, *],rfl⟩
theorem DI(x:Value)(l:List Int)(v:Int)(hl:l.length≤1000000):
    DT 181 #[x,(.int .i64 (v))] (IsI .i64 x l) [] (c9 (λr' H=>∃n:Int,r'= .int .i64 n∧(decide (n≥0)=true↔v∈l)∧H=[])):=by
 refine BD 19 Tryz.func181 rfl rfl rfl λw0 F hF=>sr λ_ J1=>PS ?_
 refine nx J1 (aa λ_ J2=>sr λ_ J3=>PS ?_);refine tp (c8 rfl ii rfl hF.len) ?_;refine PS ?_;refine nx J3 (am ?_)
 refine bu (α:=(Nat)) (λk=>k≤l.length∧∀(j:Nat),j<k→l.getD j 0≠v) (λk=>[(0,x),(1,(.int .i64 (v))),(7,(.int .i64 (((l.length:Nat):Int)))),(8,(.int .i64 (((k:Nat):Int))))]) (λk=>[]) (λk=>l.length-k) 0
     ⟨aN _,λj h=>absurd h (by omega)⟩ SB
     (λ_ s=>s) (λk hinv=>?_)
 obtain⟨hk,hv⟩:=hinv;refine sr λ_ J4=>PS ?_
 refine ao ?_ ?_<;>intro h9;obtain⟨b_a,off_a,cap_a,cs_a,T_a,z_a,hv_a,hb_a,hcs_a,hcp_a⟩:=IsI.at hF (j:=k) (by omega);refine nx J4 (aa λ_ J5=>CY (qx J5 (aa λ_ J6=>am (sr λ_ J7=>P2 ?_))));refine nx J7 (sr λ_ J8=>P3 ?_);refine tp (bg (r:=off_a+k) hv_a rfl ii aO rfl rfl (by omega) (by omega) (by omega)) ?_;refine tp (bZ (v:=(.int .i64 ((l.getD k 0)))) rfl Y3 rfl rfl (iV hb_a (λ_ h=>dG h)) hcs_a) ?_;refine PS ?_;refine ao ?_ ?_<;>intro h16;refine nx J8 (CY (sr λ_ J9=>P2 ?_));refine nx J9 (ah (aH (ae (ae (aH (ae (WK [] (av rfl rfl ?_))))))));exact⟨((k:Nat):Int),rfl,by rw[decide_eq_true_iff];exact⟨λ_=>by rw[h16,List.getD_eq_getElem?_getD,List.getElem?_eq_getElem (by omega)];exact eW _,λ_=>by omega⟩,rfl⟩;refine nx J8 (CN (aM (af (ac J6 (ad (AD ?_))))));refine PS ?_;refine ap ?_
 exact aJ ((k+1):(Nat)) ⟨by omega,λj hj=>by
        by_cases q:j=k
        · subst q;exact λe=>h16 e.symm
        · exact hv j (by omega)⟩ (by show l.length- (k+1)<l.length-k;omega)
   SB
   (λ_ s=>s)
 refine nx J4 (aa λ_ J10=>CN (aV (ay (ay (bh (ac J2 (sr λ_ J11=>PS ?_)))))));refine nx J11 (ah (WK [] (av rfl rfl ?_)))
 exact⟨-1,rfl,by
      rw[decide_eq_true_iff];constructor
      · intro h;omega
      · intro h
        obtain⟨j,hj,e⟩:=fV h;have:=hv j (by omega);rw[List.getD_eq_getElem?_getD,List.getElem?_eq_getElem hj]at this
        exact absurd e this,rfl⟩
theorem qo(x:Value)(l:List Int)(v:Int)(hl:l.length≤1000000):
 DT 158 #[x,(.int .i64 (v))] (IsI .i64 x l) [] (RI (.bool (decide (v∈l))) []):=by
 refine BD 9 Tryz.func158 rfl rfl rfl λw0 F hF=>sr λ_ J1=>PS ?_
 refine nx J1 (sr λ_ J2=>P2 ?_);refine CQ MB (DI x l v hl) ID (λ_ d _=>IsI.more hF d) λvR HR hR=>?_
 obtain⟨n,rfl,hn,rfl⟩:=hR;refine P2 ?_;refine nx J2 (ah (WK [] (av rfl rfl ?_)));exact⟨congrArg Value.bool (by rw[Lz,hn,decide_eq_true_iff]),rfl⟩
end Go.Proofs.YtfocodjhmkokpaaGreatDoor
end

section
namespace Api
open Go Leg Codec
theorem Ep{n:Int}(h:(Lit.int .i64 n).wf=true): -9223372036854775808≤n∧n<9223372036854775808:=by
 have m1:IntKind.i64.min= -9223372036854775808:=by decide
 have m2:IntKind.i64.max=9223372036854775807:=by decide
 simp only[Lit.wf,m1,m2,au,decide_eq_true_eq]at h;omega
theorem rj{n:Int}{l:List Int}(h:0≤n∧n<9223372036854775808)(hl:WF l):WF (n::l):=λm hm=>by
 rcases bT.1 hm with rfl|hm
 · exact ri h
 · exact hl m hm
theorem lH{a b:List Int}(ha:WF a)(hb:WF b):WF (a++b):=λm hm=>by
 rcases fz.1 hm with hm|hm
 · exact ha m hm
 · exact hb m hm
theorem G5:WF []:=λ_ h=>by cases h
theorem OkB.wf{b:BallotT}(h:OkB b):WF b.flat:=rj h.1 (rj ⟨h.2.1,by have:=h.2.2;omega⟩ G5)
theorem OkC.wf{c:ChangeT}(h:OkC c):WF c.flat:=rj ⟨h.1.1,by have:=h.1.2;omega⟩ (rj ⟨h.2.1.1,by have:=h.2.1.2;omega⟩ (rj ⟨h.2.2.1,by have:=h.2.2.2;omega⟩ G5))
theorem NL:Nm 0:=⟨by decide,by decide⟩
theorem sv(m:MsgT):(dP m).length≤3000:=by
 have h1:=hY m.row;have h2:=aY m.ballot.flat;have h3:=aY m.had.flat;have h4:=aY m.change.flat;have h5:=aY m.view.flat;have h6:=aY [m.kind,m.whose];have h7:=aY [m.kind,m.version];have h8:=aY [m.kind,m.epoch];have h9:=aY [m.kind];simp only[BallotT.flat,ChangeT.flat,ViewT.flat,aw,az,aB]at h2 h3 h4 h5 h6 h7 h8 h9;unfold dP;split
 · simp only[ag];omega
 split
 · omega
 split
 · simp only[ag,BallotT.flat];omega
 split
 · simp only[ag,BallotT.flat,ChangeT.flat];omega
 split
 · simp only[ag,BallotT.flat,ChangeT.flat];omega
 split
 · simp only[ag,ViewT.flat];omega
 split
 · simp only[ag,ViewT.flat];omega
 · simp
theorem Bd:gT RowT.zero=true:=by decide+kernel
theorem Jj{m:RecT}{bs r:List UInt8}(h:df bs=some ((m,true),r)):gT m.row=true:=by
 obtain⟨k,r1,_,h⟩:=bI h;split at h
 · obtain⟨_,_,_,h⟩:=bI h
   obtain⟨e,_⟩:=g9 h;injection e with e1 e2;subst e1;exact e2
 split at h
 · obtain⟨_,_,_,h⟩:=bI h
   obtain⟨_,_,_,h⟩:=bI h;obtain⟨e,_⟩:=g9 h;injection e with e1 e2;subst e1;exact e2
 have fin: ∀{m':RecT} {g:Bool} {b r:List UInt8},pr (m',g) b=some ((m,true),r)→m'.row= .zero→gT m.row=true:=λh e=>by
  obtain⟨e',_⟩:=g9 h;injection e' with e1 e2;subst e1;rw[e];exact Bd
 split at h
 · obtain⟨_,_,_,h⟩:=bI h;exact fin h rfl
 split at h
 · obtain⟨_,_,_,h⟩:=bI h;obtain⟨_,_,_,h⟩:=bI h;exact fin h rfl
 split at h
 · obtain⟨_,_,_,h⟩:=bI h;obtain⟨_,_,_,h⟩:=bI h;obtain⟨_,_,_,h⟩:=bI h;exact fin h rfl
 split at h
 · obtain⟨_,_,_,h⟩:=bI h;exact fin h rfl
 · exact fin h rfl
theorem Io(bs:List UInt8):(∃m,nI bs=(m,0)∧bs=jX m∧gT m.row=true∧WF m.row.flat)∨nI bs=(.zero,1):=by
 unfold nI;split
 · rename_i m h
   obtain⟨h1,_,_,_,h5⟩:=Hz h;rw[a8]at h1;exact .inl ⟨m,rfl,h1,Jj h,h5.wf⟩
 · exact .inr rfl
end Api
end

section
namespace Go.Proofs.YtfocodjhmkokpaaGreatDoor
open Go Leg Codec Api
theorem vT(ob:Nat)(ok:Bool):DoesD Tryz.prog 140 #[(.pointer (some ⟨ob,0,none⟩))] (.returning) (λ_=>True) [aj ob [(.bool (ok))] 4] (λe u' H=>e= .returned (.tuple #[])∧settle u'= .returning∧H=[aj ob [.bool ok] 4]):=by
 refine DoesD.recover2 (vs:=[(.pointer (some ⟨ob,0,none⟩))]) (n:=15) (u':= .returning) (rv:= .nilIface) Tryz.func140 rfl rfl rfl rfl rfl rfl rfl rfl rfl rfl rfl (λc0 cs hu=>by cases c0;simp only at hu;subst hu;rfl) (λw0 F c0 cs hF=>?_);refine aa (λK1 hK1=>?_);refine aa (λK2 hK2=>?_);refine ad ?_;refine ly (ab rfl) rfl rfl (iW rfl rfl) ?_;refine ly (ab rfl) rfl rfl (PV.nilNil rfl Tryz.underlying20 rfl) ?_;refine ap ?_;refine ac hK2 ?_;clear hK2;refine jD rfl ?_;refine ah ?_;refine ae ?_;clear hK1;refine aF (cZ _) (λ_ s=>ak [0] rfl s) ?_;refine TE.retS0 rfl ?_;refine⟨rfl,rfl,?_⟩;rfl
theorem zA(ob:Nat)(ok:Bool):DoesD Tryz.prog 140 #[(.pointer (some ⟨ob,0,none⟩))] (.panicking hX) (λ_=>True) [aj ob [(.bool (ok))] 4] (λe u' H=>e= .returned (.tuple #[])∧settle u'= .returning∧H=[aj ob [.bool false] 4]):=by
 refine DoesD.recover2 (vs:=[(.pointer (some ⟨ob,0,none⟩))]) (n:=15) (u':= .panicking [{v:=(.iface 221 (.agg #[])),recovered:=true}]) (rv:=(.iface 221 (.agg #[]))) Tryz.func140 rfl rfl rfl rfl rfl rfl rfl rfl rfl rfl rfl (λc0 cs hu=>by cases c0;simp only at hu;subst hu;rfl) (λw0 F c0 cs hF=>?_);refine aa (λK1 hK1=>?_);refine aa (λK2 hK2=>?_);refine ad ?_;refine ly (ab rfl) rfl rfl (iW rfl rfl) ?_;refine ly (ab rfl) rfl rfl (PV.ifaceNil rfl Tryz.underlying20 rfl) ?_;refine ap ?_;refine ac hK2 ?_;clear hK2;refine nN rfl ?_;refine aM ?_;refine ac hK1 ?_;clear hK1;refine aa (λK3 hK3=>?_);refine aa (λK4 hK4=>?_);refine ad ?_;refine ly (ab rfl) rfl rfl (iW rfl rfl) ?_;refine ly (ab rfl) rfl rfl (PV.assert rfl GS rfl rfl) ?_;refine ly (ab rfl) rfl rfl (iW rfl rfl) ?_;refine ly (ab rfl) rfl rfl (eF (vs:=[.agg #[], .bool true]) rfl rfl rfl) ?_;refine ly (ab rfl) rfl rfl (eF (vs:=[.agg #[], .bool true]) rfl rfl rfl) ?_;refine lA (ab rfl) rfl rfl rfl NP (λb2=>?_);change TL _ _ _ _ _ _ _ _ _ [aj b2 [] 221,aj ob [(.bool (ok))] 4];refine bL (vs:=[]) (i:=0) (H':=[aj b2 [] 221,aj ob [(.bool (ok))] 4]) (ab rfl) rfl rfl rfl rfl rfl L1 (by simp[Value.oneCell']) rfl rfl (IZ rfl) rfl rfl ?_;refine ly (ab rfl) rfl rfl (Cy rfl rfl) ?_;refine ap ?_;refine ac hK4 ?_;clear hK4;refine aa (λK5 hK5=>?_);refine ad ?_;refine ly (ab rfl) rfl rfl (iW rfl rfl) ?_;refine ly (ab rfl) rfl rfl (nO (r:=false) rfl rfl rfl) ?_;refine ap ?_
 refine ac hK5 ?_;clear hK5;refine nN rfl ?_;refine aM ?_;refine ac hK3 ?_;clear hK3;refine ad ?_;refine bB (i:=1) (H':=[aj b2 [] 221,aj ob [(.bool false)] 4]) (ab rfl) rfl rfl rfl rfl rfl kE rfl rfl (lb rfl) rfl rfl ?_;refine ap ?_;refine aF (cZ _) (λ_ s=>ak [1] rfl s) ?_;refine TE.endS0 rfl ?_;refine⟨rfl,rfl,?_⟩;exact rfl
theorem FR{fid:Nat}{caps:List Value}{x:Value}{bs:List UInt8}{C G:HP}{A:List UInt8→HP}{R:Hl→Prop}(hR: ∀F,R F→IsB x bs F)(hmono: ∀F g,R F→Dj g F→R (jn g F))(hN:Named Tryz.prog fid)
 (hc: ∀rb,DT fid ([Value.pointer (some ⟨rb,0,none⟩)]++caps).toArray R [aj rb [x] 219,C] (uH (λ_ H=>∃x' r,H=[aj rb [x'] 219,A r]∧Tail x bs x' r) (λc H=>c=hX∧∃x',H=[aj rb [x'] 219,G]))):
 DT 105 #[x, .func (.func fid) #[] caps.toArray] R [C] (c9 (λv H=>(∃r,v= .bool (decide (r=[]))∧H=[A r])∨(v= .bool false∧H=[G]))):=by
 refine Leg.Does.bodyD (vs:=[x, .func (.func fid) #[] caps.toArray]) (n:=21) Tryz.func105 rfl rfl rfl (λw0 F hF=>sr λ_ J1=>XA z4 λb4=>?_);refine nx J1 (sr λ_ J2=>PS ?_);refine tp (PV.buildOne rfl Am NQ rfl kj rfl (hR _ hF).one) ?_;refine XB λb8=>?_
 refine PS ?_;refine nx J2 (sr λ_ J3=>tp (OY rfl rfl) ?_);refine TL.deferFn (ab rfl) rfl rfl rfl (nx J3 (aa λ_ J4=>sr λ_ J5=>PS ?_));refine tp (PV.funcNeqNil rfl Tryz.underlying193 rfl) ?_;refine nx J5 (CY (ad (P2 ?_)));refine TL.callPv (ab rfl) rfl rfl rfl rfl hN rfl (hc b8) (λ_ s=>aA [0,1] rfl s) (Lx hmono hF) (λcP HP hP=>?_) (λvR HR hR'=>?_);obtain⟨rfl,x',rfl⟩:=hP;refine ax ?_;intro a w fr sm m;refine qR (b:=b4) (e:=4) (A:=[aj b4 [(.bool false)] 4]) (B:=[aj b8 [x'] 219,G]) (H':=[G]) fr sm m (by simp) H3 (zA b4 _) (λ_ s=>aA [2] rfl s) (λ_ _ _=>trivial) rfl rfl Y4 rfl (λH1 h1=>?_);subst h1;refine⟨[.bool false], .bool false,du 0 rfl rfl,rfl,λ_ s=>ak [2] rfl s,?_⟩;exact .inr ⟨rfl,rfl⟩;obtain⟨x',r,rfl,htl⟩:=hR';have hB:=htl F (hR _ hF);rcases hB with⟨rfl,rfl⟩| ⟨b,off,cap,cs,T,z,rfl,hB1,hB2,hB3,hB4⟩
 refine nx J4 (sr λ_ J6=>P2 ?_);refine FA 0 Am kj ?_;refine LA 0 e8 ?_;refine tp (pR rfl e8 rfl) ?_;refine PS ?_;refine S0 2 kE ?_;refine nx J6 (ah ?_);intro a w fr sm m;refine qR (b:=b4) (e:=4) (A:=[aj b4 [(.bool true)] 4]) (B:=[aj b8 [(.slice none 0 0)] 219,(A [])]) (H':=[(A [])]) fr sm m (by simp) H3 (vT b4 _) (λ_ s=>aA [2] rfl s) (λ_ _ _=>trivial) rfl rfl Y4 rfl (λH1 h1=>?_);subst h1;refine⟨[.bool true], .bool true,du 0 rfl rfl,rfl,λ_ s=>ak [2] rfl s,?_⟩;exact .inl ⟨[],rfl,rfl⟩;refine nx J4 (sr λ_ J7=>P2 ?_);refine FA 0 Am kj ?_;refine LA 0 e8 ?_;refine tp (pR rfl e8 rfl) ?_;refine PS ?_;refine S0 2 kE ?_;refine nx J7 (ah ?_);intro a w fr sm m;refine qR (b:=b4) (e:=4) (A:=[aj b4 [(.bool (decide (((r.length:Nat):Int)=0)))] 4]) (B:=[aj b8 [(.slice (some ⟨b,off,none⟩) (r.length) (cap))] 219,(A r)]) (H':=[(A r)]) fr sm m (by simp) H3 (vT b4 _) (λ_ s=>aA [2] rfl s) (λ_ _ _=>trivial) rfl rfl Y4 rfl (λH1 h1=>?_);subst h1;refine⟨[.bool (decide (((r.length:Nat):Int)=0))], .bool (decide (((r.length:Nat):Int)=0)),du 0 rfl rfl,rfl,λ_ s=>ak [2] rfl s,?_⟩;exact .inl ⟨r,by congr 1;rw[decide_eq_decide];cases r<;>simp<;>omega,rfl⟩
theorem yo{fid:Nat}{caps:List Value}{x:Value}{bs:List UInt8}{α β:Type}{C:List HP}{A:α→List HP}{G:β→List HP}{φ:α→List UInt8→Prop}{ψ:β→Prop}{R:Hl→Prop}(hR: ∀F,R F→IsB x bs F)(hmono: ∀F g,R F→Dj g F→R (jn g F))(hN:Named Tryz.prog fid)
 (hc: ∀rb,DT fid ([Value.pointer (some ⟨rb,0,none⟩)]++caps).toArray R (aj rb [x] 219::C) (uH (λ_ H=>∃x' r a,H=aj rb [x'] 219::A a∧Tail x bs x' r∧φ a r) (λc H=>c=hX∧∃x' b,H=aj rb [x'] 219::G b∧ψ b))):
 DT 105 #[x, .func (.func fid) #[] caps.toArray] R C (c9 (λv H=>(∃r a,v= .bool (decide (r=[]))∧H=A a∧φ a r)∨(∃b,v= .bool false∧H=G b∧ψ b))):=by
 have h1:=FR (C:=all C) (G:=λh=>∃b,ψ b∧bK (G b) h) (A:=λr h=>∃a,φ a r∧bK (A a) h) hR hmono hN λrb=>
  (hc rb).conv (post':=uH (λ_ H=>∃x' r,H=[aj rb [x'] 219,λh=>∃a,φ a r∧bK (A a) h]∧Tail x bs x' r) (λc H=>c=hX∧∃x',H=[aj rb [x'] 219,λh=>∃b,ψ b∧bK (G b) h]))
   (λh s=>vD s λ_=>JU)
   (λe H F w hp m=>by
    cases e with
    |returned v=>
     obtain⟨x',r,a,rfl,ht,hf⟩:=hp;exact⟨[aj rb [x'] 219,λh=>∃a,φ a r∧bK (A a) h],m.mono λh s=>vD s λh s=>qI ⟨a,hf,s⟩,x',r,rfl,ht⟩
    |panicked c=>
     obtain⟨hc,x',b,rfl,hf⟩:=hp;exact⟨[aj rb [x'] 219,λh=>∃b,ψ b∧bK (G b) h],m.mono λh s=>vD s λh s=>qI ⟨b,hf,s⟩,hc,x',rfl⟩
    |outgrown=>exact hp.elim)
 refine h1.conv (λh s=>Je s) λe H F w hp m=>?_
 cases e with
 |returned v=>
  rcases hp with⟨r,hv,rfl⟩| ⟨hv,rfl⟩
  · obtain⟨h,d,e,g1,g2,d',rfl,⟨a,hf,s⟩,_⟩:=m
    exact⟨A a,⟨_,d,e,ld _ s d'⟩, .inl ⟨r,a,hv,rfl,hf⟩⟩
  · obtain⟨h,d,e,g1,g2,d',rfl,⟨b,hf,s⟩,_⟩:=m
    exact⟨G b,⟨_,d,e,ld _ s d'⟩, .inr ⟨b,hv,rfl,hf⟩⟩
 |panicked c=>exact hp.elim
 |outgrown=>exact hp.elim
theorem zz(rb:Nat)(v:Value)(bs:List UInt8):
 DT 120 #[(.pointer (some ⟨rb,0,none⟩))] (IsB v bs) [aj rb [v] 219] (ni 219 hX (λmb:MsgT×Bool=> .tuple #[.agg (ints mb.1.flat).toArray, .bool mb.2]) cM v bs rb):=by
 refine BD 85 Tryz.func120 rfl rfl rfl λw0 F hF=>sr λ_ J1=>XZ lX (ints MsgT.zero.flat) λb2=>?_
 refine PS ?_;refine nx J1 (sr λ_ J2=>PS ?_);refine CP iM (cL rb v bs (10)) (SM [1]) (λ_ d _=>(hF).more d) (λcP HP hP=>?_) (λvR HR hR=>?_);obtain⟨vP,rfl,rfl,hpP⟩:=hP;refine ax (WK [0] (aR ?_));exact⟨_,rfl,rfl,by simp[cM,bU hpP, *]⟩;obtain⟨a1,r1,v1,rfl,rfl,hp1,ht1⟩:=hR;have hf1:=ht1 _ hF;refine tp (ke MsgT.zero (MsgT.mk a1 0 RowT.zero 0 0 BallotT.zero BallotT.zero ChangeT.zero ViewT.zero) [(0,[Value.int .i64 a1])] bd bw (g:=MsgT.sg)) ?_;refine XZ lX (ints MsgT.zero.flat) λb4=>?_
 refine SW 0 cf aG ?_;refine nx J2 (aa λ_ J3=>sr λ_ J4=>FA 0 bd aO ?_);refine LT 0 Y3 (.int .i64 (a1)) ?_ (hc:=by exact eM _ rfl);refine nx J4 (am (aa λ_ J5=>eT (α:=Unit) (λ_u=>True) (λ_u=>[(0,(.pointer (some ⟨rb,0,none⟩))),(2,(.pointer (some ⟨b2,0,none⟩))),(3,(.bool false)),(4,(.pointer (some ⟨b4,0,none⟩))),(9,(.int .i64 (a1))),(10,(.bool ((e7 a1))))]) (λ_u=>[aj b4 (ints (MsgT.mk a1 0 RowT.zero 0 0 BallotT.zero BallotT.zero ChangeT.zero ViewT.zero).flat) 163,aj rb [v1] 219,aj b2 (ints MsgT.zero.flat) 163]) (λ_u hinv=>?_) (λtl5=>?_)));have _:=hinv;refine ac J5 (TC.cond rfl (λh10=>?_) (λh10=>?_));refine sr λ_ J6=>PS ?_
 refine CP iM (cL rb v1 r1 (5)) (SM [1]) (λ_ d _=>(hf1).more d) (λcP HP hP=>?_) (λvR HR hR=>?_);obtain⟨vP,rfl,rfl,hpP⟩:=hP;refine ax (aP (ax (WK [0] (aR ?_))));exact⟨_,rfl,rfl,by simp[cM,aD hp1,bU hpP,h10, *]⟩;obtain⟨a2,r2,v2,rfl,rfl,hp2,ht2⟩:=hR;have hf2:=ht2 _ hf1;refine FA 1 bd aO ?_;refine SS 1 aO (aG _) (MsgT.set_whose _ rfl _) ?_;refine nx J6 (sr λ_ J7=>PS ?_);refine CP H0 (sZ rb v2 r2) ID (λ_ d _=>(hf2).more d) (λcP HP hP=>?_) (λvR HR hR=>?_);obtain⟨vP,rfl,rfl,hpP⟩:=hP;refine ax (aP (ax (WK [0] (aR ?_))));exact⟨_,rfl,rfl,by simp[cM,aD hp1,aD hp2,bU hpP,h10, *]⟩;obtain⟨a3,r3,v3,rfl,rfl,hp3,ht3⟩:=hR;have hf3:=ht3 _ hf2;refine FA 2 bd ba ?_;refine SP 1 ba ai aG MsgT.wp_row ?_;refine nx J7 (aa λ_ J8=>D1 1 bf ?_);refine LY 0 bd cf aG ?_;refine FD 1 2 bd ba ?_;refine ta 2 rfl (aK (vs:=ints a3.flat) rfl dI rfl ba rfl (λ_ h=>h.2.1) (ai a3) (lP (MsgT.mk a1 a2 a3 0 0 BallotT.zero BallotT.zero ChangeT.zero ViewT.zero) 0 rfl (by decide) (whole (ai a3)))) ?_;refine AL 3 ?_;refine CE HN (jv a3 (zu hp3)) ID ?_;refine EN (AL 4 ?_);refine SW 2 cf aG ?_;refine EN (PD 5 ?_);refine DN (ac J8 (ah (aH (ae (RT 2 [0] bd cf (aG _) ?_)))));exact⟨((MsgT.mk a1 a2 a3 0 0 BallotT.zero BallotT.zero ChangeT.zero ViewT.zero),(gT a3)),_,_,rfl,rfl,by simp[cM,pr,aD hp1,aD hp2,aD hp3,h10,MsgT.zero,RecT.zero, *],(ht1.trans (ht2.trans ht3))⟩;refine sr λ_ J9=>PS ?_
 refine ao ?_ ?_<;>intro h25;refine PS ?_;refine nx J9 (CY (ad (PS ?_)));refine CP py (iL rb v1 r1) (SM [1]) (λ_ d _=>(hf1).more d) (λcP HP hP=>?_) (λvR HR hR=>?_);obtain⟨vP,rfl,rfl,hpP⟩:=hP;refine aP (ax (WK [0] (aR ?_)));exact⟨_,rfl,rfl,by simp[cM,e7,ff,aD hp1,bU hpP,h10,h25, *]⟩;obtain⟨a2,r2,v2,rfl,rfl,hp2,ht2⟩:=hR;have hf2:=ht2 _ hf1;refine FA 176 bd aO ?_;refine SS 1 aO (aG _) (MsgT.set_version _ rfl _) ?_;refine ap (af (ac J3 (sr λ_ J10=>LW 1 bd cf aG ?_)));refine SW 2 cf aG ?_;refine PS ?_;refine nx J10 (ah (RT 2 [0] bd cf (aG _) ?_));exact⟨((MsgT.mk a1 0 RowT.zero a2 0 BallotT.zero BallotT.zero ChangeT.zero ViewT.zero),true),_,_,rfl,rfl,by simp[cM,e7,ff,pr,aD hp1,aD hp2,h10,h25,MsgT.zero,RecT.zero, *],(ht1.trans ht2)⟩;refine PS ?_;refine nx J9 (CN (aa λ_ J11=>eT (α:=Unit) (λ_u=>True) (λ_u=>[(0,(.pointer (some ⟨rb,0,none⟩))),(2,(.pointer (some ⟨b2,0,none⟩))),(3,(.bool false)),(4,(.pointer (some ⟨b4,0,none⟩))),(9,(.int .i64 (a1))),(29,(.bool ((ff a1))))]) (λ_u=>[aj b4 (ints (MsgT.mk a1 0 RowT.zero 0 0 BallotT.zero BallotT.zero ChangeT.zero ViewT.zero).flat) 163,aj rb [v1] 219,aj b2 (ints MsgT.zero.flat) 163]) (λ_u hinv=>?_) (λtl11=>?_)));have _:=hinv;refine ac J11 (TC.cond rfl (λh29=>?_) (λh29=>?_));refine sr λ_ J12=>PS ?_
 refine CP py (iL rb v1 r1) (SM [1]) (λ_ d _=>(hf1).more d) (λcP HP hP=>?_) (λvR HR hR=>?_);obtain⟨vP,rfl,rfl,hpP⟩:=hP;refine ax (aP (ax (WK [0] (aR ?_))));exact⟨_,rfl,rfl,by simp[cM,aD hp1,bU hpP,h10,h25,h29, *]⟩;obtain⟨a2,r2,v2,rfl,rfl,hp2,ht2⟩:=hR;have hf2:=ht2 _ hf1;refine FA 177 bd aO ?_;refine SS 1 aO (aG _) (Nw _ rfl _) ?_;refine nx J12 (ad (PS ?_));refine CP yz (jc rb v2 r2) ID (λ_ d _=>(hf2).more d) (λcP HP hP=>?_) (λvR HR hR=>?_);obtain⟨vP,rfl,rfl,hpP⟩:=hP;refine aP (ax (WK [0] (aR ?_)));exact⟨_,rfl,rfl,by simp[cM,aD hp1,aD hp2,bU hpP,h10,h25,h29, *]⟩;obtain⟨a3,r3,v3,rfl,rfl,hp3,ht3⟩:=hR;have hf3:=ht3 _ hf2;refine FA 178 bd cw ?_;refine SP 1 cw aq aG Nv ?_;refine ap (af (ac J3 (sr λ_ J13=>LW 1 bd cf aG ?_)));refine SW 2 cf aG ?_;refine PS ?_;refine nx J13 (ah (RT 2 [0] bd cf (aG _) ?_));exact⟨((MsgT.mk a1 0 RowT.zero 0 a2 a3 BallotT.zero ChangeT.zero ViewT.zero),true),_,_,rfl,rfl,by simp[cM,pr,aD hp1,aD hp2,aD hp3,h10,h25,h29,MsgT.zero,RecT.zero, *],(ht1.trans (ht2.trans ht3))⟩;refine sr λ_ J14=>PS ?_
 refine ao ?_ ?_<;>intro h39;refine PS ?_;refine nx J14 (CY (sr λ_ J15=>PS ?_));refine CP py (iL rb v1 r1) (SM [1]) (λ_ d _=>(hf1).more d) (λcP HP hP=>?_) (λvR HR hR=>?_);obtain⟨vP,rfl,rfl,hpP⟩:=hP;refine ax (aP (ax (WK [0] (aR ?_))));exact⟨_,rfl,rfl,by simp[cM,e7,ff,aD hp1,bU hpP,h10,h25,h29,h39, *]⟩;obtain⟨a2,r2,v2,rfl,rfl,hp2,ht2⟩:=hR;have hf2:=ht2 _ hf1;refine FA 177 bd aO ?_;refine SS 1 aO (aG _) (Nw _ rfl _) ?_;refine nx J15 (sr λ_ J16=>PS ?_);refine CP yz (jc rb v2 r2) ID (λ_ d _=>(hf2).more d) (λcP HP hP=>?_) (λvR HR hR=>?_);obtain⟨vP,rfl,rfl,hpP⟩:=hP;refine ax (aP (ax (WK [0] (aR ?_))));exact⟨_,rfl,rfl,by simp[cM,e7,ff,aD hp1,aD hp2,bU hpP,h10,h25,h29,h39, *]⟩;obtain⟨a3,r3,v3,rfl,rfl,hp3,ht3⟩:=hR;have hf3:=ht3 _ hf2;refine FA 178 bd cw ?_;refine SP 1 cw aq aG Nv ?_;refine nx J16 (sr λ_ J17=>PS ?_);refine CP yz (jc rb v3 r3) ID (λ_ d _=>(hf3).more d) (λcP HP hP=>?_) (λvR HR hR=>?_);obtain⟨vP,rfl,rfl,hpP⟩:=hP;refine ax (aP (ax (WK [0] (aR ?_))));exact⟨_,rfl,rfl,by simp[cM,e7,ff,aD hp1,aD hp2,aD hp3,bU hpP,h10,h25,h29,h39, *]⟩;obtain⟨a4,r4,v4,rfl,rfl,hp4,ht4⟩:=hR;have hf4:=ht4 _ hf3;refine FA 180 bd cw ?_;refine SP 1 cw aq aG MsgT.wp_had ?_;refine nx J17 (ad (PS ?_));refine CP HZ (n7 rb v4 r4) ID (λ_ d _=>(hf4).more d) (λcP HP hP=>?_) (λvR HR hR=>?_);obtain⟨vP,rfl,rfl,hpP⟩:=hP
 refine aP (ax (WK [0] (aR ?_)));exact⟨_,rfl,rfl,by simp[cM,e7,ff,aD hp1,aD hp2,aD hp3,aD hp4,bU hpP,h10,h25,h29,h39, *]⟩;obtain⟨a5,r5,v5,rfl,rfl,hp5,ht5⟩:=hR;have hf5:=ht5 _ hf4;refine FA 182 bd eZ ?_;refine SP 1 eZ aI aG Nu ?_;refine ap (af (ac J3 (sr λ_ J18=>LW 1 bd cf aG ?_)));refine SW 2 cf aG ?_;refine PS ?_;refine nx J18 (ah (RT 2 [0] bd cf (aG _) ?_));exact⟨((MsgT.mk a1 0 RowT.zero 0 a2 a3 a4 a5 ViewT.zero),true),_,_,rfl,rfl,by simp[cM,e7,ff,pr,aD hp1,aD hp2,aD hp3,aD hp4,aD hp5,h10,h25,h29,h39,MsgT.zero,RecT.zero, *],(ht1.trans (ht2.trans (ht3.trans (ht4.trans ht5))))⟩;refine PS ?_;refine nx J14 (CN (sr λ_ J19=>PS ?_));refine ao ?_ ?_<;>intro h53;refine PS ?_;refine nx J19 (CY (sr λ_ J20=>PS ?_));refine CP py (iL rb v1 r1) (SM [1]) (λ_ d _=>(hf1).more d) (λcP HP hP=>?_) (λvR HR hR=>?_);obtain⟨vP,rfl,rfl,hpP⟩:=hP;refine ax (aP (ax (WK [0] (aR ?_))));exact⟨_,rfl,rfl,by simp[cM,e7,ff,aD hp1,bU hpP,h10,h25,h29,h39,h53, *]⟩;obtain⟨a2,r2,v2,rfl,rfl,hp2,ht2⟩:=hR;have hf2:=ht2 _ hf1;refine FA 177 bd aO ?_;refine SS 1 aO (aG _) (Nw _ rfl _) ?_;refine nx J20 (sr λ_ J21=>PS ?_);refine CP yz (jc rb v2 r2) ID (λ_ d _=>(hf2).more d) (λcP HP hP=>?_) (λvR HR hR=>?_);obtain⟨vP,rfl,rfl,hpP⟩:=hP;refine ax (aP (ax (WK [0] (aR ?_))));exact⟨_,rfl,rfl,by simp[cM,e7,ff,aD hp1,aD hp2,bU hpP,h10,h25,h29,h39,h53, *]⟩
 obtain⟨a3,r3,v3,rfl,rfl,hp3,ht3⟩:=hR;have hf3:=ht3 _ hf2;refine FA 178 bd cw ?_;refine SP 1 cw aq aG Nv ?_;refine nx J21 (ad (PS ?_));refine CP HZ (n7 rb v3 r3) ID (λ_ d _=>(hf3).more d) (λcP HP hP=>?_) (λvR HR hR=>?_);obtain⟨vP,rfl,rfl,hpP⟩:=hP;refine aP (ax (WK [0] (aR ?_)));exact⟨_,rfl,rfl,by simp[cM,e7,ff,aD hp1,aD hp2,aD hp3,bU hpP,h10,h25,h29,h39,h53, *]⟩;obtain⟨a4,r4,v4,rfl,rfl,hp4,ht4⟩:=hR;have hf4:=ht4 _ hf3;refine FA 182 bd eZ ?_;refine SP 1 eZ aI aG Nu ?_;refine ap (af (ac J3 (sr λ_ J22=>LW 1 bd cf aG ?_)));refine SW 2 cf aG ?_;refine PS ?_;refine nx J22 (ah (RT 2 [0] bd cf (aG _) ?_));exact⟨((MsgT.mk a1 0 RowT.zero 0 a2 a3 BallotT.zero a4 ViewT.zero),true),_,_,rfl,rfl,by simp[cM,e7,ff,pr,aD hp1,aD hp2,aD hp3,aD hp4,h10,h25,h29,h39,h53,MsgT.zero,RecT.zero, *],(ht1.trans (ht2.trans (ht3.trans ht4)))⟩;refine PS ?_;refine nx J19 (CN (sr λ_ J23=>PS ?_));refine ao ?_ ?_<;>intro h64;refine PS ?_;refine nx J23 (CY (sr λ_ J24=>PS ?_));refine CP HY (qJ rb v1 r1) (SM [1]) (λ_ d _=>(hf1).more d) (λcP HP hP=>?_) (λvR HR hR=>?_);obtain⟨vP,rfl,rfl,hpP⟩:=hP;refine ax (aP (ax (WK [0] (aR ?_))));exact⟨_,rfl,rfl,by simp[cM,e7,ff,aD hp1,bU hpP,h10,h25,h29,h39,h53,h64, *]⟩;obtain⟨a2,r2,v2,rfl,rfl,hp2,ht2⟩:=hR;have hf2:=ht2 _ hf1;refine FA 185 bd be ?_;refine SP 1 be an aG MsgT.wp_view ?_;refine nx J24 (aa λ_ J25=>D1 1 bf ?_)
 refine LY 0 bd cf aG ?_;refine FD 1 185 bd be ?_;refine ta 2 rfl (aK (vs:=ints a2.flat) rfl dS rfl be rfl (λ_ h=>h.2.1) (an a2) (uK (MsgT.mk a1 0 RowT.zero 0 0 BallotT.zero BallotT.zero ChangeT.zero a2) 0 rfl (by decide) (whole (an a2)))) ?_;refine AL 3 ?_;refine CE HX (mp a2 (rq hp2)) ID ?_;refine EN (AL 4 ?_);refine SW 2 cf aG ?_;refine EN (PD 5 ?_);refine DN (ac J25 (ah (aH (ae (RT 2 [0] bd cf (aG _) ?_)))));exact⟨((MsgT.mk a1 0 RowT.zero 0 0 BallotT.zero BallotT.zero ChangeT.zero a2),(ko a2)),_,_,rfl,rfl,by simp[cM,e7,ff,pr,aD hp1,aD hp2,h10,h25,h29,h39,h53,h64,MsgT.zero,RecT.zero, *],(ht1.trans ht2)⟩;refine PS ?_;refine nx J23 (CN (sr λ_ J26=>PS ?_));refine ao ?_ ?_<;>intro h73;refine PS ?_;refine nx J26 (CY (sr λ_ J27=>PS ?_));refine CP iM (cL rb v1 r1 (5)) (SM [1]) (λ_ d _=>(hf1).more d) (λcP HP hP=>?_) (λvR HR hR=>?_);obtain⟨vP,rfl,rfl,hpP⟩:=hP;refine ax (aP (ax (WK [0] (aR ?_))));exact⟨_,rfl,rfl,by simp[cM,e7,ff,aD hp1,bU hpP,h10,h25,h29,h39,h53,h64,h73, *]⟩;obtain⟨a2,r2,v2,rfl,rfl,hp2,ht2⟩:=hR;have hf2:=ht2 _ hf1;refine FA 1 bd aO ?_;refine SS 1 aO (aG _) (MsgT.set_whose _ rfl _) ?_;refine nx J27 (sr λ_ J28=>PS ?_);refine CP HY (qJ rb v2 r2) ID (λ_ d _=>(hf2).more d) (λcP HP hP=>?_) (λvR HR hR=>?_);obtain⟨vP,rfl,rfl,hpP⟩:=hP;refine ax (aP (ax (WK [0] (aR ?_))))
 exact⟨_,rfl,rfl,by simp[cM,e7,ff,aD hp1,aD hp2,bU hpP,h10,h25,h29,h39,h53,h64,h73, *]⟩;obtain⟨a3,r3,v3,rfl,rfl,hp3,ht3⟩:=hR;have hf3:=ht3 _ hf2;refine FA 185 bd be ?_;refine SP 1 be an aG MsgT.wp_view ?_;refine nx J28 (aa λ_ J29=>D1 1 bf ?_);refine LY 0 bd cf aG ?_;refine FD 1 185 bd be ?_;refine ta 2 rfl (aK (vs:=ints a3.flat) rfl dS rfl be rfl (λ_ h=>h.2.1) (an a3) (uK (MsgT.mk a1 a2 RowT.zero 0 0 BallotT.zero BallotT.zero ChangeT.zero a3) 0 rfl (by decide) (whole (an a3)))) ?_;refine AL 3 ?_;refine CE HX (mp a3 (rq hp3)) ID ?_;refine EN (AL 4 ?_);refine SW 2 cf aG ?_;refine EN (PD 5 ?_);refine DN (ac J29 (ah (aH (ae (RT 2 [0] bd cf (aG _) ?_)))));exact⟨((MsgT.mk a1 a2 RowT.zero 0 0 BallotT.zero BallotT.zero ChangeT.zero a3),(ko a3)),_,_,rfl,rfl,by simp[cM,e7,ff,pr,aD hp1,aD hp2,aD hp3,h10,h25,h29,h39,h53,h64,h73,MsgT.zero,RecT.zero, *],(ht1.trans (ht2.trans ht3))⟩;refine PS ?_;refine nx J26 (CN (aM (af (ac J3 (sr λ_ J30=>LW 0 bd cf aG ?_)))));refine SW 2 cf aG ?_;refine PS ?_;refine nx J30 (ah (RT 2 [1] bd cf (aG _) ?_));exact⟨((MsgT.mk a1 0 RowT.zero 0 0 BallotT.zero BallotT.zero ChangeT.zero ViewT.zero),true),_,_,rfl,rfl,by simp[cM,pr,aD hp1,h10,h25,h29,h39,h53,h64,h73,MsgT.zero,RecT.zero, *],ht1⟩;refine sr λ_ J31=>P2 ?_
 refine ao ?_ ?_<;>intro h29;refine nx J31 (CY (aM ?_))
 exact aF
  (aX (aX (aX (aX (aX (bC rfl (by simp[ff, *]) SB))))))
  (λ_ s=>s)
  (tl11 (():Unit) trivial)
 refine nx J31 (CN (ad (PS ?_)));refine ao ?_ ?_<;>intro h31;refine PS ?_;refine ap ?_
 exact aF
  (aX (aX (aX (aX (aX (bC rfl (by simp[ff, *]) SB))))))
  (λ_ s=>s)
  (tl11 (():Unit) trivial)
 refine PS ?_;refine ap ?_
 exact aF
  (aX (aX (aX (aX (aX (bC rfl (by simp[ff, *]) SB))))))
  (λ_ s=>s)
  (tl11 (():Unit) trivial)
 refine sr λ_ J32=>P2 ?_
 refine ao ?_ ?_<;>intro h10;refine nx J32 (CY (aM ?_))
 exact aF
  (aX (aX (aX (aX (aX (bC rfl (by simp[e7, *]) SB))))))
  (λ_ s=>s)
  (tl5 (():Unit) trivial)
 refine nx J32 (CN (sr λ_ J33=>P2 ?_));refine ao ?_ ?_<;>intro h10;refine nx J33 (CY (aM ?_))
 exact aF
  (aX (aX (aX (aX (aX (bC rfl (by simp[e7, *]) SB))))))
  (λ_ s=>s)
  (tl5 (():Unit) trivial)
 refine nx J33 (CN (ad (PS ?_)));refine ao ?_ ?_<;>intro h13;refine PS ?_;refine ap ?_
 exact aF
  (aX (aX (aX (aX (aX (bC rfl (by simp[e7, *]) SB))))))
  (λ_ s=>s)
  (tl5 (():Unit) trivial)
 refine PS ?_;refine ap ?_
 exact aF
  (aX (aX (aX (aX (aX (bC rfl (by simp[e7, *]) SB))))))
  (λ_ s=>s)
  (tl5 (():Unit) trivial)
theorem zy(rb:Nat)(v:Value)(bs:List UInt8):
 DT 107 #[(.pointer (some ⟨rb,0,none⟩))] (IsB v bs) [aj rb [v] 219] (ni 219 hX (λmb:RecT×Bool=> .tuple #[.agg (ints mb.1.flat).toArray, .bool mb.2]) df v bs rb):=by
 refine BD 65 Tryz.func107 rfl rfl rfl λw0 F hF=>sr λ_ J1=>XZ G0 (ints RecT.zero.flat) λb2=>?_
 refine PS ?_;refine nx J1 (sr λ_ J2=>PS ?_);refine CP iM (cL rb v bs (6)) (SM [1]) (λ_ d _=>(hF).more d) (λcP HP hP=>?_) (λvR HR hR=>?_);obtain⟨vP,rfl,rfl,hpP⟩:=hP;refine ax (WK [0] (aR ?_));exact⟨_,rfl,rfl,by simp[df,e7,ff,bU hpP, *]⟩;obtain⟨a1,r1,v1,rfl,rfl,hp1,ht1⟩:=hR;have hf1:=ht1 _ hF;refine tp (ke RecT.zero (RecT.mk a1 0 RowT.zero 0 BallotT.zero ChangeT.zero ViewT.zero) [(0,[Value.int .i64 a1])] dT eU (g:=RecT.sg)) ?_;refine XZ G0 (ints RecT.zero.flat) λb4=>?_
 refine SW 0 fE bp ?_;refine nx J2 (aa λ_ J3=>sr λ_ J4=>FA 0 dT aO ?_);refine LT 0 Y3 (.int .i64 (a1)) ?_ (hc:=by exact kc _ rfl);refine nx J4 (am (sr λ_ J5=>PS ?_));refine ao ?_ ?_<;>intro h11;refine PS ?_;refine nx J5 (CY (sr λ_ J6=>PS ?_));refine CP H0 (sZ rb v1 r1) (SM [1]) (λ_ d _=>(hf1).more d) (λcP HP hP=>?_) (λvR HR hR=>?_);obtain⟨vP,rfl,rfl,hpP⟩:=hP;refine ax (aP (ax (WK [0] (aR ?_))));exact⟨_,rfl,rfl,by simp[df,e7,ff,aD hp1,bU hpP,h11, *]⟩;obtain⟨a2,r2,v2,rfl,rfl,hp2,ht2⟩:=hR;have hf2:=ht2 _ hf1;refine FA 2 dT ba ?_;refine SP 1 ba ai bp RecT.wp_row ?_;refine nx J6 (aa λ_ J7=>D1 1 bf ?_);refine LY 0 dT fE bp ?_;refine FD 1 2 dT ba ?_;refine ta 2 rfl (aK (vs:=ints a2.flat) rfl dI rfl ba rfl (λ_ h=>h.2.1) (ai a2) (rc (RecT.mk a1 0 a2 0 BallotT.zero ChangeT.zero ViewT.zero) 0 rfl (by decide) (whole (ai a2)))) ?_;refine AL 3 ?_;refine CE HN (jv a2 (zu hp2)) ID ?_;refine EN (AL 4 ?_);refine SW 2 fE bp ?_;refine EN (PD 5 ?_);refine DN (ac J7 (ah (aH (ae (RT 2 [0] dT fE (bp _) ?_)))));exact⟨((RecT.mk a1 0 a2 0 BallotT.zero ChangeT.zero ViewT.zero),(gT a2)),_,_,rfl,rfl,by simp[df,e7,ff,pr,aD hp1,aD hp2,h11,MsgT.zero,RecT.zero, *],(ht1.trans ht2)⟩;refine PS ?_;refine nx J5 (CN (sr λ_ J8=>PS ?_));refine ao ?_ ?_<;>intro h20;refine PS ?_;refine nx J8 (CY (sr λ_ J9=>PS ?_))
 refine CP iM (cL rb v1 r1 (5)) (SM [1]) (λ_ d _=>(hf1).more d) (λcP HP hP=>?_) (λvR HR hR=>?_);obtain⟨vP,rfl,rfl,hpP⟩:=hP;refine ax (aP (ax (WK [0] (aR ?_))));exact⟨_,rfl,rfl,by simp[df,e7,ff,aD hp1,bU hpP,h11,h20, *]⟩;obtain⟨a2,r2,v2,rfl,rfl,hp2,ht2⟩:=hR;have hf2:=ht2 _ hf1;refine FA 1 dT aO ?_;refine SS 1 aO (bp _) (RecT.set_whose _ rfl _) ?_;refine nx J9 (sr λ_ J10=>PS ?_);refine CP H0 (sZ rb v2 r2) ID (λ_ d _=>(hf2).more d) (λcP HP hP=>?_) (λvR HR hR=>?_);obtain⟨vP,rfl,rfl,hpP⟩:=hP;refine ax (aP (ax (WK [0] (aR ?_))));exact⟨_,rfl,rfl,by simp[df,e7,ff,aD hp1,aD hp2,bU hpP,h11,h20, *]⟩;obtain⟨a3,r3,v3,rfl,rfl,hp3,ht3⟩:=hR;have hf3:=ht3 _ hf2;refine FA 2 dT ba ?_;refine SP 1 ba ai bp RecT.wp_row ?_;refine nx J10 (aa λ_ J11=>D1 1 bf ?_);refine LY 0 dT fE bp ?_;refine FD 1 2 dT ba ?_;refine ta 2 rfl (aK (vs:=ints a3.flat) rfl dI rfl ba rfl (λ_ h=>h.2.1) (ai a3) (rc (RecT.mk a1 a2 a3 0 BallotT.zero ChangeT.zero ViewT.zero) 0 rfl (by decide) (whole (ai a3)))) ?_;refine AL 3 ?_;refine CE HN (jv a3 (zu hp3)) ID ?_;refine EN (AL 4 ?_);refine SW 2 fE bp ?_;refine EN (PD 5 ?_);refine DN (ac J11 (ah (aH (ae (RT 2 [0] dT fE (bp _) ?_)))));exact⟨((RecT.mk a1 a2 a3 0 BallotT.zero ChangeT.zero ViewT.zero),(gT a3)),_,_,rfl,rfl,by simp[df,e7,ff,pr,aD hp1,aD hp2,aD hp3,h11,h20,MsgT.zero,RecT.zero, *],(ht1.trans (ht2.trans ht3))⟩;refine PS ?_
 refine nx J8 (CN (sr λ_ J12=>PS ?_));refine ao ?_ ?_<;>intro h32;refine PS ?_;refine nx J12 (CY (ad (PS ?_)));refine CP iM (cL rb v1 r1 (5)) (SM [1]) (λ_ d _=>(hf1).more d) (λcP HP hP=>?_) (λvR HR hR=>?_);obtain⟨vP,rfl,rfl,hpP⟩:=hP;refine aP (ax (WK [0] (aR ?_)));exact⟨_,rfl,rfl,by simp[df,e7,ff,aD hp1,bU hpP,h11,h20,h32, *]⟩;obtain⟨a2,r2,v2,rfl,rfl,hp2,ht2⟩:=hR;have hf2:=ht2 _ hf1;refine FA 1 dT aO ?_;refine SS 1 aO (bp _) (RecT.set_whose _ rfl _) ?_;refine ap (af (ac J3 (sr λ_ J13=>LW 1 dT fE bp ?_)));refine SW 2 fE bp ?_;refine PS ?_;refine nx J13 (ah (RT 2 [0] dT fE (bp _) ?_));exact⟨((RecT.mk a1 a2 RowT.zero 0 BallotT.zero ChangeT.zero ViewT.zero),true),_,_,rfl,rfl,by simp[df,e7,ff,pr,aD hp1,aD hp2,h11,h20,h32,MsgT.zero,RecT.zero, *],(ht1.trans ht2)⟩;refine PS ?_;refine nx J12 (CN (sr λ_ J14=>PS ?_));refine ao ?_ ?_<;>intro h37;refine PS ?_;refine nx J14 (CY (sr λ_ J15=>PS ?_));refine CP py (iL rb v1 r1) (SM [1]) (λ_ d _=>(hf1).more d) (λcP HP hP=>?_) (λvR HR hR=>?_);obtain⟨vP,rfl,rfl,hpP⟩:=hP;refine ax (aP (ax (WK [0] (aR ?_))));exact⟨_,rfl,rfl,by simp[df,e7,ff,aD hp1,bU hpP,h11,h20,h32,h37, *]⟩;obtain⟨a2,r2,v2,rfl,rfl,hp2,ht2⟩:=hR;have hf2:=ht2 _ hf1;refine FA 176 dT aO ?_;refine SS 1 aO (bp _) (RecT.set_epoch _ rfl _) ?_;refine nx J15 (ad (PS ?_))
 refine CP yz (jc rb v2 r2) ID (λ_ d _=>(hf2).more d) (λcP HP hP=>?_) (λvR HR hR=>?_);obtain⟨vP,rfl,rfl,hpP⟩:=hP;refine aP (ax (WK [0] (aR ?_)));exact⟨_,rfl,rfl,by simp[df,e7,ff,aD hp1,aD hp2,bU hpP,h11,h20,h32,h37, *]⟩;obtain⟨a3,r3,v3,rfl,rfl,hp3,ht3⟩:=hR;have hf3:=ht3 _ hf2;refine FA 177 dT cw ?_;refine SP 1 cw aq bp RecT.wp_ballot ?_;refine ap (af (ac J3 (sr λ_ J16=>LW 1 dT fE bp ?_)));refine SW 2 fE bp ?_;refine PS ?_;refine nx J16 (ah (RT 2 [0] dT fE (bp _) ?_));exact⟨((RecT.mk a1 0 RowT.zero a2 a3 ChangeT.zero ViewT.zero),true),_,_,rfl,rfl,by simp[df,e7,ff,pr,aD hp1,aD hp2,aD hp3,h11,h20,h32,h37,MsgT.zero,RecT.zero, *],(ht1.trans (ht2.trans ht3))⟩;refine PS ?_;refine nx J14 (CN (sr λ_ J17=>PS ?_));refine ao ?_ ?_<;>intro h45;refine PS ?_;refine nx J17 (CY (sr λ_ J18=>PS ?_));refine CP py (iL rb v1 r1) (SM [1]) (λ_ d _=>(hf1).more d) (λcP HP hP=>?_) (λvR HR hR=>?_);obtain⟨vP,rfl,rfl,hpP⟩:=hP;refine ax (aP (ax (WK [0] (aR ?_))));exact⟨_,rfl,rfl,by simp[df,e7,ff,aD hp1,bU hpP,h11,h20,h32,h37,h45, *]⟩;obtain⟨a2,r2,v2,rfl,rfl,hp2,ht2⟩:=hR;have hf2:=ht2 _ hf1;refine FA 176 dT aO ?_;refine SS 1 aO (bp _) (RecT.set_epoch _ rfl _) ?_;refine nx J18 (sr λ_ J19=>PS ?_);refine CP yz (jc rb v2 r2) ID (λ_ d _=>(hf2).more d) (λcP HP hP=>?_) (λvR HR hR=>?_);obtain⟨vP,rfl,rfl,hpP⟩:=hP;refine ax (aP (ax (WK [0] (aR ?_))))
 exact⟨_,rfl,rfl,by simp[df,e7,ff,aD hp1,aD hp2,bU hpP,h11,h20,h32,h37,h45, *]⟩;obtain⟨a3,r3,v3,rfl,rfl,hp3,ht3⟩:=hR;have hf3:=ht3 _ hf2;refine FA 177 dT cw ?_;refine SP 1 cw aq bp RecT.wp_ballot ?_;refine nx J19 (ad (PS ?_));refine CP HZ (n7 rb v3 r3) ID (λ_ d _=>(hf3).more d) (λcP HP hP=>?_) (λvR HR hR=>?_);obtain⟨vP,rfl,rfl,hpP⟩:=hP;refine aP (ax (WK [0] (aR ?_)));exact⟨_,rfl,rfl,by simp[df,e7,ff,aD hp1,aD hp2,aD hp3,bU hpP,h11,h20,h32,h37,h45, *]⟩;obtain⟨a4,r4,v4,rfl,rfl,hp4,ht4⟩:=hR;have hf4:=ht4 _ hf3;refine FA 179 dT eZ ?_;refine SP 1 eZ aI bp RecT.wp_change ?_;refine ap (af (ac J3 (sr λ_ J20=>LW 1 dT fE bp ?_)));refine SW 2 fE bp ?_;refine PS ?_;refine nx J20 (ah (RT 2 [0] dT fE (bp _) ?_));exact⟨((RecT.mk a1 0 RowT.zero a2 a3 a4 ViewT.zero),true),_,_,rfl,rfl,by simp[df,e7,ff,pr,aD hp1,aD hp2,aD hp3,aD hp4,h11,h20,h32,h37,h45,MsgT.zero,RecT.zero, *],(ht1.trans (ht2.trans (ht3.trans ht4)))⟩;refine PS ?_;refine nx J17 (CN (sr λ_ J21=>PS ?_));refine ao ?_ ?_<;>intro h56;refine PS ?_;refine nx J21 (CY (sr λ_ J22=>PS ?_));refine CP HY (qJ rb v1 r1) (SM [1]) (λ_ d _=>(hf1).more d) (λcP HP hP=>?_) (λvR HR hR=>?_);obtain⟨vP,rfl,rfl,hpP⟩:=hP;refine ax (aP (ax (WK [0] (aR ?_))));exact⟨_,rfl,rfl,by simp[df,e7,ff,aD hp1,bU hpP,h11,h20,h32,h37,h45,h56, *]⟩;obtain⟨a2,r2,v2,rfl,rfl,hp2,ht2⟩:=hR;have hf2:=ht2 _ hf1
 refine FA 182 dT be ?_;refine SP 1 be an bp RecT.wp_view ?_;refine nx J22 (aa λ_ J23=>D1 1 bf ?_);refine LY 0 dT fE bp ?_;refine FD 1 182 dT be ?_;refine ta 2 rfl (aK (vs:=ints a2.flat) rfl dS rfl be rfl (λ_ h=>h.2.1) (an a2) (OO (RecT.mk a1 0 RowT.zero 0 BallotT.zero ChangeT.zero a2) 0 rfl (by decide) (whole (an a2)))) ?_;refine AL 3 ?_;refine CE HX (mp a2 (rq hp2)) ID ?_;refine EN (AL 4 ?_);refine SW 2 fE bp ?_;refine EN (PD 5 ?_);refine DN (ac J23 (ah (aH (ae (RT 2 [0] dT fE (bp _) ?_)))));exact⟨((RecT.mk a1 0 RowT.zero 0 BallotT.zero ChangeT.zero a2),(ko a2)),_,_,rfl,rfl,by simp[df,e7,ff,pr,aD hp1,aD hp2,h11,h20,h32,h37,h45,h56,MsgT.zero,RecT.zero, *],(ht1.trans ht2)⟩;refine PS ?_;refine nx J21 (CN (aM (af (ac J3 (sr λ_ J24=>LW 0 dT fE bp ?_)))));refine SW 2 fE bp ?_;refine PS ?_;refine nx J24 (ah (RT 2 [1] dT fE (bp _) ?_));exact⟨((RecT.mk a1 0 RowT.zero 0 BallotT.zero ChangeT.zero ViewT.zero),true),_,_,rfl,rfl,by simp[df,e7,ff,pr,aD hp1,h11,h20,h32,h37,h45,h56,MsgT.zero,RecT.zero, *],ht1⟩
theorem Dx(rb mb gb:Nat)(v:Value)(bs:List UInt8)(m0:MsgT)(g0:Bool):
 DT 119 #[(.pointer (some ⟨rb,0,none⟩)),(.pointer (some ⟨mb,0,none⟩)),(.pointer (some ⟨gb,0,none⟩))] (IsB v bs) [aj rb [v] 219,aj mb (ints m0.flat) 163,aj gb [(.bool (g0))] 4] (uH (λ_ H=>∃x' r a,H=aj rb [x'] 219::[aj mb (ints a.1.flat) 163,aj gb [.bool a.2] 4]∧Tail v bs x' r∧cM bs=some (a,r)) (λc H=>c=hX∧∃(x':Value) (_:Unit),H=aj rb [x'] 219::[aj mb (ints m0.flat) 163,aj gb [.bool g0] 4]∧cM bs=none)):=by
 refine BD 9 Tryz.func119 rfl rfl rfl λw0 F hF=>ad (PS ?_)
 refine CP M0 (zz rb v bs) ID (λ_ d _=>(hF).more d) (λcP HP hP=>?_) (λvR HR hR=>?_);obtain⟨vP,rfl,rfl,hpP⟩:=hP;exact WK [0,0,0] (aR ⟨rfl,_,(),rfl,hpP⟩);obtain⟨a1,r1,v1,rfl,rfl,hp1,ht1⟩:=hR;refine P3 ?_;refine SW 1 cf aG ?_;refine S0 2 kE ?_;exact ap (WK [0,0,0] (br rfl ⟨_,_,_,rfl,ht1,hp1⟩))
theorem B9(x:Value)(bs:List UInt8):
 DT 81 #[x] (IsB x bs) [] (RI (.tuple #[.agg (ints (jr bs).1.flat).toArray, .int .i64 (jr bs).2]) []):=by
 refine Leg.Does.body (vs:=[x]) (n:=18) Tryz.func81 rfl rfl rfl (λw0 F hF=>?_);refine sr λ_ J1=>?_
 refine lA (ab rfl) rfl rfl rfl lX (λb2=>?_);change TL _ _ _ _ _ _ _ _ _ [aj b2 (ints MsgT.zero.flat) 163];refine lc ?_;refine nx J1 ?_;clear J1;refine sr λ_ J2=>?_
 refine lA (ab rfl) rfl rfl rfl lX (λb4=>?_);change TL _ _ _ _ _ _ _ _ _ [aj b4 (ints MsgT.zero.flat) 163,aj b2 (ints MsgT.zero.flat) 163];refine nx J2 ?_;clear J2;refine sr λ_ J3=>?_
 refine lA (ab rfl) rfl rfl rfl z4 (λb5=>?_);refine bB (i:=0) (ab rfl) rfl rfl rfl rfl rfl kE rfl rfl (lb rfl) rfl rfl ?_;refine nx J3 ?_;clear J3;refine sr λ_ J4=>?_
 refine mv ?_;refine tp (OY rfl rfl) ?_;refine dM (ab rfl) rfl rfl rfl Ku rfl (yo (bs:=bs) (C:=[aj b4 (ints MsgT.zero.flat) 163,aj b5 [(.bool false)] 4]) (caps:=[(.pointer (some ⟨b4,0,none⟩)),(.pointer (some ⟨b5,0,none⟩))]) (A:=λa:MsgT×Bool=>[aj b4 (ints a.1.flat) 163,aj b5 [.bool a.2] 4]) (G:=λ_:Unit=>[aj b4 (ints MsgT.zero.flat) 163,aj b5 [(.bool false)] 4]) (φ:=λa r=>cM bs=some (a,r)) (ψ:=λ_=>cM bs=none) (λ_ h=>h) (λ_ _ h d=>h.more d) M1 (λrb=>Dx rb b4 b5 x bs MsgT.zero false)) (λ_ s=>aA [1,0] rfl s) (λ_ d _=>(hF).more d) (λvR HR hR=>?_);rcases hR with⟨r,⟨m,g⟩,rfl,rfl,hs⟩| ⟨_,rfl,rfl,hs⟩
 refine ao (λh9=>?_) (λh9=>?_);refine lc ?_;refine nx J4 ?_;clear J4;refine aa λ_ J5=>?_
 refine sr λ_ J6=>?_
 refine mv ?_;refine tp (nO (r:=false) rfl rfl rfl) ?_;refine mv ?_;refine tq (ek (v:=(.bool (g))) rfl Y4 rfl rfl (du 1 rfl rfl) rfl) ?_;refine bc (λh13=>?_) (λh13=>?_);refine tq (nO (r:=false) rfl rfl rfl) ?_;refine tp (xS rfl rfl rfl) ?_;refine nx J6 ?_;clear J6;refine nN rfl ?_;refine aM ?_;refine ac J5 ?_;clear J5;refine sr λ_ J7=>?_
 refine tp (aK (vs:=ints m.flat) rfl bd rfl cf rfl (du 0 rfl rfl) (aG m) (whole (aG m))) ?_;refine bL (vs:=ints m.flat) (i:=2) (ab rfl) rfl rfl rfl rfl rfl (by rw[(aG m)];exact cf) (bm _) rfl rfl (by have h0:=(aG MsgT.zero);have h1:=(aG m);omega) (cg ((aG MsgT.zero).trans (aG m).symm)) rfl ?_;refine lc ?_;refine nx J7 ?_;clear J7;refine ah ?_;refine lB (H':=[]) rfl rfl rfl bd rfl cf (du 2 rfl rfl) (aG m) (λ_ s=>ak [] rfl s) ?_;exact⟨by simp[jr, *],rfl⟩;refine tq (nO (r:=true) rfl rfl rfl) ?_;refine tp (xS rfl rfl rfl) ?_;refine nx J6 ?_;clear J6;refine jD rfl ?_;refine sr λ_ J8=>?_
 refine tp (jF (cells:=(ints MsgT.zero.flat).toArray) rfl rfl (by as_aux_lemma=>kernel_rfl)) ?_;refine bL (vs:=ints MsgT.zero.flat) (i:=2) (ab rfl) rfl rfl rfl rfl rfl (by rw[(aG MsgT.zero)];exact cf) (bm _) rfl rfl (by have h0:=(aG MsgT.zero);have h1:=(aG MsgT.zero);omega) (cg ((aG MsgT.zero).trans (aG MsgT.zero).symm)) rfl ?_;refine lc ?_;refine nx J8 ?_;clear J8;refine ah ?_;refine ae ?_;clear J5;refine lB (H':=[]) rfl rfl rfl bd rfl cf (du 2 rfl rfl) (aG MsgT.zero) (λ_ s=>ak [] rfl s) ?_;exact⟨by simp[jr, *],rfl⟩;refine lc ?_;refine nx J4 ?_;clear J4;refine aa λ_ J9=>?_
 refine sr λ_ J10=>?_
 refine mv ?_;refine tp (nO (r:=true) rfl rfl rfl) ?_;refine mv ?_;refine pQ (b:=true) rfl rfl rfl rfl (lb rfl) ?_;refine pQ (b:=true) rfl rfl rfl rfl (lb rfl) ?_;refine tp (xS rfl rfl rfl) ?_;refine nx J10 ?_;clear J10;refine jD rfl ?_;refine sr λ_ J11=>?_
 refine tp (jF (cells:=(ints MsgT.zero.flat).toArray) rfl rfl (by as_aux_lemma=>kernel_rfl)) ?_;refine bL (vs:=ints MsgT.zero.flat) (i:=2) (ab rfl) rfl rfl rfl rfl rfl (by rw[(aG MsgT.zero)];exact cf) (bm _) rfl rfl (by have h0:=(aG MsgT.zero);have h1:=(aG MsgT.zero);omega) (cg ((aG MsgT.zero).trans (aG MsgT.zero).symm)) rfl ?_;refine lc ?_;refine nx J11 ?_;clear J11;refine ah ?_;refine ae ?_;clear J9;refine lB (H':=[]) rfl rfl rfl bd rfl cf (du 2 rfl rfl) (aG MsgT.zero) (λ_ s=>ak [] rfl s) ?_;exact⟨by simp[jr, *],rfl⟩;refine lc ?_;refine nx J4 ?_;clear J4;refine aa λ_ J12=>?_
 refine sr λ_ J13=>?_
 refine mv ?_;refine tp (nO (r:=true) rfl rfl rfl) ?_;refine mv ?_;refine pQ (b:=true) rfl rfl rfl rfl (lb rfl) ?_;refine pQ (b:=true) rfl rfl rfl rfl (lb rfl) ?_;refine tp (xS rfl rfl rfl) ?_;refine nx J13 ?_;clear J13;refine jD rfl ?_;refine sr λ_ J14=>?_
 refine tp (jF (cells:=(ints MsgT.zero.flat).toArray) rfl rfl (by as_aux_lemma=>kernel_rfl)) ?_;refine bL (vs:=ints MsgT.zero.flat) (i:=2) (ab rfl) rfl rfl rfl rfl rfl (by rw[(aG MsgT.zero)];exact cf) (bm _) rfl rfl (by have h0:=(aG MsgT.zero);have h1:=(aG MsgT.zero);omega) (cg ((aG MsgT.zero).trans (aG MsgT.zero).symm)) rfl ?_;refine lc ?_;refine nx J14 ?_;clear J14;refine ah ?_;refine ae ?_;clear J12;refine lB (H':=[]) rfl rfl rfl bd rfl cf (du 2 rfl rfl) (aG MsgT.zero) (λ_ s=>ak [] rfl s) ?_;exact⟨by simp[jr, *],rfl⟩
theorem FQ(rb mb gb:Nat)(v:Value)(bs:List UInt8)(m0:RecT)(g0:Bool):
 DT 106 #[(.pointer (some ⟨rb,0,none⟩)),(.pointer (some ⟨mb,0,none⟩)),(.pointer (some ⟨gb,0,none⟩))] (IsB v bs) [aj rb [v] 219,aj mb (ints m0.flat) 146,aj gb [(.bool (g0))] 4] (uH (λ_ H=>∃x' r a,H=aj rb [x'] 219::[aj mb (ints a.1.flat) 146,aj gb [.bool a.2] 4]∧Tail v bs x' r∧df bs=some (a,r)) (λc H=>c=hX∧∃(x':Value) (_:Unit),H=aj rb [x'] 219::[aj mb (ints m0.flat) 146,aj gb [.bool g0] 4]∧df bs=none)):=by
 refine BD 9 Tryz.func106 rfl rfl rfl λw0 F hF=>ad (PS ?_)
 refine CP M6 (zy rb v bs) ID (λ_ d _=>(hF).more d) (λcP HP hP=>?_) (λvR HR hR=>?_);obtain⟨vP,rfl,rfl,hpP⟩:=hP;exact WK [0,0,0] (aR ⟨rfl,_,(),rfl,hpP⟩);obtain⟨a1,r1,v1,rfl,rfl,hp1,ht1⟩:=hR;refine P3 ?_;refine SW 1 fE bp ?_;refine S0 2 kE ?_;exact ap (WK [0,0,0] (br rfl ⟨_,_,_,rfl,ht1,hp1⟩))
theorem ux(x:Value)(bs:List UInt8):
 DT 68 #[x] (IsB x bs) [] (RI (.tuple #[.agg (ints (nI bs).1.flat).toArray, .int .i64 (nI bs).2]) []):=by
 refine Leg.Does.body (vs:=[x]) (n:=18) Tryz.func68 rfl rfl rfl (λw0 F hF=>?_);refine sr λ_ J1=>?_
 refine lA (ab rfl) rfl rfl rfl G0 (λb2=>?_);change TL _ _ _ _ _ _ _ _ _ [aj b2 (ints RecT.zero.flat) 146];refine lc ?_;refine nx J1 ?_;clear J1;refine sr λ_ J2=>?_
 refine lA (ab rfl) rfl rfl rfl G0 (λb4=>?_);change TL _ _ _ _ _ _ _ _ _ [aj b4 (ints RecT.zero.flat) 146,aj b2 (ints RecT.zero.flat) 146];refine nx J2 ?_;clear J2;refine sr λ_ J3=>?_
 refine lA (ab rfl) rfl rfl rfl z4 (λb5=>?_);refine bB (i:=0) (ab rfl) rfl rfl rfl rfl rfl kE rfl rfl (lb rfl) rfl rfl ?_;refine nx J3 ?_;clear J3;refine sr λ_ J4=>?_
 refine mv ?_;refine tp (OY rfl rfl) ?_;refine dM (ab rfl) rfl rfl rfl Ku rfl (yo (bs:=bs) (C:=[aj b4 (ints RecT.zero.flat) 146,aj b5 [(.bool false)] 4]) (caps:=[(.pointer (some ⟨b4,0,none⟩)),(.pointer (some ⟨b5,0,none⟩))]) (A:=λa:RecT×Bool=>[aj b4 (ints a.1.flat) 146,aj b5 [.bool a.2] 4]) (G:=λ_:Unit=>[aj b4 (ints RecT.zero.flat) 146,aj b5 [(.bool false)] 4]) (φ:=λa r=>df bs=some (a,r)) (ψ:=λ_=>df bs=none) (λ_ h=>h) (λ_ _ h d=>h.more d) M7 (λrb=>FQ rb b4 b5 x bs RecT.zero false)) (λ_ s=>aA [1,0] rfl s) (λ_ d _=>(hF).more d) (λvR HR hR=>?_);rcases hR with⟨r,⟨m,g⟩,rfl,rfl,hs⟩| ⟨_,rfl,rfl,hs⟩
 refine ao (λh9=>?_) (λh9=>?_);refine lc ?_;refine nx J4 ?_;clear J4;refine aa λ_ J5=>?_
 refine sr λ_ J6=>?_
 refine mv ?_;refine tp (nO (r:=false) rfl rfl rfl) ?_;refine mv ?_;refine tq (ek (v:=(.bool (g))) rfl Y4 rfl rfl (du 1 rfl rfl) rfl) ?_;refine bc (λh13=>?_) (λh13=>?_);refine tq (nO (r:=false) rfl rfl rfl) ?_;refine tp (xS rfl rfl rfl) ?_;refine nx J6 ?_;clear J6;refine nN rfl ?_;refine aM ?_;refine ac J5 ?_;clear J5;refine sr λ_ J7=>?_
 refine tp (aK (vs:=ints m.flat) rfl dT rfl fE rfl (du 0 rfl rfl) (bp m) (whole (bp m))) ?_;refine bL (vs:=ints m.flat) (i:=2) (ab rfl) rfl rfl rfl rfl rfl (by rw[(bp m)];exact fE) (bm _) rfl rfl (by have h0:=(bp RecT.zero);have h1:=(bp m);omega) (cg ((bp RecT.zero).trans (bp m).symm)) rfl ?_;refine lc ?_;refine nx J7 ?_;clear J7;refine ah ?_;refine lB (H':=[]) rfl rfl rfl dT rfl fE (du 2 rfl rfl) (bp m) (λ_ s=>ak [] rfl s) ?_;exact⟨by simp[nI, *],rfl⟩;refine tq (nO (r:=true) rfl rfl rfl) ?_;refine tp (xS rfl rfl rfl) ?_;refine nx J6 ?_;clear J6;refine jD rfl ?_;refine sr λ_ J8=>?_
 refine tp (jF (cells:=(ints RecT.zero.flat).toArray) rfl rfl (by as_aux_lemma=>kernel_rfl)) ?_;refine bL (vs:=ints RecT.zero.flat) (i:=2) (ab rfl) rfl rfl rfl rfl rfl (by rw[(bp RecT.zero)];exact fE) (bm _) rfl rfl (by have h0:=(bp RecT.zero);have h1:=(bp RecT.zero);omega) (cg ((bp RecT.zero).trans (bp RecT.zero).symm)) rfl ?_;refine lc ?_;refine nx J8 ?_;clear J8;refine ah ?_;refine ae ?_;clear J5;refine lB (H':=[]) rfl rfl rfl dT rfl fE (du 2 rfl rfl) (bp RecT.zero) (λ_ s=>ak [] rfl s) ?_;exact⟨by simp[nI, *],rfl⟩;refine lc ?_;refine nx J4 ?_;clear J4;refine aa λ_ J9=>?_
 refine sr λ_ J10=>?_
 refine mv ?_;refine tp (nO (r:=true) rfl rfl rfl) ?_;refine mv ?_;refine pQ (b:=true) rfl rfl rfl rfl (lb rfl) ?_;refine pQ (b:=true) rfl rfl rfl rfl (lb rfl) ?_;refine tp (xS rfl rfl rfl) ?_;refine nx J10 ?_;clear J10;refine jD rfl ?_;refine sr λ_ J11=>?_
 refine tp (jF (cells:=(ints RecT.zero.flat).toArray) rfl rfl (by as_aux_lemma=>kernel_rfl)) ?_;refine bL (vs:=ints RecT.zero.flat) (i:=2) (ab rfl) rfl rfl rfl rfl rfl (by rw[(bp RecT.zero)];exact fE) (bm _) rfl rfl (by have h0:=(bp RecT.zero);have h1:=(bp RecT.zero);omega) (cg ((bp RecT.zero).trans (bp RecT.zero).symm)) rfl ?_;refine lc ?_;refine nx J11 ?_;clear J11;refine ah ?_;refine ae ?_;clear J9;refine lB (H':=[]) rfl rfl rfl dT rfl fE (du 2 rfl rfl) (bp RecT.zero) (λ_ s=>ak [] rfl s) ?_;exact⟨by simp[nI, *],rfl⟩;refine lc ?_;refine nx J4 ?_;clear J4;refine aa λ_ J12=>?_
 refine sr λ_ J13=>?_
 refine mv ?_;refine tp (nO (r:=true) rfl rfl rfl) ?_;refine mv ?_;refine pQ (b:=true) rfl rfl rfl rfl (lb rfl) ?_;refine pQ (b:=true) rfl rfl rfl rfl (lb rfl) ?_;refine tp (xS rfl rfl rfl) ?_;refine nx J13 ?_;clear J13;refine jD rfl ?_;refine sr λ_ J14=>?_
 refine tp (jF (cells:=(ints RecT.zero.flat).toArray) rfl rfl (by as_aux_lemma=>kernel_rfl)) ?_;refine bL (vs:=ints RecT.zero.flat) (i:=2) (ab rfl) rfl rfl rfl rfl rfl (by rw[(bp RecT.zero)];exact fE) (bm _) rfl rfl (by have h0:=(bp RecT.zero);have h1:=(bp RecT.zero);omega) (cg ((bp RecT.zero).trans (bp RecT.zero).symm)) rfl ?_;refine lc ?_;refine nx J14 ?_;clear J14;refine ah ?_;refine ae ?_;clear J12;refine lB (H':=[]) rfl rfl rfl dT rfl fE (du 2 rfl rfl) (bp RecT.zero) (λ_ s=>ak [] rfl s) ?_;exact⟨by simp[nI, *],rfl⟩
end Go.Proofs.YtfocodjhmkokpaaGreatDoor
end
