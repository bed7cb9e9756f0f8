/-
  Joined texts:what a statement's proof reaches.
-/
import Derived.Test.YtkhjnolhhidecaaGreatDoorPWL3
set_option maxHeartbeats 8000000
set_option maxRecDepth 100000
set_option linter.unusedSimpArgs false
set_option linter.unusedVariables false
section
namespace Go.Proofs.YtkhjnolhhidecaaGreatDoor
open Go Leg Codec Api Dsk Wal
theorem GL(x:Value)(ps:List (List UInt8)):
 DT 171 #[x] (P9 x ps) [] (RI (.int .u32 (gI ps.flatten)) []):=by
 refine BD 39 Tryz.func171 rfl rfl rfl λw0 F hF=>sr λ_ J1=>PS ?_
 refine nx J1 (sr λ_ J2=>PS ?_);refine nx J2 (aa λ_ J3=>sr λ_ J4=>PS ?_);refine tp (dL rfl wx rfl hF.len) ?_;refine PS ?_;refine nx J4 (am ?_)
 refine bG (α:=(Nat)) (λk=>k≤ps.length) (λk=>[(2,(.int .u32 0)),(3,(.int .u32 (fS 4294967295 (ps.take k).flatten))),(8,x),(9,(.int .i64 (((ps.length:Nat):Int)))),(10,(.int .i64 (((k:Nat):Int))))]) (λk=>[]) (λk=>ps.length-k) 0
  (aO _) SB
  (λ_ s=>s) (λk hinv=>?_)
 obtain hk:=hinv;refine sr λ_ J5=>PS ?_
 refine ap ?_ ?_<;>intro h11;obtain⟨b_a,off_a,cap_a,cs_a,T_a,z_a,us_a,hv_a,hc_a,hb_a,hl_a,hs_a,hE_a⟩:=IsL.at hF (j:=k) (by omega);obtain⟨u_a,rfl,hu_a⟩:=hE_a;refine nx J5 (aa λ_ J6=>CY (qx J6 (aa λ_ J7=>am (sr λ_ J8=>tp (bn (r:=off_a+k) hv_a rfl wx lC rfl rfl (by omega) (by omega) (by omega)) ?_))));refine tp (cj (v:=u_a) rfl fM rfl rfl (jX hb_a (λ_ h=>fB h)) (by have:=Cu (j:=0) hs_a rfl;simpa using this)) ?_;refine PS ?_;refine nx J8 (sr λ_ J9=>PS ?_);refine tp (dL rfl fM rfl hu_a.len) ?_;refine PS ?_;refine nx J9 (am ?_)
 refine bG (α:=(Nat)) (λj=>j≤ps[k].length) (λj=>[(2,(.int .u32 0)),(3,(.int .u32 (fS (fS 4294967295 (ps.take k).flatten) (ps[k].take j)))),(8,x),(9,(.int .i64 (((ps.length:Nat):Int)))),(10,(.int .i64 (((k:Nat):Int)))),(14,u_a),(15,(.int .i64 (((ps[k].length:Nat):Int)))),(16,(.int .i64 (((j:Nat):Int))))]) (λj=>[]) (λj=>ps[k].length-j) 0
  (aO _) SB
  (λ_ s=>s) (λj hinv=>?_)
 obtain hj:=hinv;refine sr λ_ J10=>PS ?_
 refine ap ?_ ?_<;>intro h17;obtain⟨b_b,off_b,cap_b,cs_b,T_b,z_b,hv_b,hb_b,hcs_b,hcp_b⟩:=IsW.at hu_a (j:=j) (by omega);have hlt_b:=IsW.lt hu_a;refine nx J10 (aa λ_ J11=>CY (qx J11 (aa λ_ J12=>am (sr λ_ J13=>tp (bn (r:=off_b+j) hv_b rfl fM kx rfl rfl (by omega) (by omega) (by omega)) ?_))));refine tp (cj (v:=(.int .u8 (((((ps[k]).getD j 0).toNat:Nat):Int)))) rfl Y5 rfl rfl (jX hb_b (λ_ h=>fB h)) (hcs_b j (by omega))) ?_;refine PS ?_;refine nx J13 (sr λ_ J14=>P2 ?_);refine tp (cD (r:=((((ps[k]).getD j 0).toNat:Nat):Int)) rfl Y5 BX rfl (lu (by omega) (by have:=(ps[k].getD j 0).toNat_lt;omega))) ?_;refine tp (PV.xor (r:=qj .u32 (fS (fS 4294967295 (ps.take k).flatten) (ps[k].take j)) (((((ps[k]).getD j 0).toNat:Nat):Int))) rfl rfl rfl rfl) ?_;refine PS ?_;refine nx J14 (sr λ_ J15=>PS ?_);refine nx J15 (am ?_)
 refine bG (α:=(Nat)) (λi=>i≤8) (λi=>[(2,(.int .u32 0)),(3,(.int .u32 (np (qj .u32 (fS (fS 4294967295 (ps.take k).flatten) (ps[k].take j)) ((((ps[k]).getD j 0).toNat:Nat):Int)) i))),(8,x),(9,(.int .i64 (((ps.length:Nat):Int)))),(10,(.int .i64 (((k:Nat):Int)))),(14,u_a),(15,(.int .i64 (((ps[k].length:Nat):Int)))),(16,(.int .i64 (((j:Nat):Int)))),(24,(.int .i64 (((i:Nat):Int))))]) (λi=>[]) (λi=>8-i) 0
  (aO _) SB
  (λ_ s=>s) (λi hinv=>?_)
 obtain hi:=hinv;refine sr λ_ J16=>PS ?_
 refine ap ?_ ?_<;>intro h25;refine nx J16 (aa λ_ J17=>CY (qx J17 (aa λ_ J18=>am (sr λ_ J19=>PS ?_))));refine tp (jw (r:=rD .u32 (np (qj .u32 (fS (fS 4294967295 (ps.take k).flatten) (ps[k].take j)) ((((ps[k]).getD j 0).toNat:Nat):Int)) i) 1) rfl rfl rfl rfl) ?_;refine PS ?_;refine ap ?_ ?_<;>intro h28;refine nx J19 (CY (ac (PS ?_)));refine tp (iA (r:=(np (qj .u32 (fS (fS 4294967295 (ps.take k).flatten) (ps[k].take j)) ((((ps[k]).getD j 0).toNat:Nat):Int)) i).fdiv 2) rfl rfl rfl (by omega) rfl) ?_;refine tp (PV.xor (r:=qj .u32 ((np (qj .u32 (fS (fS 4294967295 (ps.take k).flatten) (ps[k].take j)) ((((ps[k]).getD j 0).toNat:Nat):Int)) i).fdiv 2) 3988292384) rfl rfl rfl rfl) ?_;refine PS ?_;refine au (af (ad J18 (ac (AD ?_))));refine PS ?_;refine au ?_
 exact aL ((i+1):(Nat)) (by omega) (by show 8- (i+1)<8-i;omega)
  (aX (bM rfl (congrArg (Value.int .u32) (by rw[np,F8,if_pos h28])) SB))
  (λ_ s=>s)
 refine nx J19 (CN (ac (PS ?_)));refine tp (iA (r:=(np (qj .u32 (fS (fS 4294967295 (ps.take k).flatten) (ps[k].take j)) ((((ps[k]).getD j 0).toNat:Nat):Int)) i).fdiv 2) rfl rfl rfl (by omega) rfl) ?_;refine PS ?_;refine au (af (ad J18 (ac (AD ?_))));refine PS ?_;refine au ?_
 exact aL ((i+1):(Nat)) (by omega) (by show 8- (i+1)<8-i;omega)
  (aX (bM rfl (congrArg (Value.int .u32) (by rw[np,F8,if_neg h28])) SB))
  (λ_ s=>s)
 refine nx J16 (aa λ_ J20=>CN (aW (aA (aA (br (af (ad J12 (ac (AD ?_)))))))));refine PS ?_;refine au ?_
 exact aL ((j+1):(Nat)) (by omega) (by show ps[k].length- (j+1)<ps[k].length-j;omega)
  (aX (bM rfl (congrArg (Value.int .u32) (by obtain rfl:i=8:=(by omega);rw[Eh (by omega)];rfl)) SB))
  (λ_ s=>s)
 refine nx J10 (aa λ_ J21=>CN (aW (aA (aA (br (af (ad J7 (ac (AD ?_)))))))));refine PS ?_;refine au ?_
 exact aL ((k+1):(Nat)) (by omega) (by show ps.length- (k+1)<ps.length-k;omega)
  (aX (bM rfl (congrArg (Value.int .u32) (by rw[show j=ps[k].length by omega,gA,Ei (by omega)])) SB))
  (λ_ s=>s)
 refine nx J5 (aa λ_ J22=>CN (aW (aA (aA (br (ad J3 (sr λ_ J23=>PS ?_)))))));refine tp (PV.com (r:=qj .u32 4294967295 (fS 4294967295 (ps.take k).flatten)) rfl rfl rfl) ?_;refine PS ?_;refine nx J23 (ah (WK [] (aw rfl rfl ?_)));obtain rfl:k=ps.length:=by omega
 rw[gA];exact⟨rfl,rfl⟩
theorem vu(x:Value)(bs:List UInt8)(hb:bs.length≤1000000000):
 DT 178 #[x] (IsW x bs) [] (dD (λv H=>H=[cI v (qE bs) 5])):=by
 refine BD 29 Tryz.func178 rfl rfl rfl λw0 F hF=>sr λ_ J1=>PS ?_
 refine nx J1 (sr λ_ J2=>PS ?_);refine aM (cells:=#[x]) (ab rfl) rfl rfl rfl wx Iy rfl rfl rfl (tV hF.one (by simp)) (λb6=>CF MY (GL (.slice (some ⟨b6,0,none⟩) (1) (1)) [bs]) ID (DR hF 0 rfl rfl) ?_);rw[show [bs].flatten=bs by simp];refine PS ?_;refine nx J2 (sr λ_ J3=>PS ?_);refine tp (dL rfl fM rfl hF.len) ?_;refine AD ?_;refine TL.makeB (0) (bs.length+4) (ab rfl) rfl rfl rfl fM ut rfl rfl rfl (by omega) (by omega) (by omega) (λb11=>cr (H':=[cI (.slice (some ⟨b11,0,none⟩) 0 (bs.length+4)) ([]) 5,aj b6 [x] 47]) (λ_ s=>tu 0 rfl rfl (by omega) (by simp only[maxLen];omega) (by simp[dU]) rfl s) (PS ?_));refine nx J3 (sr λ_ J4=>P2 ?_);refine bX (k:=0) (news:=dU (bs)) (nn':=(bs:List UInt8).length) (xs':=dU (bs)) (ab rfl) rfl rfl rfl fM ut rfl rfl rfl rfl rfl rfl (λ_ _=>hF.src (λ_ h=>fB h)) (e9 _) (by simp only[maxLen,az];omega) (by simp only[az];omega) (by simp) (ba _) (λv14 ov14=>PS ?_);refine nx J4 (sr λ_ J5=>P2 ?_);refine tp (cD (r:=(((r8 (gI bs)).toNat:Nat):Int)) rfl BX Y5 rfl (r8_wrap _)) ?_;refine PS ?_;refine tp (iA (r:=(gI bs).fdiv 256) rfl rfl rfl (by omega) rfl) ?_;refine tp (cD (r:=(((r8 ((gI bs).fdiv 256)).toNat:Nat):Int)) rfl BX Y5 rfl (r8_wrap _)) ?_;refine PS ?_;refine tp (iA (r:=(gI bs).fdiv 65536) rfl rfl rfl (by omega) rfl) ?_;refine tp (cD (r:=(((r8 ((gI bs).fdiv 65536)).toNat:Nat):Int)) rfl BX Y5 rfl (r8_wrap _)) ?_;refine PS ?_
 refine tp (iA (r:=(gI bs).fdiv 16777216) rfl rfl rfl (by omega) rfl) ?_;refine tp (cD (r:=(((r8 ((gI bs).fdiv 16777216)).toNat:Nat):Int)) rfl BX Y5 rfl (r8_wrap _)) ?_;refine aM (cells:=#[(.int .u8 ((((r8 (gI bs)).toNat:Nat):Int))),(.int .u8 ((((r8 ((gI bs).fdiv 256)).toNat:Nat):Int))),(.int .u8 ((((r8 ((gI bs).fdiv 65536)).toNat:Nat):Int))),(.int .u8 ((((r8 ((gI bs).fdiv 16777216)).toNat:Nat):Int)))]) (ab rfl) rfl rfl rfl fM ut rfl rfl rfl (by as_aux_lemma=>kernel_rfl) (λb27=>bX (k:=1) (news:=dU ([(r8 (gI bs)),(r8 ((gI bs).fdiv 256)),(r8 ((gI bs).fdiv 65536)),(r8 ((gI bs).fdiv 16777216))])) (nn':=(bs++[(r8 (gI bs)),(r8 ((gI bs).fdiv 256)),(r8 ((gI bs).fdiv 65536)),(r8 ((gI bs).fdiv 16777216))]:List UInt8).length) (xs':=dU (bs++[(r8 (gI bs)),(r8 ((gI bs).fdiv 256)),(r8 ((gI bs).fdiv 65536)),(r8 ((gI bs).fdiv 16777216))])) (ab rfl) rfl rfl rfl fM ut rfl rfl rfl rfl rfl rfl (λ_ _=>gl rfl (RO 0) rfl) (e9 [(r8 (gI bs)),(r8 ((gI bs).fdiv 256)),(r8 ((gI bs).fdiv 65536)),(r8 ((gI bs).fdiv 16777216))]) (by simp only[maxLen];omega) (by omega) (by simp) (gC _ _).symm (λv28 ov28=>PS ?_));exact nx J5 (ah (WK [1] (aw rfl rfl rfl)))
theorem Hu(a:Option Addr)(c:Nat)(bs:List UInt8)(hc:bs.length≤c)(hb:bs.length≤1000000000):
 DT 148 #[(.slice a bs.length c)] (IsW (.slice a bs.length c) bs) [] (dD (λv H=>(nF bs=none∧v= .tuple #[.slice none 0 0, .bool false]∧H=[])∨∃t u,nF bs=some t∧v= .tuple #[u, .bool true]∧H=[cI u t 5])):=by
 refine BD 50 Tryz.func148 rfl rfl rfl λw0 F hF=>sr λ_ J1=>P2 ?_
 refine nx J1 (aa λ_ J2=>sr λ_ J3=>PS ?_);refine tp (dL rfl fM rfl ⟨_,_,rfl⟩) ?_;refine PS ?_;refine ap ?_ ?_<;>intro h9;refine nx J3 (CY (sr λ_ J4=>P2 ?_));refine nx J4 (ah (ae (WK [] (ix rfl rfl rfl ?_))));exact .inl ⟨by rw[nF,if_pos (by omega)],rfl,rfl⟩;have hT:IsW (kG (.slice a bs.length c) 0 (bs.length-4)) (bs.take (bs.length-4)) F:=by have:=hF.cut (lo:=0) (hi:=bs.length-4) (by omega) (by omega);simpa using this
 have hU:IsW (kG (.slice a bs.length c) (bs.length-4) bs.length) (bs.drop (bs.length-4)) F:=by have:=hF.cut (lo:=bs.length-4) (hi:=bs.length) (by omega) (by omega);rwa [gA]at this
 have hq:(bs.drop (bs.length-4)).length=4:=by rw[bV];omega
 obtain⟨b_b,off_b,cap_b,cs_b,T_b,z_b,hv_b,hb_b,hcs_b,hcp_b⟩:=IsW.at hU (j:=0) (by omega);have hlt_b:=IsW.lt hU;refine nx J3 (CN (qx J2 (aa λ_ J5=>D0 de ?_)));refine PD 0 ?_;refine PD 1 ?_;refine ta 2 rfl (dL rfl fM rfl ⟨_,_,rfl⟩) ?_;refine ta 3 rfl (jj (r:=(((bs.length-4:Nat):Nat):Int)) rfl rfl rfl (by rw[show(((bs.length:Nat):Int)-4)=((bs.length-4:Nat):Int)by omega];exact bK (by omega) (by omega))) ?_;refine ta 4 rfl (PV.sliceH (hi:=bs.length-4) rfl fM kx rfl rfl rfl (by omega)) ?_;refine PD 5 ?_;refine PD 6 ?_;refine ta 7 rfl (dL rfl fM rfl ⟨_,_,rfl⟩) ?_;refine ta 8 rfl (jj (r:=(((bs.length-4:Nat):Nat):Int)) rfl rfl rfl (by rw[show(((bs.length:Nat):Int)-4)=((bs.length-4:Nat):Int)by omega];exact bK (by omega) (by omega))) ?_;refine ta 9 rfl (PV.sliceL (lo:=bs.length-4) rfl fM kx rfl rfl rfl (by omega)) ?_;refine PD 10 ?_;refine PD 11 ?_;refine DN (ad J5 (aa λ_ J6=>D0 de ?_));refine PD 0 ?_;refine ta 1 rfl (bn (r:=off_b) hv_b rfl fM kx rfl rfl (by omega) (by omega) (by omega)) ?_;refine ta 2 rfl (cj (v:=(.int .u8 ((((((bs.drop (bs.length-4))).getD 0 0).toNat:Nat):Int)))) rfl Y5 rfl rfl (jX hb_b (λ_ h=>h.1)) (hcs_b 0 (by omega))) ?_;refine ta 3 rfl (cD (r:=(((((bs.drop (bs.length-4))).getD 0 0).toNat:Nat):Int)) rfl Y5 BX rfl (lu (by omega) (by have:=UInt8.toNat_lt (n:=(bs.drop (bs.length-4)).getD 0 0);omega))) ?_;refine PD 4 ?_
 refine ta 5 rfl (bn (r:=off_b+1) hv_b rfl fM kx rfl rfl (by omega) (by omega) (by omega)) ?_;refine ta 6 rfl (cj (v:=(.int .u8 ((((((bs.drop (bs.length-4))).getD 1 0).toNat:Nat):Int)))) rfl Y5 rfl rfl (jX hb_b (λ_ h=>h.1)) (hcs_b 1 (by omega))) ?_;refine ta 7 rfl (cD (r:=(((((bs.drop (bs.length-4))).getD 1 0).toNat:Nat):Int)) rfl Y5 BX rfl (lu (by omega) (by have:=UInt8.toNat_lt (n:=(bs.drop (bs.length-4)).getD 1 0);omega))) ?_;refine ta 8 rfl (wC (r:=IntKind.u32.wrap ((((((bs.drop (bs.length-4))).getD 1 0).toNat:Nat):Int)*2^8)) rfl rfl rfl (by omega) rfl) ?_;refine ta 9 rfl (Hd (r:=iN .u32 (((((bs.drop (bs.length-4))).getD 0 0).toNat:Nat):Int) (IntKind.u32.wrap ((((((bs.drop (bs.length-4))).getD 1 0).toNat:Nat):Int)*2^8))) rfl rfl rfl rfl) ?_;refine PD 10 ?_;refine ta 11 rfl (bn (r:=off_b+2) hv_b rfl fM kx rfl rfl (by omega) (by omega) (by omega)) ?_;refine ta 12 rfl (cj (v:=(.int .u8 ((((((bs.drop (bs.length-4))).getD 2 0).toNat:Nat):Int)))) rfl Y5 rfl rfl (jX hb_b (λ_ h=>h.1)) (hcs_b 2 (by omega))) ?_;refine ta 13 rfl (cD (r:=(((((bs.drop (bs.length-4))).getD 2 0).toNat:Nat):Int)) rfl Y5 BX rfl (lu (by omega) (by have:=UInt8.toNat_lt (n:=(bs.drop (bs.length-4)).getD 2 0);omega))) ?_;refine ta 14 rfl (wC (r:=IntKind.u32.wrap ((((((bs.drop (bs.length-4))).getD 2 0).toNat:Nat):Int)*2^16)) rfl rfl rfl (by omega) rfl) ?_
 refine ta 15 rfl (Hd (r:=iN .u32 (iN .u32 (((((bs.drop (bs.length-4))).getD 0 0).toNat:Nat):Int) (IntKind.u32.wrap ((((((bs.drop (bs.length-4))).getD 1 0).toNat:Nat):Int)*2^8))) (IntKind.u32.wrap ((((((bs.drop (bs.length-4))).getD 2 0).toNat:Nat):Int)*2^16))) rfl rfl rfl rfl) ?_;refine PD 16 ?_;refine ta 17 rfl (bn (r:=off_b+3) hv_b rfl fM kx rfl rfl (by omega) (by omega) (by omega)) ?_;refine ta 18 rfl (cj (v:=(.int .u8 ((((((bs.drop (bs.length-4))).getD 3 0).toNat:Nat):Int)))) rfl Y5 rfl rfl (jX hb_b (λ_ h=>h.1)) (hcs_b 3 (by omega))) ?_;refine ta 19 rfl (cD (r:=(((((bs.drop (bs.length-4))).getD 3 0).toNat:Nat):Int)) rfl Y5 BX rfl (lu (by omega) (by have:=UInt8.toNat_lt (n:=(bs.drop (bs.length-4)).getD 3 0);omega))) ?_;refine ta 20 rfl (wC (r:=IntKind.u32.wrap ((((((bs.drop (bs.length-4))).getD 3 0).toNat:Nat):Int)*2^24)) rfl rfl rfl (by omega) rfl) ?_;refine ta 21 rfl (Hd (r:=Kq ((bs.drop (bs.length-4)).getD 0 0) ((bs.drop (bs.length-4)).getD 1 0) ((bs.drop (bs.length-4)).getD 2 0) ((bs.drop (bs.length-4)).getD 3 0)) rfl rfl rfl rfl) ?_;refine PD 22 ?_;refine DN (ad J6 (aa λ_ J7=>sr λ_ J8=>PS ?_));refine aM (cells:=#[(kG (.slice a bs.length c) 0 (bs.length-4))]) (ab rfl) rfl rfl rfl wx Iy rfl rfl rfl (tV hT.one (by simp)) (λb43=>CF MY (GL (.slice (some ⟨b43,0,none⟩) (1) (1)) [(bs.take (bs.length-4))]) ID (DR hT 0 rfl rfl) ?_)
 rw[show [(bs.take (bs.length-4))].flatten=(bs.take (bs.length-4))by simp];refine P2 ?_;refine ap ?_ ?_<;>intro h46;refine nx J8 (CY (sr λ_ J9=>P2 ?_));refine nx J9 (ah (ae (WK [] (ix rfl rfl rfl ?_))));exact .inl ⟨by rw[nF,if_neg (by omega),if_neg h46],rfl,rfl⟩;refine nx J8 (CN (qx J7 (sr λ_ J10=>Ez (ab rfl) rfl rfl rfl fM kx (λv47=>PS ?_))));refine bX (k:=0) (news:=dU ((bs.take (bs.length-4)))) (nn':=((bs.take (bs.length-4)):List UInt8).length) (xs':=dU ((bs.take (bs.length-4)))) (ab rfl) rfl rfl rfl fM ut rfl rfl rfl rfl rfl rfl (λ_ _=>hT.src (λ_ h=>fB h)) (e9 _) (by simp only[maxLen,az,bA];omega) (by simp only[az,bA];omega) (by simp) (ba _) (λv49 ov49=>P2 ?_);refine nx J10 (ah (WK [0] (ix rfl rfl rfl ?_)));exact .inr ⟨_,_,by rw[nF,if_neg (by omega),if_pos (by simpa using h46)],rfl,rfl⟩
theorem zz(x:Value)(bs:List UInt8)(hb:bs.length≤1000000000):DT 148 #[x] (IsW x bs) [] (dD (λv H=>(nF bs=none∧v= .tuple #[.slice none 0 0, .bool false]∧H=[])∨∃t u,nF bs=some t∧v= .tuple #[u, .bool true]∧H=[cI u t 5])):=λw G h m=>by
 obtain⟨a,c,rfl,hc,_⟩:=h.form;exact Hu a c bs hc hb w G h m
theorem vG(n:Nat)(hn:n≤1000000000000):
 DT 162 #[(.int .i64 (((n:Nat):Int)))] T0 [] (RI (.int .i64 ((bq n:Nat):Int)) []):=by
 refine BD 9 Tryz.func162 rfl rfl rfl λw0 F hF=>sr λ_ J1=>PS ?_
 refine nx J1 (aa λ_ J2=>sr λ_ J3=>P2 ?_);refine ap ?_ ?_<;>intro h4;refine nx J3 (CY (sr λ_ J4=>PS ?_));refine nx J4 (ah (ae (WK [] (aw rfl rfl ?_))));obtain rfl:n=0:=by omega
 exact⟨rfl,rfl⟩;refine nx J3 (CN (qx J2 (sr λ_ J5=>PS ?_)));refine tp (jj rfl rfl rfl (bK (by omega) (by omega))) ?_;refine tp (PV.quo (r:=(((n-1) / 52:Nat):Int)) rfl rfl rfl (by omega) (by rw[show(((n:Nat):Int)-1)=((n-1:Nat):Int)by omega];exact ND (n-1) 52 (by omega))) ?_;refine AD ?_;refine PS ?_;refine nx J5 (ah (WK [] (aw rfl rfl ?_)));rw[bq,if_neg (by omega)];exact⟨by simp,rfl⟩
theorem Fc{number:Int}{bs:List UInt8}{k:Nat}:nL number bs (k+1)=nL number bs k++[qE (kl number k (bq bs.length) (hJ bs k))++[1]]:=Fb number bs k
theorem A7(a:Option Addr)(c number:Nat)(bs:List UInt8)(hc:bs.length≤c)(hb:bs.length≤3000):
 DT 164 #[(.int .i64 (((number:Nat):Int))),(.slice a bs.length c)] (IsW (.slice a bs.length c) bs) [] (dD (λv H=>H=[m6 47 5 v (co ((number:Nat):Int) bs)])):=by
 refine BD 68 Tryz.func164 rfl rfl rfl λw0 F hF=>sr λ_ J1=>PS ?_
 refine nx J1 (sr λ_ J2=>PS ?_);refine tp (dL rfl fM rfl ⟨_,_,rfl⟩) ?_;refine CE MZ (vG bs.length (by omega)) ID ?_;refine PS ?_;refine nx J2 (sr λ_ J3=>PS ?_);refine nx J3 (aa λ_ J4=>sr λ_ J5=>P2 ?_);refine nx J5 (am ?_)
 refine bG (α:=(Nat)×(Value)) (λ⟨k,vr⟩=>k≤bq bs.length∧vr.oneCell'=true) (λ⟨k,vr⟩=>[(0,(.int .i64 (((number:Nat):Int)))),(1,(.slice a bs.length c)),(4,(.slice none 0 0)),(5,(.int .i64 (((bq bs.length:Nat):Int)))),(6,vr),(14,(.int .i64 (((bq bs.length:Nat):Int)))),(15,(.int .i64 (((k:Nat):Int))))]) (λ⟨k,vr⟩=>[m6 47 5 vr (nL ((number:Nat):Int) bs k)]) (λ⟨k,vr⟩=>bq bs.length-k) (0,(.slice none 0 0))
  ⟨aO _,rfl⟩ SB
  (λ_ s=>vz 47 5 s) (λ⟨k,vr⟩ hinv=>?_)
 obtain⟨hk,hvr⟩:=hinv;refine sr λ_ J6=>PS ?_
 refine ap ?_ ?_<;>intro h16;have hkn:=L9 (n:=bs.length) (k:=k) (by omega);have hpe:=Ma bs k;have hP:IsW (kG (.slice a bs.length c) (k*52) (min ((k+1)*52) bs.length)) (hJ bs k) F:=by rw[←hpe];exact hF.cut (by omega) (by omega)
 have hpl:=uM bs k;have hpk:=py hb;have hP2:=hP.len;refine nx J6 (aa λ_ J7=>CY (qx J7 (aa λ_ J8=>am (sr λ_ J9=>P2 ?_))));refine nx J9 (sr λ_ J10=>P2 ?_);refine tp (MO (r:=((k*52:Nat):Int)) rfl rfl rfl (by rw[show((k:Nat):Int)*52=((k*52:Nat):Int)by omega];exact bK (by omega) (by omega))) ?_;refine PS ?_;refine AD ?_;refine tp (MO (r:=(((k+1)*52:Nat):Int)) rfl rfl rfl (by rw[show(((k:Nat):Int)+1)*52=(((k+1)*52:Nat):Int)by omega];exact bK (by omega) (by omega))) ?_;refine PS ?_;refine tp (dL rfl fM rfl ⟨_,_,rfl⟩) ?_;refine tp (PV.minI rfl rfl rfl) ?_;refine tp (PV.sliceLH (lo:=k*52) (hi:=min ((k+1)*52) bs.length) rfl fM kx rfl rfl rfl rfl (by omega) (by omega) (by omega)) ?_;refine PS ?_;refine nx J10 (sr λ_ J11=>TL.makeB (59) (59) (ab rfl) rfl rfl rfl fM ut rfl rfl rfl rfl (by omega) (by omega) (λb28=>PS ?_));refine nx J11 (aa λ_ J12=>sr λ_ J13=>PS ?_);refine nx J13 (am (iy 5 (sr λ_ J14=>PS ?_)));refine nx J14 (aa λ_ J15=>CY (qx J15 (aa λ_ J16=>am (sr λ_ J17=>P2 ?_))));refine nx J17 (ac (P4 ?_));refine tp (jj (r:=3) rfl rfl rfl (by decide)) ?_;refine tp (MO (r:=24) rfl rfl rfl (by decide)) ?_;refine tp (iA (r:=((number:Nat):Int).fdiv 16777216) rfl rfl rfl (by omega) rfl) ?_;refine tp (cD (r:=(((r8 (((number:Nat):Int).fdiv 16777216)).toNat:Nat):Int)) rfl Y3 Y5 rfl (r8_wrap _)) ?_
 refine tp (kh (r:=0) rfl fM kx rfl rfl (by first|omega|decide) (by first|omega|decide) rfl) ?_;refine S0 0 kx ?_;refine au (af (ad J16 (ac (tp (bC (r:=1) rfl rfl rfl (by decide)) ?_))));refine PS ?_;refine au (bL (sr λ_ J18=>PS ?_));refine nx J18 (aa λ_ J19=>CY (qx J19 (aa λ_ J20=>am (sr λ_ J21=>P2 ?_))));refine nx J21 (ac (P4 ?_));refine tp (jj (r:=2) rfl rfl rfl (by decide)) ?_;refine tp (MO (r:=16) rfl rfl rfl (by decide)) ?_;refine tp (iA (r:=((number:Nat):Int).fdiv 65536) rfl rfl rfl (by omega) rfl) ?_;refine tp (cD (r:=(((r8 (((number:Nat):Int).fdiv 65536)).toNat:Nat):Int)) rfl Y3 Y5 rfl (r8_wrap _)) ?_;refine tp (kh (r:=1) rfl fM kx rfl rfl (by first|omega|decide) (by first|omega|decide) rfl) ?_;refine S0 0 kx ?_;refine au (af (ad J20 (ac (tp (bC (r:=2) rfl rfl rfl (by decide)) ?_))));refine PS ?_;refine au (bL (sr λ_ J22=>PS ?_));refine nx J22 (aa λ_ J23=>CY (qx J23 (aa λ_ J24=>am (sr λ_ J25=>P2 ?_))));refine nx J25 (ac (P4 ?_));refine tp (jj (r:=1) rfl rfl rfl (by decide)) ?_;refine tp (MO (r:=8) rfl rfl rfl (by decide)) ?_;refine tp (iA (r:=((number:Nat):Int).fdiv 256) rfl rfl rfl (by omega) rfl) ?_;refine tp (cD (r:=(((r8 (((number:Nat):Int).fdiv 256)).toNat:Nat):Int)) rfl Y3 Y5 rfl (r8_wrap _)) ?_;refine tp (kh (r:=2) rfl fM kx rfl rfl (by first|omega|decide) (by first|omega|decide) rfl) ?_;refine S0 0 kx ?_
 refine au (af (ad J24 (ac (tp (bC (r:=3) rfl rfl rfl (by decide)) ?_))));refine PS ?_;refine au (bL (sr λ_ J26=>PS ?_));refine nx J26 (aa λ_ J27=>CY (qx J27 (aa λ_ J28=>am (sr λ_ J29=>P2 ?_))));refine nx J29 (ac (P4 ?_));refine tp (jj (r:=0) rfl rfl rfl (by decide)) ?_;refine tp (MO (r:=0) rfl rfl rfl (by decide)) ?_;refine tp (iA (r:=((number:Nat):Int)) rfl rfl rfl (by omega) (Int.fdiv_one _)) ?_;refine tp (cD (r:=(((r8 (((number:Nat):Int))).toNat:Nat):Int)) rfl Y3 Y5 rfl (r8_wrap _)) ?_;refine tp (kh (r:=3) rfl fM kx rfl rfl (by first|omega|decide) (by first|omega|decide) rfl) ?_;refine S0 0 kx ?_;refine au (af (ad J28 (ac (tp (bC (r:=4) rfl rfl rfl (by decide)) ?_))));refine PS ?_;refine au (bL (sr λ_ J30=>PS ?_));refine nx J30 (aa λ_ J31=>CN (aW (aA (aA (br (ad J12 (sr λ_ J32=>P4 ?_)))))));refine tp (cD (r:=(((r8 (((k:Nat):Int))).toNat:Nat):Int)) rfl Y3 Y5 rfl (r8_wrap _)) ?_;refine PS ?_;refine tp (cD (r:=(((r8 (((bq bs.length:Nat):Int))).toNat:Nat):Int)) rfl Y3 Y5 rfl (r8_wrap _)) ?_;refine PS ?_;refine tp (dL rfl fM rfl hP2) ?_;refine tp (cD (r:=(((r8 ((((hJ bs k).length:Nat):Int))).toNat:Nat):Int)) rfl Y3 Y5 rfl (r8_wrap _)) ?_;refine tp (kh (r:=4) rfl fM kx rfl rfl (by first|omega|decide) (by first|omega|decide) rfl) ?_;refine S0 0 kx ?_;refine tp (kh (r:=5) rfl fM kx rfl rfl (by first|omega|decide) (by first|omega|decide) rfl) ?_;refine S0 0 kx ?_
 refine tp (kh (r:=6) rfl fM kx rfl rfl (by first|omega|decide) (by first|omega|decide) rfl) ?_;refine S0 0 kx ?_;refine nx J32 (sr λ_ J33=>PS ?_);refine tp (zi (k:=7) (v:=(.slice (some ⟨b28,7,none⟩) (52) (52))) rfl fM kx rfl rfl rfl (by decide) rfl) ?_;refine PS ?_;refine Oo (i:=0) (m:=(hJ bs k).length) (news:=(dU (hJ bs k))) (H':=[aj b28 (dU (kl ((number:Nat):Int) k (bq bs.length) (hJ bs k))) 5,m6 47 5 vr (nL ((number:Nat):Int) bs k)]) (ab rfl) rfl rfl rfl fM kx rfl rfl rfl rfl (λ_ _=>hP.src (λ_ h=>fB h)) (e9 _) (by show 7+min (hJ bs k).length 52≤59;omega) (Ht (number:=((number:Nat):Int)) (place:=k) (all:=bq bs.length) hpl) rfl (nx J33 (ac (P2 ?_)));refine CQ MV (vu (.slice (some ⟨b28,0,none⟩) (59) (59)) (kl ((number:Nat):Int) k (bq bs.length) (hJ bs k)) (by rw[j6 hpl];decide)) ID (λg d s=>Lj (Kt 0 59 (j6 hpl) (by decide) rfl rfl g d s)) λvR HR hR=>?_
 subst hR;refine aM (cells:=#[(.int .u8 1)]) (ab rfl) rfl rfl rfl fM ut rfl rfl rfl (by as_aux_lemma=>kernel_rfl) (λb62=>bX (k:=1) (news:=dU ([1])) (nn':=(qE (kl ((number:Nat):Int) k (bq bs.length) (hJ bs k))++[1]:List UInt8).length) (xs':=dU (qE (kl ((number:Nat):Int) k (bq bs.length) (hJ bs k))++[1])) (ab rfl) rfl rfl rfl fM ut rfl rfl rfl rfl rfl rfl (λ_ _=>gl rfl (RO 0) rfl) (e9 [1]) (by rw[lG,j6 hpl];simp only[maxLen];omega) (by rw[lG,j6 hpl];omega) (by simp) (gC _ _).symm (λv63 ov63=>aM (cells:=#[v63]) (ab rfl) rfl rfl rfl wx Iy rfl rfl rfl (tV ov63 (by simp)) (λb64=>?_)));change TL _ _ _ _ _ _ _ _ _ [aj b64 [v63] 47,aj b62 [(.int .u8 1)] 5,cI v63 (qE (kl ((number:Nat):Int) k (bq bs.length) (hJ bs k))++[1]) 5,aj b28 (dU (kl ((number:Nat):Int) k (bq bs.length) (hJ bs k))) 5,m6 47 5 vr (nL ((number:Nat):Int) bs k)];refine cr (λ_ s=>aD [4] rfl s) (Nl (λus65=>bX (k:=0) (m:=1) (news:=[v63]) (nn':=(nL ((number:Nat):Int) bs k).length+1) (xs':=us65++[v63]) (ab rfl) rfl rfl rfl wx Iy rfl rfl rfl rfl rfl rfl (λ_ _=>gl rfl (RO 2) rfl) (List.forall_mem_cons.2 ⟨ov63,λ_ h=>by cases h⟩) (by rw[zJ];simp only[maxLen];omega) (by rw[zJ];omega) rfl rfl (λv65 ov65=>?_)))
 change TL _ _ _ _ _ _ _ _ _ [own v65 ((nL ((number:Nat):Int) bs k).length+1) (us65++[v63]) 47 1,eS us65 (nL ((number:Nat):Int) bs k) 5,aj b64 [v63] 47,aj b62 [(.int .u8 1)] 5,cI v63 (qE (kl ((number:Nat):Int) k (bq bs.length) (hJ bs k))++[1]) 5,aj b28 (dU (kl ((number:Nat):Int) k (bq bs.length) (hJ bs k))) 5];refine cr (λ_ s=>A5 4 rfl rfl s) (cr (H':=[own v65 ((nL ((number:Nat):Int) bs k).length+1) (us65++[v63]) 47 1,eS us65 (nL ((number:Nat):Int) bs k) 5,ie v63 (qE (kl ((number:Nat):Int) k (bq bs.length) (hJ bs k))++[1]) 5,aj b64 [v63] 47,aj b62 [(.int .u8 1)] 5,aj b28 (dU (kl ((number:Nat):Int) k (bq bs.length) (hJ bs k))) 5]) (λ_ s=>aD [0,0,2] rfl s) (cr (λ_ s=>vB s) ?_));rw[←Fc];refine PS ?_;refine au (af (ad J8 (ac (AD ?_))));refine PS ?_;refine au ?_
 exact aL ((k+1,v65):(Nat)×(Value)) ⟨by omega,ov65⟩ (by show bq bs.length- (k+1)<bq bs.length-k;omega)
  SB
  (λ_ s=>ak [0] rfl s)
 refine nx J6 (aa λ_ J34=>CN (aW (aA (aA (br (ad J4 (sr λ_ J35=>P2 ?_)))))));refine nx J35 (ah (WK [0] (aw rfl rfl ?_)));obtain rfl:k=bq bs.length:=by omega
 exact rfl
theorem A8(x:Value)(number:Nat)(bs:List UInt8)(hb:bs.length≤3000):DT 164 #[.int .i64 ((number:Nat):Int),x] (IsW x bs) [] (dD (λv H=>H=[m6 47 5 v (co ((number:Nat):Int) bs)])):=λw G h m=>by
 obtain⟨a,c,rfl,hc,_⟩:=h.form;exact A7 a c number bs hc hb w G h m
theorem xK(s:jx)(number place:Int)(hs:s.length=64):
 DT 131 #[(.agg (dU s).toArray),(.int .i64 (number)),(.int .i64 (place))] T0 [] (dD (λv H=>(fQ s number place=none∧v= .tuple #[.slice none 0 0, .int .i64 0, .bool false]∧H=[])∨∃b all u,fQ s number place=some (b,all)∧v= .tuple #[u, .int .i64 all, .bool true]∧H=[ie u b 5])):=by
 refine BD 74 Tryz.func131 rfl rfl rfl λw0 F hF=>sr λ_ J1=>XY (dU s) λb3=>?_
 refine P3 ?_;refine nx J1 (sr λ_ J2=>tp (Rm (k:=63) rfl sI kx rfl rfl (by omega) (by omega) rfl) ?_);refine CQ M4 (zz (.slice (some ⟨b3,0,none⟩) (63) (64)) (s.take 63) (by rw[bA];omega)) ID (λg d s'=>Lj (Iw 0 63 (by omega) (by omega) (by decide) (by rw[aC (by rw[bo];omega)]) hs.symm rfl rfl g d s')) λvR HR hR=>?_
 rcases hR with⟨ht,rfl,rfl⟩| ⟨t,u,ht,rfl,rfl⟩
 refine P4 ?_;refine PS ?_;refine nx J2 (aa λ_ J3=>sr λ_ J4=>PS ?_);refine PS ?_;refine PS ?_
 iterate 3 refine UT ?_
 refine PS ?_;refine nx J4 (CY (sr λ_ J5=>P3 ?_));exact nx J5 (ah (ae (WK [] (n6 rfl rfl rfl rfl (.inl ⟨Bm ht,rfl,rfl⟩)))));have htl:=zA ht;rw[bA]at htl;have ht59:t.length=59:=by omega
 refine jW 0 rfl rfl (by omega) (λg cap hv hcap=>P4 ?_);refine PS ?_;refine nx J2 (aa λ_ J6=>sr λ_ J7=>PS ?_);refine PS ?_;refine PS ?_;refine IX 63 sI kx ?_;refine LT 1 Y5 (.int .u8 ((((s.getD 63 0).toNat:Nat):Int))) ?_ (hc:=by exact rZ (by omega));refine PS ?_;refine ap ?_ ?_<;>intro h26;refine PS ?_;refine nx J7 (CY (sr λ_ J8=>P3 ?_));refine nx J8 (ah (ae (WK [] (n6 rfl rfl rfl rfl ?_))));exact .inl ⟨st (λh=>h26 (by rw[h];rfl)),rfl,rfl⟩;refine PS ?_;refine nx J7 (CN (qx J6 (sr λ_ J9=>PS ?_)));refine nx J9 (aa λ_ J10=>sr λ_ J11=>PS ?_);refine tp (nZ (PV.sliceH (a:=some ⟨g,0,none⟩) (len:=t.length) (cap:=cap) (hi:=4) rfl fM kx (by rw[←hv];rfl) rfl rfl (by omega)) (Mz (by omega))) ?_;refine tp (qZ rfl fM rfl) ?_;refine PS ?_;refine nx J11 (am ?_)
 refine bG (α:=(Nat)) (λk=>k≤4) (λk=>[(1,(.int .i64 (number))),(2,(.int .i64 (place))),(6,(.slice none 0 0)),(7,(.int .i64 0)),(8,(.bool false)),(9,u),(11,(.int .i64 (IW (t.take k)))),(29,(.slice (some ⟨g,0,none⟩) (4) (cap))),(30,(.int .i64 4)),(31,(.int .i64 (((k:Nat):Int))))]) (λk=>[cI u (t) 5,aj b3 (dU s) 145]) (λk=>4-k) 0
  (aO _) SB
  (λ_ s=>s) (λk hinv=>?_)
 obtain hk:=hinv;refine sr λ_ J12=>PS ?_
 refine ap ?_ ?_<;>intro h32;refine nx J12 (aa λ_ J13=>CY (qx J13 (aa λ_ J14=>am (sr λ_ J15=>tp (kh (r:=k) rfl fM kx rfl rfl (by first|omega|decide) (by first|omega|decide) (by omega)) ?_))));refine tp (cj (v:=(.int .u8 ((((t.getD k 0).toNat:Nat):Int)))) rfl Y5 rfl rfl (gK 0 rfl hv rfl) (rZ (by omega))) ?_;refine PS ?_;refine nx J15 (ac (PS ?_));refine tp (wC (r:=IntKind.i64.wrap ((IW (t.take k))*2^8)) rfl rfl rfl (by omega) rfl) ?_;refine PS ?_;refine tp (cD (r:=(((t.getD k 0).toNat:Nat):Int)) rfl Y5 Y3 rfl (bK (by omega) (by have:=UInt8.toNat_lt (n:=t.getD k 0);omega))) ?_;refine tp (Hd (r:=iN .i64 (IntKind.i64.wrap ((IW (t.take k))*2^8)) (((t.getD k 0).toNat:Nat):Int)) rfl rfl rfl rfl) ?_;refine PS ?_;refine au (af (ad J14 (ac (AD ?_))));refine PS ?_;refine au ?_
 exact aL ((k+1):(Nat)) (by omega) (by show 4- (k+1)<4-k;omega)
  (aX (aX (aX (aX (aX (aX (bM rfl (congrArg (Value.int .i64) (KV (by omega)).symm) SB)))))))
  (λ_ s=>s)
 refine nx J12 (aa λ_ J16=>CN (aW (aA (aA (br (ad J10 (aa λ_ J17=>sK (λw=>Frm F w∧Hx g (dU (t)) w∧True) de rfl (λ_ s=>⟨fB s,gK 0 rfl hv rfl _ s,trivial⟩) (PD 0 ?_))))))));refine ta 1 rfl (bn (r:=5) hv rfl fM kx rfl rfl (by omega) (by omega) rfl) ?_;refine ta 2 rfl (cj (v:=(.int .u8 ((((t.getD 5 0).toNat:Nat):Int)))) rfl Y5 rfl rfl (λ_ h=>h.2.1) (rZ (by omega))) ?_;refine ta 3 rfl (cD (r:=(((t.getD 5 0).toNat:Nat):Int)) rfl Y5 Y3 rfl (bK (by omega) (by have:=UInt8.toNat_lt (n:=t.getD 5 0);omega))) ?_;refine PD 4 ?_;refine ta 5 rfl (bn (r:=6) hv rfl fM kx rfl rfl (by omega) (by omega) rfl) ?_;refine ta 6 rfl (cj (v:=(.int .u8 ((((t.getD 6 0).toNat:Nat):Int)))) rfl Y5 rfl rfl (λ_ h=>h.2.1) (rZ (by omega))) ?_;refine ta 7 rfl (cD (r:=(((t.getD 6 0).toNat:Nat):Int)) rfl Y5 Y3 rfl (bK (by omega) (by have:=UInt8.toNat_lt (n:=t.getD 6 0);omega))) ?_;refine PD 8 ?_;refine PD 9 ?_;refine DN (ad J17 (aa λ_ J18=>sr λ_ J19=>P3 ?_));refine ap ?_ ?_<;>intro h51;refine PS ?_
 iterate 6 refine UT ?_
 refine P2 ?_
 iterate 3 refine UT ?_
 refine P2 ?_;refine UT ?_;refine UT ?_;refine PS ?_;refine nx J19 (CY (sr λ_ J20=>P3 ?_));refine nx J20 (ah (ae (WK [] (n6 rfl rfl rfl rfl ?_))));exact .inl ⟨nf ht (.inl (by have:k=4:=(by omega);subst this;exact h51)),rfl,rfl⟩;refine P2 ?_;refine tq (bn (r:=4) hv rfl fM kx rfl rfl (by omega) (by omega) rfl) ?_;refine tq (cj (v:=(.int .u8 ((((t.getD 4 0).toNat:Nat):Int)))) rfl Y5 rfl rfl (gK 0 rfl hv rfl) (rZ (by omega))) ?_;refine tq (cD (r:=(((t.getD 4 0).toNat:Nat):Int)) rfl Y5 Y3 rfl (bK (by omega) (by have:=UInt8.toNat_lt (n:=t.getD 4 0);omega))) ?_;refine P2 ?_;refine ap ?_ ?_<;>intro h58;refine P2 ?_
 iterate 3 refine UT ?_
 refine P2 ?_;refine UT ?_;refine UT ?_;refine PS ?_;refine nx J19 (CY (sr λ_ J21=>P3 ?_));exact nx J21 (ah (ae (WK [] (n6 rfl rfl rfl rfl (.inl ⟨nf ht (.inr (.inl h58)),rfl,rfl⟩)))))
 iterate 5 refine PS ?_
 refine ap ?_ ?_<;>intro h63;refine P2 ?_;refine UT ?_;refine UT ?_;refine PS ?_;refine nx J19 (CY (sr λ_ J22=>P3 ?_));exact nx J22 (ah (ae (WK [] (n6 rfl rfl rfl rfl (.inl ⟨nf ht (.inr (.inr (.inl h63))),rfl,rfl⟩)))));refine P4 ?_;refine ap ?_ ?_<;>intro h67;refine PS ?_;refine nx J19 (CY (sr λ_ J23=>P3 ?_));exact nx J23 (ah (ae (WK [] (n6 rfl rfl rfl rfl (.inl ⟨nf ht (.inr (.inr (.inr h67))),rfl,rfl⟩)))));refine PS ?_;refine nx J19 (CN (qx J18 (sr λ_ J24=>P2 ?_)));refine tp (bC (r:=((7+(t.getD 6 0).toNat:Nat):Int)) rfl rfl rfl (by rw[show(7:Int)+(((t.getD 6 0).toNat:Nat):Int)=((7+(t.getD 6 0).toNat:Nat):Int)by omega];have:=UInt8.toNat_lt (n:=t.getD 6 0);exact bK (by omega) (by omega))) ?_;refine tp (nZ (PV.sliceLH (a:=some ⟨g,0,none⟩) (len:=t.length) (cap:=cap) (lo:=7) (hi:=7+(t.getD 6 0).toNat) rfl fM kx (by rw[←hv];rfl) rfl rfl rfl rfl (by omega) (by omega)) (congrArg (λq=>kG q 7 (7+(t.getD 6 0).toNat)) hv.symm)) ?_;refine P4 ?_;refine nx J24 (ah (aE (H':=[ie (kG u 7 (7+(t.getD 6 0).toNat)) ((t.drop 7).take (t.getD 6 0).toNat) 5]) (dK _) (λ_ s'=>ak [0] rfl (xn 0 rfl rfl hv (by omega) (by omega) (by omega) (by rw[kN,cE]) s')) (n6 rfl rfl rfl rfl ?_)));obtain rfl:k=4:=by omega
 have h1:s.getD 63 0=1:=UInt8.toNat_inj.1 (by have h1':(1:UInt8).toNat=1:=rfl;omega);exact .inr ⟨_,_,_,Dn ht h1 (by omega),rfl,rfl⟩
end Go.Proofs.YtkhjnolhhidecaaGreatDoor
end

section
namespace Wal
open Go Leg Codec Api Dsk
theorem u9(i:Nat){us:List Value}{ls:List (List UInt8)}{e k:Nat}{B:List HP}{F:Hl}(hk:k<ls.length)(hi:Nat.blt i B.length=true)(hH:B.getD i (λ_=>True)=eS us ls e): ∀g,Dj g F→bR B g→IsB (us.getD k undef) ls[k] (jn g F):=λg d s=>by
 obtain⟨h1,h2,d',rfl,a,_⟩:=eF i (lb hi) s;rw[hH]at a;obtain⟨hl,a⟩:=a;obtain⟨u,e1,k1,k2,dk,rfl,a3⟩:=yq us ls e _ hl a k hk;rw[List.getD_eq_getElem?_getD,e1];exact Cs a3 λb o e=>g8 (g8 (g8 e))
theorem In.read{s ws:gi}(h1:In s)(h2:In ws)(at':Int)(h: ¬(0≤at'∧at'<2048)): ∀k,k≤ws.length→jg s ws at' k=zs
 |0,_=>by
  show kX s at'=zs
  induction s with
  |nil=>rfl
  |cons p s ih=>
   obtain⟨a,b⟩:=p;simp only[kX];have hh:=h1 (a,b) (by simp);rw[if_neg (λe=>h (by simp only at hh;omega))];exact ih λq hq=>h1 q (by simp[hq])
 |k+1,hk=>by
  simp only[jg];rw[if_neg,In.read h1 h2 at' h k (by omega)];intro e;rw[wU (by omega)]at e;have hh:=h2 ws[k] (ek _);exact h (by omega)
theorem DS.In.read{D:DS}(h:Wal.DS.In D){at':Int}(h2: ¬(0≤at'∧at'<2048)):D.read at'=zs:=Wal.In.read h.1 h.2 at' h2 _ (aK _)
theorem H7(number place:Int):fQ zs number place=none:=st (by decide)
theorem xS{rd:Int→jx}{number at' all:Int}: ∀(m:Nat) {b:List UInt8},lJ rd number at' all m=some b→∀k,k<m→∃x,fQ (rd (at'+k)) number k=some (x,all)
 |0,_,_,k,hk=>by omega
 |m+1,b,h,k,hk=>by
  simp only[lJ]at h;split at h
  · cases h
  · rename_i b' hb
    split at h
    · cases h
    · rename_i x same hx
      split at h
      · rename_i hs
        by_cases e:k=m
        · subst e;exact⟨x,by rw[hx,hs]⟩
        · exact xS m hb k (by omega)
      · cases h
theorem ma{rd:Int→jx}{number at' all:Int}{b:List UInt8}(hl:(rd at').length=64)(h:gB rd number at'=some (b,all)):0<all∧all≤255∧∀k:Nat,(k:Int)<all→∃x,fQ (rd (at'+k)) number k=some (x,all):=by
 unfold gB at h;split at h
 · cases h
 · rename_i x al hp
   obtain⟨f1,f2,_⟩:=pz hl hp;obtain⟨c,hc,e⟩:=Option.map_eq_some_iff.1 h;injection e with e1 e2
   subst e1;subst e2;exact⟨f1,f2,λk hk=>xS _ hc k (by omega)⟩
theorem pq{D:DS}(hI:Wal.DS.In D)(hD:D.Ok){number at' all:Int}{b:List UInt8}(h0:0≤at')(h:gB D.read number at'=some (b,all)):at'+all≤2048:=by
 obtain⟨f1,f2,f3⟩:=ma (mO hD _) h;obtain⟨x,hx⟩:=f3 (all-1).toNat (by omega)
 by_cases q:at'+all≤2048
 · exact q
 · rw[DS.In.read hI (by omega),H7]at hx;cases hx
theorem zK{rd:Int→jx}{f:Nat}{cnt used:Int}(h:gB rd (cnt+1) used=none):gH rd f cnt used=([],used):=by
 cases f with
 |zero=>rfl
 |succ f=>simp only[gH,h]
theorem GC{rd:Int→jx}{f:Nat}{cnt used all:Int}{b:List UInt8}(h:gB rd (cnt+1) used=some (b,all)):gH rd (f+1) cnt used=(b::(gH rd f (cnt+1) (used+all)).1,(gH rd f (cnt+1) (used+all)).2):=by simp only[gH,h]
def Scan(D:DS)(f:Nat)(rs:List (List UInt8))(used:Int):Prop:=
 gH D.read jN 0 0=(rs++(gH D.read f rs.length used).1,(gH D.read f rs.length used).2)∧0≤used∧used≤2048∧2049≤(f:Int)+used∧(rs.length:Int)≤used
theorem Scan.start(D:DS):Scan D jN [] 0:=by
 refine⟨?_,by omega,by omega,by rw[tS];omega,by simp⟩;have e:((([]:List (List UInt8)).length:Nat):Int)=0:=rfl;rw[ba,e]
theorem Scan.next{D:DS}(hI:Wal.DS.In D)(hD:D.Ok){f:Nat}{rs:List (List UInt8)}{used all:Int}{b:List UInt8}(h:Scan D f rs used)(h2:gB D.read ((rs.length:Int)+1) used=some (b,all)): ∃f',f=f'+1∧Scan D f' (rs++[b]) (used+all):=by
 obtain⟨h1,h0,h3,h4,h5⟩:=h;have hr:=pq hI hD h0 h2;have hf:=(ma (mO hD _) h2).1;obtain⟨f',rfl⟩: ∃f',f=f'+1:=⟨f-1,by omega⟩;refine⟨f',rfl,?_,by omega,by omega,by omega,by simp;omega⟩;rw[h1,GC h2];simp
theorem Scan.stop{D:DS}{f:Nat}{rs:List (List UInt8)}{used:Int}(h:Scan D f rs used)(h2:gB D.read ((rs.length:Int)+1) used=none):gH D.read jN 0 0=(rs,used):=by
 rw[h.1,zK h2];simp
theorem Cb{D:DS}{at':Int}(h:2048≤at'):ki (2048-at').toNat at' D=(0,D):=by rw[show(2048-at').toNat=0 by omega];rfl
theorem Hg{D:DS}{at':Int}(h:at'<2048)(h2:D.read at'=zs):ki (2048-at').toNat at' D=ki (2048- (at'+1)).toNat (at'+1) D:=by
 rw[show(2048-at').toNat=(2048- (at'+1)).toNat+1 by omega,ki,if_pos h2]
theorem Lu{D:DS}{at':Int}(h:at'<2048)(h2:D.read at'≠zs)(h3:(D.write at' []).1=0):ki (2048-at').toNat at' D=ki (2048- (at'+1)).toNat (at'+1) (D.write at' []).2:=by
 rw[show(2048-at').toNat=(2048- (at'+1)).toNat+1 by omega,ki,if_neg h2,if_pos h3]
theorem Hh{D:DS}{at':Int}(h:at'<2048)(h2:D.read at'≠zs)(h3:(D.write at' []).1≠0):ki (2048-at').toNat at' D=D.write at' []:=by
 rw[show(2048-at').toNat=(2048- (at'+1)).toNat+1 by omega,ki,if_neg h2,if_neg h3]
theorem Fl{D D':DS}{rs:List (List UInt8)}{used e:Int}(h:gH D.read jN 0 0=(rs,used))(h2:ki (2048-used).toNat used D=(e,D'))(h3:e≠0):bY D=⟨e,[],0,D'⟩:=by
 simp only[bY,h,h2];rw[if_pos h3]
theorem Fk{D D':DS}{rs:List (List UInt8)}{used:Int}(h:gH D.read jN 0 0=(rs,used))(h2:ki (2048-used).toNat used D=(0,D'))(h3:D'.sync.1≠0):bY D=⟨D'.sync.1,[],0,D'.sync.2⟩:=by
 simp only[bY,h,h2,ne_eq,not_true_eq_false,if_false];rw[if_pos h3]
theorem GI{D D':DS}{rs:List (List UInt8)}{used:Int}(h:gH D.read jN 0 0=(rs,used))(h2:ki (2048-used).toNat used D=(0,D'))(h3:D'.sync.1=0):bY D=⟨0,rs,used,D'.sync.2⟩:=by
 simp only[bY,h,h2,ne_eq,not_true_eq_false,if_false];rw[if_neg (by simp[h3])]
def gQ:List jx→Int→DS→Int×DS
 | [],_,D=>(0,D)
 |s::ss,at',D=>if(D.write at' s).1=0 then gQ ss (at'+1) (D.write at' s).2 else D.write at' s
structure PutR where
 err:Int
 cnt:Nat
 used:Int
 D:DS
def mw(D:DS)(cnt:Nat)(used:Int)(bs:List UInt8):PutR:=
 if 3000<bs.length then⟨2,cnt,used,D⟩
 else if(bq bs.length:Int)>2048-used then⟨3,cnt,used,D⟩
 else
  let w:=gQ (co ((cnt+1:Nat):Int) bs) used D
  if w.1≠0 then⟨w.1,cnt,used,w.2⟩else if w.2.sync.1≠0 then⟨w.2.sync.1,cnt,used,w.2.sync.2⟩else⟨0,cnt+1,used+bq bs.length,w.2.sync.2⟩
theorem B6{ss:List jx}{at':Int}{D:DS}{k:Nat}(hk:k<ss.length)(h:(D.write (at'+k) ss[k]).1=0):gQ (ss.drop k) (at'+k) D=gQ (ss.drop (k+1)) (at'+(k+1:Nat)) (D.write (at'+k) ss[k]).2:=by
 rw[dM hk,gQ,if_pos h];congr 1;omega
theorem B7{ss:List jx}{at':Int}{D:DS}{k:Nat}(hk:k<ss.length)(h:(D.write (at'+k) ss[k]).1≠0):gQ (ss.drop k) (at'+k) D=D.write (at'+k) ss[k]:=by
 rw[dM hk,gQ,if_neg h]
section
variable {D D':DS} {cnt:Nat} {used:Int} {bs:List UInt8}
theorem JN(h:3000<bs.length):mw D cnt used bs=⟨2,cnt,used,D⟩:=by rw[mw,if_pos h]
theorem Dl(h: ¬3000<bs.length)(h2:(bq bs.length:Int)>2048-used):mw D cnt used bs=⟨3,cnt,used,D⟩:=by rw[mw,if_neg h,if_pos h2]
theorem zV{e:Int}(h: ¬3000<bs.length)(h2: ¬(bq bs.length:Int)>2048-used)(h3:gQ (co ((cnt+1:Nat):Int) bs) used D=(e,D'))(h4:e≠0):mw D cnt used bs=⟨e,cnt,used,D'⟩:=by
 rw[mw,if_neg h,if_neg h2];simp only[h3];rw[if_pos h4]
theorem HZ(h: ¬3000<bs.length)(h2: ¬(bq bs.length:Int)>2048-used)(h3:gQ (co ((cnt+1:Nat):Int) bs) used D=(0,D'))(h4:D'.sync.1≠0):mw D cnt used bs=⟨D'.sync.1,cnt,used,D'.sync.2⟩:=by
 rw[mw,if_neg h,if_neg h2];simp only[h3,ne_eq,not_true_eq_false,if_false];rw[if_pos h4]
theorem put_ok(h: ¬3000<bs.length)(h2: ¬(bq bs.length:Int)>2048-used)(h3:gQ (co ((cnt+1:Nat):Int) bs) used D=(0,D'))(h4:D'.sync.1=0):mw D cnt used bs=⟨0,cnt+1,used+bq bs.length,D'.sync.2⟩:=by
 rw[mw,if_neg h,if_neg h2];simp only[h3,ne_eq,not_true_eq_false,if_false];rw[if_neg (by simp[h4])]
end
end Wal
end

section
namespace Go.Proofs.YtkhjnolhhidecaaGreatDoor
open Go Leg Codec Api Dsk Wal
abbrev GX(lg d:Nat)(cnt used:Int):HP:=aj lg [.pointer (some ⟨d,0,none⟩), .int .i64 cnt, .int .i64 used] 171
abbrev Qk(v:Value)(ls:List (List UInt8)):HP:=m6 47 5 v ls
theorem CC(d:Nat)(D:DS)(number at':Int)(hD:D.Ok)(hb:D.ws.length≤1000000000)(ha:0≤at'∧at'≤1000000):
 DT 84 #[(.pointer (some ⟨d,0,none⟩)),(.int .i64 (number)),(.int .i64 (at'))] T0 [dk d (D)] (dD (λv H=>(gB D.read number at'=none∧v= .tuple #[.slice none 0 0, .int .i64 0, .bool false]∧H=[dk d D])∨∃b all u,gB D.read number at'=some (b,all)∧v= .tuple #[u, .int .i64 all, .bool true]∧H=[ie u b 5,dk d D])):=by
 refine BD 56 Tryz.func84 rfl rfl rfl λw0 F hF=>sr λ_ J1=>P3 ?_
 refine nx J1 (sr λ_ J2=>P2 ?_);refine CR NI (BH d (D) at' hD hb) ID λvR HR hR=>?_
 obtain⟨hv,rfl⟩:=hR;subst hv;refine PS ?_;refine CR M6 (xK ((D).read at') number 0 (mO hD _)) ID λvR HR hR=>?_
 rcases hR with⟨hp,rfl,rfl⟩| ⟨b,all,u,hp,rfl,rfl⟩
 refine P4 ?_;refine P3 ?_;refine nx J2 (aa λ_ J3=>sr λ_ J4=>PS ?_);refine PS ?_;refine nx J4 (CY (sr λ_ J5=>P3 ?_));exact nx J5 (ah (ae (WK [0] (n6 rfl rfl rfl rfl (.inl ⟨rJ hp,rfl,rfl⟩)))));refine TL.subLen 0 rfl rfl (λhul hu=>?_);have hpf:=pz (mO hD _) hp;refine P4 ?_;refine P3 ?_;refine nx J2 (aa λ_ J6=>sr λ_ J7=>PS ?_);refine PS ?_;refine nx J7 (CN (qx J6 (aa λ_ J8=>sr λ_ J9=>PS ?_)));refine nx J9 (am ?_)
 refine bG (α:=(Nat)×(List UInt8)×(Value)) (λ⟨k,c,w⟩=>1≤k∧k≤all.toNat∧lJ D.read number at' all k=some c∧c.length≤k*52∧w.oneCell'=true) (λ⟨k,c,w⟩=>[(0,(.pointer (some ⟨d,0,none⟩))),(1,(.int .i64 (number))),(2,(.int .i64 (at'))),(9,w),(10,(.int .i64 (all))),(12,(.int .i64 (((k:Nat):Int))))]) (λ⟨k,c,w⟩=>[ie w (c) 5,dk d (D)]) (λ⟨k,c,w⟩=>all.toNat-k) (1,b,u)
  ⟨aK _,by omega,Il hp,by omega,hu⟩ SB
  (λ_ s=>s) (λ⟨k,c,w⟩ hinv=>?_)
 obtain⟨hk1,hk2,hk3,hk4,hw⟩:=hinv;refine aa λ_ J10=>sr λ_ J11=>P3 ?_
 refine ap ?_ ?_<;>intro h29;refine nx J11 (CY (qx J10 (aa λ_ J12=>am (sr λ_ J13=>P3 ?_))));refine AD ?_;refine CR NI (BH d (D) (at'+((k:Nat):Int)) hD hb) (SM [1]) λvR HR hR=>?_
 obtain⟨hv,rfl⟩:=hR;subst hv;refine P2 ?_;refine CR M6 (xK ((D).read (at'+((k:Nat):Int))) number ((k:Nat):Int) (mO hD _)) ID λvR HR hR=>?_
 rcases hR with⟨hp2,rfl,rfl⟩| ⟨b2,all2,u2,hp2,rfl,rfl⟩
 refine P4 ?_;refine P3 ?_;refine nx J13 (aa λ_ J14=>sr λ_ J15=>PS ?_);refine PS ?_;refine PS ?_
 iterate 3 refine UT ?_
 refine PS ?_;refine nx J15 (CY (sr λ_ J16=>P3 ?_));refine nx J16 (ah (ae (aI (ae (ae (aI (ae (WK [0] (n6 rfl rfl rfl rfl ?_)))))))));exact .inl ⟨rI hp (xR (.inl hp2) _ (by omega)),rfl,rfl⟩;refine TL.subLen 0 rfl rfl (λhul2 hu2=>?_);have hpf2:=pz (mO hD _) hp2;refine P4 ?_;refine P3 ?_;refine nx J13 (aa λ_ J17=>sr λ_ J18=>PS ?_);refine PS ?_;refine P4 ?_;refine ap ?_ ?_<;>intro h49;refine PS ?_;refine nx J18 (CY (sr λ_ J19=>P3 ?_));refine nx J19 (ah (ae (aI (ae (ae (aI (ae (WK [1] (n6 rfl rfl rfl rfl ?_)))))))));exact .inl ⟨rI hp (xR (.inr ⟨b2,all2,hp2,h49⟩) _ (by omega)),rfl,rfl⟩;refine PS ?_;refine nx J18 (CN (qx J17 (ac (P2 ?_))));refine TL.appendS (k:=2) (news:=b2) (bs':=c++b2) (ab rfl) rfl rfl rfl fM ut rfl rfl rfl rfl (λ_ s=>Src.sub 0 rfl rfl s) (by omega) rfl (λv53 ov53=>PS ?_);refine au (af (ad J12 (ac (PS ?_))));refine AD ?_;refine PS ?_;refine au ?_
 exact aL ((k+1,c++b2,v53):(Nat)×(List UInt8)×(Value)) ⟨by omega,by omega,xT hk3 (by rw[hp2,show all2=all by omega]),by rw[ag];omega,ov53⟩ (by show all.toNat- (k+1)<all.toNat-k;omega)
  SB
  (λ_ s=>ak [2,1] rfl s)
 refine nx J11 (CN (aW (aA (aA (br (ad J8 (sr λ_ J20=>?_)))))))
 iterate 5 refine PS ?_
 refine nx J20 (ah (WK [0,0] (n6 rfl rfl rfl rfl ?_)));exact .inr ⟨c,all,w,tm hp (by rw[show all.toNat=k by omega];exact hk3),rfl,rfl⟩
theorem HQ(lg d:Nat)(cnt used:Int)(h:0≤used∧used≤2048):
 DT 163 #[(.pointer (some ⟨lg,0,none⟩))] T0 [aj lg [(.pointer (some ⟨d,0,none⟩)),(.int .i64 (cnt)),(.int .i64 (used))] 171] (RI (.int .i64 (2048-used)) [GX lg d cnt used]):=by
 refine BD 8 Tryz.func163 rfl rfl rfl λw0 F hF=>sr λ_ J1=>PS ?_
 refine nx J1 (sr λ_ J2=>P2 ?_);refine FA 2 rF aP ?_;refine LA 0 Y3 ?_;refine tp (jj rfl rfl rfl (bK (by omega) (by omega))) ?_;refine PS ?_;exact nx J2 (ah (WK [0] (aw rfl rfl ⟨rfl,rfl⟩)))
theorem Ci(lg d cnt:Nat)(used:Int)(x:Value)(bs:List UInt8)(D:DS)(hD:D.Ok)(hb:D.ws.length≤1000000)(hu:0≤used∧used≤2048)(hc:cnt≤1000000):
 DT 146 #[(.pointer (some ⟨lg,0,none⟩)),x] (IsW x bs) [aj lg [(.pointer (some ⟨d,0,none⟩)),(.int .i64 (((cnt:Nat):Int))),(.int .i64 (used))] 171,dk d (D)] (RI (.int .i64 (mw D cnt used bs).err) [GX lg d (((mw D cnt used bs).cnt:Nat):Int) (mw D cnt used bs).used,dk d (mw D cnt used bs).D]):=by
 refine BD 72 Tryz.func146 rfl rfl rfl λw0 F hF=>sr λ_ J1=>PS ?_
 refine nx J1 (aa λ_ J2=>sr λ_ J3=>PS ?_);refine tp (dL rfl fM rfl hF.len) ?_;refine PS ?_;refine ap ?_ ?_<;>intro h12;refine nx J3 (CY (sr λ_ J4=>PS ?_));refine nx J4 (ah (ae (WK [0,0] (aw rfl rfl ?_))));rw[JN (by omega)];exact⟨rfl,rfl⟩;refine nx J3 (CN (qx J2 (sr λ_ J5=>PS ?_)));refine tp (dL rfl fM rfl hF.len) ?_;refine CE MZ (vG bs.length (by omega)) ID ?_;refine PS ?_;refine nx J5 (aa λ_ J6=>sr λ_ J7=>P2 ?_);refine CE Ph (HQ lg d ((cnt:Nat):Int) used hu) ID ?_;refine PS ?_;refine ap ?_ ?_<;>intro h19;refine nx J7 (CY (sr λ_ J8=>PS ?_));refine nx J8 (ah (ae (WK [0,0] (aw rfl rfl ?_))));rw[Dl (by omega) (by omega)];exact⟨rfl,rfl⟩;refine nx J7 (CN (qx J6 (aa λ_ J9=>sr λ_ J10=>P2 ?_)));refine FA 1 rF aP ?_;refine LA 0 Y3 ?_;refine tp (nZ (v':=(.int .i64 (((cnt+1:Nat):Int)))) (bC rfl rfl rfl (bK (by omega) (by omega))) rfl) ?_;refine PS ?_;refine CQ Pg (A8 x (cnt+1) bs (by omega)) ID (λg d _=>P8 hF d) λvR HR hR=>?_
 have hR:=hR;subst hR;change TL _ _ _ _ _ _ _ _ _ [m6 47 5 vR (co ((cnt+1:Nat):Int) bs),aj lg [(.pointer (some ⟨d,0,none⟩)),(.int .i64 (((cnt:Nat):Int))),(.int .i64 (used))] 171,dk d (D)];refine TL.recsLen 0 rfl rfl (λhrl hro=>?_);rw[dV]at hrl;refine tp (dL rfl wx rfl hrl) ?_;refine PS ?_;refine nx J10 (am ?_)
 refine bG (α:=(Nat)×(DS)) (λ⟨k,D'⟩=>k≤bq bs.length∧gQ (co ((cnt+1:Nat):Int) bs) used D=gQ ((co ((cnt+1:Nat):Int) bs).drop k) (used+(k:Nat)) D'∧D'.Ok∧D'.ws.length≤D.ws.length+k) (λ⟨k,D'⟩=>[(0,(.pointer (some ⟨lg,0,none⟩))),(5,(.int .i64 (((bq bs.length:Nat):Int)))),(26,vR),(27,(.int .i64 ((((bq bs.length):Nat):Int)))),(28,(.int .i64 (((k:Nat):Int))))]) (λ⟨k,D'⟩=>[aj lg [(.pointer (some ⟨d,0,none⟩)),(.int .i64 (((cnt:Nat):Int))),(.int .i64 (used))] 171,dk d (D'),m6 47 5 vR (co ((cnt+1:Nat):Int) bs)]) (λ⟨k,D'⟩=>bq bs.length-k) (0,D)
  ⟨aO _,by simp,hD,by omega⟩ SB
  (λ_ s=>aD [1,1,0] rfl s) (λ⟨k,D'⟩ hinv=>?_)
 obtain⟨hk,hwr,hD',hws⟩:=hinv;refine sr λ_ J11=>PS ?_
 refine ap ?_ ?_<;>intro h29;refine cr (λ_ s=>aD [2] rfl s) (Nl (λus=>?_));change TL _ _ _ _ _ _ _ _ _ [own vR ((co ((cnt+1:Nat):Int) bs).length) (us) 47 1,eS us (co ((cnt+1:Nat):Int) bs) 5,aj lg [(.pointer (some ⟨d,0,none⟩)),(.int .i64 (((cnt:Nat):Int))),(.int .i64 (used))] 171,dk d (D')];refine zd (p:=us.length=(co ((cnt+1:Nat):Int) bs).length*1) (λw m=>m.own_len (i:=0) (lb rfl) rfl) (λhul=>?_);rw[dV,gz]at hul;have hkl:k< (co ((cnt+1:Nat):Int) bs).length:=by rw[dV];omega
 obtain⟨sk,hsk⟩: ∃x,(co ((cnt+1:Nat):Int) bs)[k]=x:=⟨_,rfl⟩;refine jW 0 rfl rfl (by omega) (λg cap hv hcap=>nx J11 (aa λ_ J12=>CY (qx J12 (aa λ_ J13=>am (sr λ_ J14=>PS ?_)))));refine tp (bn (r:=k) hv rfl wx lC rfl rfl (by omega) (by omega) (by omega)) ?_;refine tp (cj (v:=(us.getD k undef)) rfl fM rfl rfl (gK 0 rfl hv rfl) (by simp[List.getD_eq_getElem?_getD,show k<us.length by omega])) ?_;refine P2 ?_;refine nx J14 (aa λ_ J15=>D1 2 de ?_);refine PD 0 ?_;refine PD 1 ?_;refine FD 2 0 rF w8 ?_;refine LX 3 K7 (.pointer (some ⟨d,0,none⟩)) ?_ (hc:=by exact rfl);refine PD 4 ?_;refine PD 5 ?_;refine FD 6 2 rF aP ?_;refine LX 7 Y3 (.int .i64 (used)) ?_ (hc:=by exact rfl);refine PD 8 ?_;refine ta 9 rfl (bC rfl rfl rfl (bK (by omega) (by omega))) ?_;refine PD 10 ?_;refine AL 11 ?_;refine CQ OU (Ee d D' (used+((k:Nat):Int)) (us.getD k undef) sk hD' (by omega)) (SM [3]) (λg d s=>Lj (hsk▸u9 1 hkl rfl rfl g d s)) λvR HR hR=>?_
 obtain⟨hv2,rfl⟩:=hR;subst hv2;refine EN (PD 12 ?_);refine DN (ad J15 (sr λ_ J16=>P2 ?_));refine ap ?_ ?_<;>intro h46;refine nx J16 (CY (sr λ_ J17=>P2 ?_));refine nx J17 (ah (aI (ae (ae (aI (ae (WK [3,0] (aw rfl rfl ?_))))))));have hf:=B7 (D:=D') (at':=used) hkl (by rw[hsk];exact h46);rw[hsk]at hf;rw[zV (by omega) (by omega) (hwr.trans hf) h46];exact⟨rfl,rfl⟩;refine nx J16 (CN (aR (af (ad J13 (ac (AD ?_))))));refine PS ?_;refine au ?_
 exact aL ((k+1,(D'.write (used+((k:Nat):Int)) sk).2):(Nat)×(DS)) ⟨by omega,by rw[hwr];subst hsk;exact B6 hkl (by simpa using h46),DS.write_ok hD' _ _,by have:=DS.write_ws (D:=D') (at':=used+((k:Nat):Int)) (bs:=sk);omega⟩ (by show bq bs.length- (k+1)<bq bs.length-k;omega)
  SB
  (λ_ s=>aD [1,1,0] rfl (bw (p:=λus:List Value=>[own vR (co ((cnt+1:Nat):Int) bs).length us 47 1,eS us (co ((cnt+1:Nat):Int) bs) 5]) us (ak [1,1,1,0] rfl s)))
 refine nx J11 (aa λ_ J18=>CN (aW (aA (aA (br (ad J9 (aa λ_ J19=>sr λ_ J20=>P2 ?_)))))));refine FA 0 rF w8 ?_;refine LA 0 K7 ?_;refine CR OT (G1 d (D') hD') (SM [1]) λvR HR hR=>?_
 obtain⟨hv,rfl⟩:=hR;subst hv;refine PS ?_;refine nx J20 (sr λ_ J21=>P2 ?_);refine ap ?_ ?_<;>intro h55;refine nx J21 (CY (sr λ_ J22=>P2 ?_));refine nx J22 (ah (ae (WK [1,0] (aw rfl rfl ?_))));have hf:gQ (co ((cnt+1:Nat):Int) bs) used D=(0,D'):=by rw[hwr,dx (by rw[dV];omega)];rfl
 rw[HZ (by omega) (by omega) hf h55];exact⟨rfl,rfl⟩;refine nx J21 (CN (qx J19 (sr λ_ J23=>P2 ?_)));refine FA 1 rF aP ?_;refine LA 1 Y3 ?_;refine AD ?_;refine PS ?_;refine FA 1 rF aP ?_;refine S0 1 aP ?_;refine nx J23 (sr λ_ J24=>P2 ?_);refine FA 2 rF aP ?_;refine LA 1 Y3 ?_;refine PS ?_;refine AD ?_;refine PS ?_;refine FA 2 rF aP ?_;refine S0 1 aP ?_;refine nx J24 (sr λ_ J25=>PS ?_);refine nx J25 (ah (WK [1,0] (aw rfl rfl ?_)));have hf:gQ (co ((cnt+1:Nat):Int) bs) used D=(0,D'):=by rw[hwr,dx (by rw[dV];omega)];rfl
 rw[put_ok (by omega) (by omega) hf (by simpa using h55)];exact⟨rfl,rfl⟩
theorem Ig(d:Nat)(D:DS)(hD:D.Ok)(hI:Wal.DS.In D)(hb:D.ws.length≤1000000):
 DT 43 #[(.pointer (some ⟨d,0,none⟩))] T0 [dk d (D)] (dD (λv H=>((bY D).err≠0∧v= .tuple #[.pointer none, .slice none 0 0, .int .i64 (bY D).err]∧H=[dk d (bY D).D])∨((bY D).err=0∧∃lg vr,v= .tuple #[.pointer (some ⟨lg,0,none⟩),vr, .int .i64 0]∧H=[GX lg d (((bY D).recs.length:Nat):Int) (bY D).used,Qk vr (bY D).recs,dk d (bY D).D]))):=by
 refine BD 80 Tryz.func43 rfl rfl rfl λw0 F hF=>sr λ_ J1=>P3 ?_
 refine nx J1 (aa λ_ J2=>sr λ_ J3=>PS ?_);refine tp (gy rfl K7 rfl rfl) ?_;refine nx J3 (CN (qx J2 (sr λ_ J4=>PS ?_)));refine BV #[(.pointer (some ⟨d,0,none⟩)),(.int .i64 0),(.int .i64 0)] ?_;refine XB λb17=>?_
 refine PS ?_;refine nx J4 (sr λ_ J5=>PS ?_);refine nx J5 (aa λ_ J6=>am ?_)
 refine bG (α:=(Nat)×(List (List UInt8))×(Int)×(Value)) (λ⟨f,rs,used,vr⟩=>Scan D f rs used∧vr.oneCell'=true) (λ⟨f,rs,used,vr⟩=>[(0,(.pointer (some ⟨d,0,none⟩))),(2,(.pointer none)),(3,(.slice none 0 0)),(4,(.int .i64 0)),(5,(.pointer (some ⟨b17,0,none⟩))),(6,vr)]) (λ⟨f,rs,used,vr⟩=>[aj b17 [(.pointer (some ⟨d,0,none⟩)),(.int .i64 (((rs.length:Nat):Int))),(.int .i64 (used))] 171,dk d (D),m6 47 5 vr (rs)]) (λ⟨f,rs,used,vr⟩=>f) (jN,[],0,(.slice none 0 0))
  ⟨Scan.start D,rfl⟩ SB
  (λ_ s=>eI (List.Perm.trans (List.Perm.swap _ _ _) (List.Perm.cons _ (List.Perm.swap _ _ _))) (vz 47 5 s)) (λ⟨f,rs,used,vr⟩ hinv=>?_)
 obtain⟨hsc,hvr⟩:=hinv;obtain⟨hs1,hs2,hs3,hs4,hs5⟩:=id hsc;refine am (aa λ_ J7=>D1 0 de ?_);refine PD 0 ?_;refine PD 1 ?_;refine PD 2 ?_;refine FD 3 1 rF aP ?_;refine LX 4 Y3 (.int .i64 (((rs.length:Nat):Int))) ?_ (hc:=by exact rfl);refine ta 5 rfl (bC rfl rfl rfl (bK (by omega) (by omega))) ?_;refine PD 6 ?_;refine PD 7 ?_;refine FD 8 2 rF aP ?_;refine LX 9 Y3 (.int .i64 (used)) ?_ (hc:=by exact rfl);refine AL 10 ?_;refine CR QF (CC d D (((rs.length:Nat):Int)+1) used hD (by omega) (by omega)) (SM [1]) λvR HR hR=>?_
 rcases hR with⟨hst,rfl,rfl⟩| ⟨b,all,u,hst,rfl,rfl⟩
 have hss:=Scan.stop hsc hst;refine EN (PD 11 ?_);refine PD 12 ?_;refine PD 13 ?_;refine PD 14 ?_;refine PD 15 ?_;refine PD 16 ?_;refine PD 17 ?_;refine DN (ad J7 (aa λ_ J8=>sr λ_ J9=>PS ?_));refine PS ?_;refine nx J9 (CY (aW (aA (TE.miss (by decide) (aA (br (ad J6 (aa λ_ J10=>sr λ_ J11=>P2 ?_))))))));refine FA 2 rF aP ?_;refine LA 1 Y3 ?_;refine PS ?_;refine nx J11 (am ?_)
 refine bG (α:=(Int)×(DS)) (λ⟨at',D'⟩=>used≤at'∧at'≤2048∧ki (2048-used).toNat used D=ki (2048-at').toNat at' D'∧D'.Ok∧D'.ws.length≤D.ws.length+(at'-used).toNat) (λ⟨at',D'⟩=>[(0,(.pointer (some ⟨d,0,none⟩))),(5,(.pointer (some ⟨b17,0,none⟩))),(6,vr),(10,(.int .i64 (at')))]) (λ⟨at',D'⟩=>[aj b17 [(.pointer (some ⟨d,0,none⟩)),(.int .i64 (((rs.length:Nat):Int))),(.int .i64 (used))] 171,dk d (D'),m6 47 5 vr (rs)]) (λ⟨at',D'⟩=>(2048-at').toNat) (used,D)
  ⟨by omega,by omega,rfl,hD,by omega⟩ SB
  (λ_ s=>ak [1,0,0] rfl s) (λ⟨at',D'⟩ hinv=>?_)
 obtain⟨ha1,ha2,hwi,hD',hws⟩:=hinv;refine aa λ_ J12=>sr λ_ J13=>P2 ?_
 refine ap ?_ ?_<;>intro h59;refine nx J13 (CY (qx J12 (aa λ_ J14=>am (aa λ_ J15=>sr λ_ J16=>P2 ?_))));refine CR NI (BH d (D') at' hD' (by omega)) (SM [1]) λvR HR hR=>?_
 obtain⟨hv,rfl⟩:=hR;subst hv;refine BV ((dU zs).toArray) ?_;refine tp (PV.eqlBy (a:=((D').read at')) (b:=zs) (m:=2) OF OD rfl OG OI OH (mO hD' _) (by decide) rfl rfl rfl) ?_;refine ap ?_ ?_<;>intro h66;refine nx J16 (CY (aW (aA (br (ad J14 (ac (PS ?_)))))));refine AD ?_;refine PS ?_;refine au ?_
 exact aL ((at'+1,D'):(Int)×(DS)) ⟨by omega,by omega,by rw[hwi];exact Hg (by omega) h66,hD',by omega⟩ (by show(2048- (at'+1)).toNat< (2048-at').toNat;omega)
  SB
  (λ_ s=>ak [1,0,0] rfl s)
 refine nx J16 (CN (qx J15 (sr λ_ J17=>P2 ?_)));refine CQ OU (Ee d (D') at' (.slice none 0 0) ([]) hD' (by omega)) ID (λ_ _ _=> .inl (.inl ⟨rfl,rfl⟩)) λvR HR hR=>?_
 obtain⟨hv,rfl⟩:=hR;subst hv;refine PS ?_;refine nx J17 (sr λ_ J18=>P2 ?_);refine ap ?_ ?_<;>intro h71;refine nx J18 (CY (sr λ_ J19=>P4 ?_));refine nx J19 (ah (aI (ae (ae (aI (ae (WK [0] (n6 rfl rfl rfl rfl ?_))))))));rw[Fl hss (hwi.trans (Hh (by omega) h66 h71)) h71];exact .inl ⟨h71,rfl,rfl⟩;refine nx J18 (CN (aR (af (ad J14 (ac (PS ?_))))));refine AD ?_;refine PS ?_;refine au ?_
 exact aL ((at'+1,(D'.write at' []).2):(Int)×(DS)) ⟨by omega,by omega,by rw[hwi];exact Lu (by omega) h66 (by simpa using h71),DS.write_ok hD' _ _,by have:=DS.write_ws (D:=D') (at':=at') (bs:=[]);omega⟩ (by show(2048- (at'+1)).toNat< (2048-at').toNat;omega)
  SB
  (λ_ s=>ak [1,0,0] rfl s)
 refine nx J13 (CN (aW (aA (aA (br (ad J10 (aa λ_ J20=>sr λ_ J21=>PS ?_)))))));refine CR OT (G1 d (D') hD') (SM [1]) λvR HR hR=>?_
 obtain⟨hv,rfl⟩:=hR;subst hv;refine PS ?_;refine nx J21 (sr λ_ J22=>P2 ?_);refine ap ?_ ?_<;>intro h76;refine nx J22 (CY (sr λ_ J23=>P4 ?_));refine nx J23 (ah (ae (WK [0] (n6 rfl rfl rfl rfl ?_))));rw[Fk hss (hwi.trans (Cb (by omega))) h76];exact .inl ⟨h76,rfl,rfl⟩;refine nx J22 (CN (qx J20 (sr λ_ J24=>?_)))
 iterate 5 refine PS ?_
 refine nx J24 (ah (WK [1,1,0] (n6 rfl rfl rfl rfl ?_)));have h76':D'.sync.1=0:=by omega
 rw[GI hss (hwi.trans (Cb (by omega))) h76'];exact .inr ⟨rfl,b17,vr,rfl,rfl⟩;have hro:=pq hI hD (by omega) hst;have hfa:=(ma (mO hD _) hst).1;obtain⟨f',rfl,hsn⟩:=Scan.next hI hD hsc hst;refine TL.subLen 0 rfl rfl (λhul hu=>EN (PD 11 ?_));refine PD 12 ?_;refine PD 13 ?_;refine PD 14 ?_;refine PD 15 ?_;refine PD 16 ?_;refine PD 17 ?_;refine DN (ad J7 (aa λ_ J25=>sr λ_ J26=>PS ?_));refine PS ?_;refine nx J26 (CN (qx J25 (sr λ_ J27=>P2 ?_)));refine aM (cells:=#[u]) (ab rfl) rfl rfl rfl wx Iy rfl rfl rfl (tV hu (by simp)) (λb37=>?_);change TL _ _ _ _ _ _ _ _ _ [aj b37 [u] 47,ie u (b) 5,dk d (D),aj b17 [(.pointer (some ⟨d,0,none⟩)),(.int .i64 (((rs.length:Nat):Int))),(.int .i64 (used))] 171,m6 47 5 vr (rs)];refine cr (λ_ s=>aD [4] rfl s) (Nl (λus38=>bX (k:=0) (m:=1) (news:=[u]) (nn':=(rs).length+1) (xs':=us38++[u]) (ab rfl) rfl rfl rfl wx Iy rfl rfl rfl rfl rfl rfl (λ_ _=>gl rfl (RO 2) rfl) (List.forall_mem_cons.2 ⟨hu,λ_ h=>by cases h⟩) (by simp only[maxLen];omega) (by omega) rfl rfl (λv38 ov38=>?_)));change TL _ _ _ _ _ _ _ _ _ [own v38 ((rs).length+1) (us38++[u]) 47 1,eS us38 (rs) 5,aj b37 [u] 47,ie u (b) 5,dk d (D),aj b17 [(.pointer (some ⟨d,0,none⟩)),(.int .i64 (((rs.length:Nat):Int))),(.int .i64 (used))] 171]
 refine cr (H':=[own v38 ((rs).length+1) (us38++[u]) 47 1,eS us38 (rs) 5,ie u (b) 5,aj b37 [u] 47,dk d (D),aj b17 [(.pointer (some ⟨d,0,none⟩)),(.int .i64 (((rs.length:Nat):Int))),(.int .i64 (used))] 171]) (λ_ s=>aD [0,0,1] rfl s) (cr (λ_ s=>vB s) (PS ?_));refine nx J27 (sr λ_ J28=>P2 ?_);refine FA 1 rF aP ?_;refine LA 3 Y3 ?_;refine tp (nZ (v':=(.int .i64 ((((rs++[b]).length:Nat):Int)))) (bC rfl rfl rfl (bK (by omega) (by omega))) (congrArg (Value.int .i64) (by simp))) ?_;refine PS ?_;refine FA 1 rF aP ?_;refine S0 3 aP ?_;refine nx J28 (ac (P2 ?_));refine FA 2 rF aP ?_;refine LA 3 Y3 ?_;refine PS ?_;refine AD ?_;refine PS ?_;refine FA 2 rF aP ?_;refine S0 3 aP ?_;refine au (af ?_)
 exact aL ((f',rs++[b],used+all,v38):(Nat)×(List (List UInt8))×(Int)×(Value)) ⟨hsn,ov38⟩ (Nat.lt_succ_self _)
  SB
  (λ_ s=>ak [3,2,0] rfl s)
end Go.Proofs.YtkhjnolhhidecaaGreatDoor
end

section
namespace Wal
open Go Leg Codec Api Dsk
theorem C0(s ws:gi)(j:Int): ∀k,kX (DO s ws k) j=jg s ws j k
 |0=>rfl
 |k+1=>by
  rw[DO,jg,Jw,C0 s ws j k]
  by_cases h:j=(lm ws k).1
  · rw[if_pos h,if_pos h.symm]
  · rw[if_neg h,if_neg (λq=>h q.symm)]
theorem Ji{ws x:gi}{k:Nat}(h:k<ws.length):lm (ws++x) k=lm ws k:=by simp[lm,List.getD_eq_getElem?_getD,List.getElem?_append_left h]
theorem xC{s ws x:gi}{j:Int}: ∀k,k≤ws.length→jg s (ws++x) j k=jg s ws j k
 |0,_=>rfl
 |k+1,h=>by rw[jg,jg,Ji (by omega),xC k (by omega)]
theorem HX(s ws:gi)(p:Int×jx)(j:Int):jg s (ws++[p]) j (ws++[p]).length=if j=p.1 then p.2 else jg s ws j ws.length:=by
 rw[ag,av,az,bm,jg,xC _ (aK _)];have:lm (ws++[p]) ws.length=p:=by simp[lm,List.getD_eq_getElem?_getD]
 rw[this]
 by_cases h:j=p.1
 · rw[if_pos h,if_pos h.symm]
 · rw[if_neg h,if_neg (λq=>h q.symm)]
def Bj(D:DS)(at':Int)(bs:List UInt8):DS:= {D with ws:=D.ws++[(at',eV bs)],lf:=if D.ar=true then D.lf-1 else D.lf,dn:=false}
theorem rX{D:DS}{at':Int}{bs:List UInt8}(h1:0≤at'∧at'<2048)(h2:bs.length≤64)(h3:D.dn=false)(h4:D.ar=false∨0<D.lf):D.write at' bs=(0,Bj D at' bs):=by
 rw[DS.write,if_neg (by omega),if_neg]
 · rfl
 · rintro (h| ⟨h,h5⟩)
   · rw[h3]at h;cases h
   · rcases h4 with h4|h4
     · rw[h4]at h;cases h
     · omega
theorem wO{D:DS}{at':Int}{bs:List UInt8}(h1:0≤at'∧at'<2048)(h2:bs.length≤64)(h4:D.ar=true∧D.lf=0):D.write at' bs=(4,{D with dn:=true}):=by
 rw[DS.write,if_neg (by omega),if_pos (.inr h4)]
theorem H3(D:DS)(at':Int)(bs:List UInt8)(j:Int):(Bj D at' bs).read j=if j=at' then eV bs else D.read j:=HX _ _ _ _
theorem Bh{D:DS}(h:D.Ok){at':Int}{bs:List UInt8}(h2:bs.length≤64)(h4:D.ar=false∨0<D.lf):(Bj D at' bs).Ok:=by
 refine⟨h.s,h.ws.add _ (dQ h2),?_⟩;have:=h.lf;show 0≤(if D.ar=true then D.lf-1 else D.lf)∧(if D.ar=true then D.lf-1 else D.lf)≤9223372036854775807;split
 · rename_i h5
   rcases h4 with h4|h4
   · rw[h4]at h5;cases h5
   · omega
 · exact this
theorem Bi{D:DS}(h:Wal.DS.In D){at':Int}{bs:List UInt8}(h1:0≤at'∧at'<2048):Wal.DS.In (Bj D at' bs):=⟨h.1,λp hp=>by
 rcases fq.1 hp with hp|hp
 · exact h.2 p hp
 · simp only[g9]at hp;subst hp;exact h1⟩
theorem In.put{s:gi}(h:In s){k:Int}{v:jx}(h1:0≤k∧k<2048):In (oT s k v):=by
 induction s with
 |nil=>intro p hp;simp only[oT,g9]at hp;subst hp;exact h1
 |cons p s ih=>
  obtain⟨a,b⟩:=p;intro q hq;simp only[oT]at hq;split at hq
  · rcases bU.1 hq with rfl|hq
    · exact h (a,b) (by simp)
    · exact h q (by simp[hq])
  · rcases bU.1 hq with rfl|hq
    · exact h (a,b) (by simp)
    · exact ih (λq hq=>h q (by simp[hq])) q hq
theorem In.lay{s ws:gi}(h:In s)(hw:In ws): ∀k,k≤ws.length→In (DO s ws k)
 |0,_=>h
 |k+1,hk=>by
  have:=hw (lm ws k) (by rw[wU (by omega)];exact ek _);exact(In.lay h hw k (by omega)).put this
theorem In.crash{mask torn:Int}{c:Nat}{s ws:gi}(h:In s)(hw:In ws): ∀k,k≤ws.length→In (nW mask torn c s ws k)
 |0,_=>h
 |k+1,hk=>by
  have h1:=hw (lm ws k) (by rw[wU (by omega)];exact ek _);have ih:=In.crash (mask:=mask) (torn:=torn) (c:=c) h hw k (by omega);simp only[nW,ny];split
  · exact ih.put h1
  · split
    · exact ih.put h1
    · exact ih
theorem In.nil:In []:=λ_ h=>absurd h (by simp)
abbrev RM:= @In.nil
structure Calm(D:DS):Prop where
 ok:D.Ok
 inn:Wal.DS.In D
 ar:D.ar=false
 dn:D.dn=false
theorem Calm.crash{D:DS}(h:D.Ok)(hi:Wal.DS.In D)(mask torn n:Int):Calm (D.crash mask torn n):=⟨DS.crash_ok h _ _ _,⟨hi.1.crash hi.2 _ (aK _),RM⟩,rfl,rfl⟩
theorem zB{D:DS}(h:D.dn=false)(j:Int):D.sync.2.read j=D.read j:=by
 unfold DS.sync;rw[if_neg (by simp[h])];exact C0 _ _ _ _
theorem rk{D:DS}(h:D.dn=false):D.sync.1=0∧D.sync.2.ws=[]∧D.sync.2.dn=false∧D.sync.2.ar=D.ar∧D.sync.2.lf=D.lf:=by
 unfold DS.sync;rw[if_neg (by simp[h])];exact⟨rfl,rfl,h,rfl,rfl⟩
theorem AY{D:DS}(h:Wal.DS.In D):Wal.DS.In D.sync.2:=by
 unfold DS.sync;split
 · exact h
 · exact⟨h.1.lay h.2 _ (aK _),RM⟩
theorem Calm.sync{D:DS}(h:Calm D):Calm D.sync.2:=by
 obtain⟨_,_,h3,h4,_⟩:=rk h.dn;exact⟨DS.sync_ok h.ok,AY h.inn,h4.trans h.ar,h3⟩
theorem Calm.put{D:DS}(h:Calm D){at':Int}{bs:List UInt8}(h1:0≤at'∧at'<2048)(h2:bs.length≤64):Calm (Bj D at' bs):=⟨Bh h.ok h2 (.inl h.ar),Bi h.inn h1,h.ar,rfl⟩
theorem JR:eV []=zs:=rfl
theorem ux: ∀(n:Nat) (at':Int) (D:DS),Calm D→0≤at'→at'+n≤2048→∃D',ki n at' D=(0,D')∧Calm D'∧∀j,D'.read j=if at'≤j∧j<at'+n then zs else D.read j
 |0,at',D,h,_,_=>⟨D,rfl,h,λj=>by rw[if_neg (by omega)]⟩
 |n+1,at',D,h,h0,h1=>by
  by_cases hz:D.read at'=zs
  · obtain⟨D',e,c,r⟩:=ux n (at'+1) D h (by omega) (by omega)
    refine⟨D',by rw[ki,if_pos hz,e],c,λj=>?_⟩;rw[r j]
    by_cases q:j=at'
    · subst q;rw[if_neg (by omega),if_pos (by omega),hz]
    · by_cases q2:at'+1≤j∧j<at'+1+n
      · rw[if_pos q2,if_pos (by omega)]
      · rw[if_neg q2,if_neg (by omega)]
  · have hw:=rX (D:=D) (at':=at') (bs:=[]) (by omega) (by simp) h.dn (.inl h.ar)
    obtain⟨D',e,c,r⟩:=ux n (at'+1) (Bj D at' []) (h.put (by omega) (by simp)) (by omega) (by omega);refine⟨D',by rw[ki,if_neg hz,hw,if_pos rfl,e],c,λj=>?_⟩;rw[r j,H3,JR]
    by_cases q:j=at'
    · subst q;rw[if_neg (by omega),if_pos rfl,if_pos (by omega)]
    · rw[if_neg q]
      by_cases q2:at'+1≤j∧j<at'+1+n
      · rw[if_pos q2,if_pos (by omega)]
      · rw[if_neg q2,if_neg (by omega)]
theorem HJ{D:DS}(h:Calm D):0≤(gH D.read jN 0 0).2∧(gH D.read jN 0 0).2≤2048∧((gH D.read jN 0 0).1.length:Int)≤(gH D.read jN 0 0).2:=by
 have key: ∀f rs used,Scan D f rs used→∃rs' used',gH D.read jN 0 0=(rs',used')∧0≤used'∧used'≤2048∧(rs'.length:Int)≤used':=by
  intro f
  induction f with
  |zero=>
   intro rs used hs;cases hst:gB D.read ((rs.length:Int)+1) used with
   |none=>exact⟨rs,used,hs.stop hst,hs.2.1,hs.2.2.1,hs.2.2.2.2⟩
   |some p=>obtain⟨b,all⟩:=p;obtain⟨f',e,_⟩:=Scan.next h.inn h.ok hs hst;omega
  |succ f ih=>
   intro rs used hs;cases hst:gB D.read ((rs.length:Int)+1) used with
   |none=>exact⟨rs,used,hs.stop hst,hs.2.1,hs.2.2.1,hs.2.2.2.2⟩
   |some p=>
    obtain⟨b,all⟩:=p;obtain⟨f',e,hs'⟩:=Scan.next h.inn h.ok hs hst;obtain rfl:f=f':=by omega
    exact ih _ _ hs'
 obtain⟨rs,used,e,h1,h2,h3⟩:=key _ _ _ (Scan.start D);rw[e];exact⟨h1,h2,h3⟩
theorem Ih{D:DS}(h:Calm D): ∃D',bY D=⟨0,(gH D.read jN 0 0).1,(gH D.read jN 0 0).2,D'⟩∧Calm D'∧D'.ws=[]∧∀j,D'.read j=if(gH D.read jN 0 0).2≤j∧j<2048 then zs else D.read j:=by
 obtain⟨h1,h2,_⟩:=HJ h;generalize hr:gH D.read jN 0 0=r at*;obtain⟨rs,used⟩:=r;simp only at h1 h2 ⊢;obtain⟨D',e,c,rd⟩:=ux (2048-used).toNat used D h h1 (by omega);obtain⟨s1,s2,_⟩:=rk c.dn;refine⟨D'.sync.2,GI hr e s1,c.sync,s2,λj=>?_⟩;rw[zB c.dn,rd j]
 by_cases q:used≤j∧j<2048
 · rw[if_pos q,if_pos (by omega)]
 · rw[if_neg q,if_neg (by omega)]
def js:Nat→List (List UInt8)→List jx
 |_,[]=>[]
 |n,b::ls=>co ((n+1:Nat):Int) b++js (n+1) ls
def fL(ls:List (List UInt8)):Nat:=(js 0 ls).length
theorem pI: ∀(a:List (List UInt8)) (n:Nat) (b:List (List UInt8)),js n (a++b)=js n a++js (n+a.length) b
 | [],n,b=>by simp[js]
 |x::a,n,b=>by
  simp only[kO,js,pI a (n+1) b,aG,av];rw[show n+1+a.length=n+(a.length+1)by omega]
theorem An: ∀(ls:List (List UInt8)) (n m:Nat),(js n ls).length=(js m ls).length
 | [],_,_=>rfl
 |b::ls,n,m=>by simp only[js,ag,dV,An ls (n+1) (m+1)]
theorem zG(ls:List (List UInt8))(b:List UInt8):fL (ls++[b])=fL ls+bq b.length:=by
 simp[fL,pI,js,dV]
theorem CU: ∀ls:List (List UInt8),ls.length≤fL ls
 | []=>aK _
 |b::ls=>by
  have h1:=CU ls;have h2:=qG b.length;have h3:=An ls 1 0;simp only[fL,js,ag,dV,av,h3]at*;omega
theorem A9{number:Int}{b:List UInt8}{k:Nat}(h:k< (co number b).length):(co number b)[k]=qA number k (bq b.length) (hJ b k):=by simp[co]
theorem tv(number:Int)(b:List UInt8): ∀s∈co number b,s.length=64:=λs hs=>by
 obtain⟨i,_,rfl⟩:=gN.1 hs;exact HH (uM b i)
theorem xJ{number:Int}{b:List UInt8}{k:Nat}(h:k< (co number b).length)(h0:0≤number)(h1:number<4294967296)(hb:b.length≤3000):fQ (co number b)[k] number k=some (hJ b k,((bq b.length:Nat):Int)):=by
 rw[A9 h];rw[dV]at h;exact Do (uM b k) h0 h1 h (by have:=py hb;omega)
theorem Ae{rd:Int→jx}{number at':Int}{b:List UInt8}(h0:0≤number)(h1:number<4294967296)(hb:b.length≤3000): ∀k,k≤bq b.length→(∀j (h:j< (co number b).length),j<k→rd (at'+j)=(co number b)[j])→
 lJ rd number at' ((bq b.length:Nat):Int) k=some ((List.range k).map (hJ b)).flatten
 |0,_,_=>rfl
 |k+1,hk,h=>by
  have ih:=Ae h0 h1 hb k (by omega) (λj hj hj2=>h j hj (by omega));have hl:k< (co number b).length:=by rw[dV];omega
  rw[xT ih (by rw[h k hl (by omega)];exact xJ hl h0 h1 hb)];simp[cQ]
theorem CB{rd:Int→jx}{number at':Int}{b:List UInt8}(h0:0≤number)(h1:number<4294967296)(hb:b.length≤3000)(h: ∀j (h:j< (co number b).length),rd (at'+j)=(co number b)[j]):gB rd number at'=some (b,((bq b.length:Nat):Int)):=by
 have hl:0< (co number b).length:=by rw[dV];exact qG _
 have hp:fQ (rd at') number 0=some (hJ b 0,((bq b.length:Nat):Int)):=by
  have e:=h 0 hl;rw[show at'+((0:Nat):Int)=at' by omega]at e;rw[e];exact xJ hl h0 h1 hb
 refine tm hp ?_;rw[Lk,Ae h0 h1 hb _ (aK _) (λj hj _=>h j hj),H9 b _ (yT _)]
def Shows(rd:Int→jx)(at':Int)(l:List jx):Prop:=∀j (h:j<l.length),rd (at'+j)=l[j]
theorem Shows.left{rd:Int→jx}{at':Int}{a b:List jx}(h:Shows rd at' (a++b)):Shows rd at' a:=λj hj=>by
 rw[h j (by rw[ag];omega),Rr hj]
theorem Shows.right{rd:Int→jx}{at':Int}{a b:List jx}(h:Shows rd at' (a++b)):Shows rd (at'+a.length) b:=λj hj=>by
 have:=h (a.length+j) (by rw[ag];omega);rw[show at'+((a.length+j:Nat):Int)=at'+a.length+j by omega]at this;rw[this,Qn (by omega)];congr 1;omega
theorem C7{rd:Int→jx}: ∀(ls:List (List UInt8)) (n:Nat) (at':Int) (f:Nat),(∀b∈ls,b.length≤3000)→n+ls.length<4294967296→Shows rd at' (js n ls)→
 gH rd (ls.length+f) n at'=(ls++(gH rd f ((n+ls.length:Nat):Int) (at'+(js n ls).length)).1,(gH rd f ((n+ls.length:Nat):Int) (at'+(js n ls).length)).2)
 | [],n,at',f,_,_,_=>by simp[js]
 |b::ls,n,at',f,hl,hn,h=>by
  simp only[js]at h ⊢;simp only[av]at hn ⊢;have hs:=CB (rd:=rd) (number:=((n+1:Nat):Int)) (at':=at') (by omega) (by omega) (hl b (by simp)) h.left;have ih:=C7 (rd:=rd) ls (n+1) (at'+(co ((n+1:Nat):Int) b).length) f (λx hx=>hl x (by simp[hx])) (by omega) h.right;rw[dV]at ih;rw[show ls.length+1+f=(ls.length+f)+1 by omega,GC (b:=b) (all:=((bq b.length:Nat):Int)) (by rw[←hs];congr 1)];rw[show((n:Nat):Int)+1=((n+1:Nat):Int)by omega,ih];rw[ag,dV,show n+1+ls.length=n+(ls.length+1)by omega,show at'+((bq b.length+(js (n+1) ls).length:Nat):Int)=at'+((bq b.length:Nat):Int)+(((js (n+1) ls).length:Nat):Int)by omega];simp
structure LogD(D:DS)(ls:List (List UInt8)):Prop where
 ok:D.Ok
 inn:Wal.DS.In D
 ws:D.ws=[]
 short: ∀b∈ls,b.length≤3000
 room:fL ls≤2048
 shows:Shows D.read 0 (js 0 ls)
 zero: ∀j,((fL ls:Nat):Int)≤j→D.read j=zs
theorem LogD.len{D:DS}{ls:List (List UInt8)}(h:LogD D ls):ls.length≤2048:=by have:=CU ls;have:=h.room;omega
theorem Hw{rd:Int→jx}{number at':Int}(h:(rd at').getD 63 0≠1):gB rd number at'=none:=rJ (st h)
theorem Nq:zs.getD 63 0≠1:=by decide
theorem LogD.scan{D:DS}{ls:List (List UInt8)}(h:LogD D ls):gH D.read jN 0 0=(ls,((fL ls:Nat):Int)):=by
 have hl:=h.len;obtain⟨f,hf⟩: ∃f,jN=ls.length+f:=⟨jN-ls.length,by rw[tS];omega⟩;have:=C7 (rd:=D.read) ls 0 0 f h.short (by omega) h.shows;rw[←hf]at this;rw[show((0:Nat):Int)=0 from rfl]at this;have hz:=h.zero _ (Int.le_refl _);simp only[fL]at hz;rw[this,Int.zero_add,zK (Hw (by rw[hz];exact Nq))];simp[fL]
theorem LogD.new:LogD DS.new []:=⟨DS.new_ok,⟨RM,RM⟩,rfl,λ_ h=>absurd h (by simp),by decide,λj h=>absurd h (by simp[js]),λj _=>rfl⟩
theorem LogD.open{D:DS}{ls:List (List UInt8)}(h:LogD D ls)(ha:D.ar=false)(hd:D.dn=false): ∃D',bY D=⟨0,ls,((fL ls:Nat):Int),D'⟩∧LogD D' ls∧D'.ar=false∧D'.dn=false:=by
 obtain⟨D',e,c,hw,hr⟩:=Ih (D:=D) ⟨h.ok,h.inn,ha,hd⟩;rw[h.scan]at e hr
 have hrd: ∀j,D'.read j=D.read j:=λj=>by
  rw[hr j];split
  · rename_i q;rw[h.zero j q.1]
  · rfl
 exact⟨D',e,⟨c.ok,c.inn,hw,h.short,h.room,λj hj=>by rw[hrd];exact h.shows j hj,λj hj=>by rw[hrd];exact h.zero j hj⟩,c.ar,c.dn⟩
def wj:Int→List jx→gi
 |_,[]=>[]
 |at',s::ss=>(at',s)::wj (at'+1) ss
theorem B5: ∀(ss:List jx) (at':Int),(wj at' ss).length=ss.length
 | [],_=>rfl
 |s::ss,at'=>by simp[wj,B5 ss]
theorem Ch: ∀(ss:List jx) (at':Int) (k:Nat) (h:k<ss.length),lm (wj at' ss) k=(at'+k,ss[k])
 |s::ss,at',0,_=>by simp[wj,lm]
 |s::ss,at',k+1,h=>by
  have ih:=Ch ss (at'+1) k (by simpa using h);simp only[lm,wj,List.getD_cons_succ]at ih ⊢;rw[ih];simp only[RL,Prod.mk.injEq,and_true];omega
theorem Ia{s:jx}(h:s.length=64):eV s=s:=by simp[eV,h]
theorem vm: ∀(ss:List jx) (at':Int) (D:DS),D.Ok→Wal.DS.In D→D.dn=false→0≤at'→at'+ss.length≤2048→(∀s∈ss,s.length=64)→
 ∃(m:Nat) (D':DS),m≤ss.length∧gQ ss at' D=((if m=ss.length then 0 else 4),D')∧D'.Ok∧Wal.DS.In D'∧D'.s=D.s∧D'.ws=D.ws++wj at' (ss.take m)∧D'.dn=decide (m<ss.length)∧D'.ar=D.ar∧(D.ar=false→m=ss.length)
 | [],at',D,h,hi,hd,_,_,_=>⟨0,D,aK _,rfl,h,hi,rfl,by simp[wj],by simp[hd],rfl,λ_=>rfl⟩
 |s::ss,at',D,h,hi,hd,h0,h1,hs=>by
  simp only[av]at h1;have hs1:=hs s (by simp)
  by_cases hc:D.ar=true∧D.lf=0
  · have hw:=wO (D:=D) (at':=at') (bs:=s) (by omega) (by omega) hc
    refine⟨0,{D with dn:=true},aO _,?_,⟨h.s,h.ws,h.lf⟩,hi,rfl,by simp[wj],by simp,rfl,λq=>by rw[q]at hc;cases hc.1⟩;rw[gQ,hw];simp
  · have h4:D.ar=false∨0<D.lf:=by
     have:=h.lf;cases q:D.ar
     · exact .inl rfl
     · right
       have:D.lf≠0:=λe=>hc ⟨q,e⟩
       omega
    have hw:=rX (D:=D) (at':=at') (bs:=s) (by omega) (by omega) hd h4;obtain⟨m,D',a1,a2,a3,a4,a5,a6,a7,a8,a9⟩:=vm ss (at'+1) (Bj D at' s) (Bh h (by omega) h4) (Bi hi (by omega)) rfl (by omega) (by omega) (λx hx=>hs x (by simp[hx]));refine⟨m+1,D',by simp;omega,?_,a3,a4,a5.trans rfl,?_,by rw[a7];simp,a8.trans rfl,λq=>by rw[a9 q];rfl⟩
    · rw[gQ,hw]
      simp only[if_true,a2,av,Nat.add_right_cancel_iff]
    · rw[a6]
      simp only[Bj,List.take_succ_cons,wj,Ia hs1,aG,kO,ba]
theorem Shows.append{rd:Int→jx}{at':Int}{a b:List jx}(h:Shows rd at' a)(g:Shows rd (at'+a.length) b):Shows rd at' (a++b):=λj hj=>by
 by_cases q:j<a.length
 · rw[Rr q];exact h j q
 · rw[Qn (by omega),←g (j-a.length) (by rw[ag]at hj;omega)]
   congr 1;omega
theorem zQ(s:gi)(l:List jx)(at' j:Int): ∀k,k≤l.length→jg s (wj at' l) j k=if at'≤j∧j<at'+k then l.getD (j-at').toNat zs else kX s j
 |0,_=>by rw[if_neg (by omega)];rfl
 |k+1,hk=>by
  rw[jg,Ch l at' k (by omega),zQ s l at' j k (by omega)]
  by_cases q:at'+k=j
  · rw[if_pos q,if_pos (by omega),show(j-at').toNat=k by omega]
    simp[List.getD_eq_getElem?_getD,show k<l.length by omega]
  · rw[if_neg q]
    by_cases q2:at'≤j∧j<at'+k
    · rw[if_pos q2,if_pos (by omega)]
    · rw[if_neg q2,if_neg (by omega)]
structure Half(D:DS)(ls:List (List UInt8))(bs:List UInt8):Prop where
 ok:D.Ok
 inn:Wal.DS.In D
 short: ∀b∈ls,b.length≤3000
 short':bs.length≤3000
 room:fL ls+bq bs.length≤2048
 shows:Shows (kX D.s) 0 (js 0 ls)
 zero: ∀j,((fL ls:Nat):Int)≤j→kX D.s j=zs
 ws: ∃m,m≤bq bs.length∧D.ws=wj ((fL ls:Nat):Int) ((co ((ls.length+1:Nat):Int) bs).take m)
theorem LogD.rds{D:DS}{ls:List (List UInt8)}(h:LogD D ls)(j:Int):D.read j=kX D.s j:=by rw[DS.read,h.ws];rfl
theorem JM{D:DS}{ls:List (List UInt8)}{bs:List UInt8}(h:LogD D ls)(hd:D.dn=false)(hb:bs.length≤3000):
 (2048<fL ls+bq bs.length∧mw D ls.length ((fL ls:Nat):Int) bs=⟨3,ls.length,((fL ls:Nat):Int),D⟩)∨
 (fL ls+bq bs.length≤2048∧∃D',mw D ls.length ((fL ls:Nat):Int) bs=⟨0,ls.length+1,((fL (ls++[bs]):Nat):Int),D'⟩∧LogD D' (ls++[bs])∧D'.dn=false∧D'.ar=D.ar)∨
 (D.ar=true∧∃D',mw D ls.length ((fL ls:Nat):Int) bs=⟨4,ls.length,((fL ls:Nat):Int),D'⟩∧Half D' ls bs):=by
 have hl:=h.len;have hp:=py hb
 by_cases hr:2048<fL ls+bq bs.length
 · exact .inl ⟨hr,Dl (by omega) (by omega)⟩
 · right
   have hss:(co ((ls.length+1:Nat):Int) bs).length=bq bs.length:=dV _ _;obtain⟨m,D',a1,a2,a3,a4,a5,a6,a7,a8,a9⟩:=vm (co ((ls.length+1:Nat):Int) bs) ((fL ls:Nat):Int) D h.ok h.inn hd (by omega) (by rw[hss];omega) (tv _ _);rw[hss]at a1 a2 a7 a9;rw[h.ws,ba]at a6
   by_cases hm:m=bq bs.length
   · left
     subst hm;rw[if_pos rfl]at a2;have hdn:D'.dn=false:=by rw[a7];simp
     obtain⟨s1,s2,s3,s4,s5⟩:=rk hdn;rw[aC (by rw[hss];exact aK _)]at a6
     have hrd: ∀j,D'.sync.2.read j=if((fL ls:Nat):Int)≤j∧j< ((fL ls:Nat):Int)+bq bs.length then(co ((ls.length+1:Nat):Int) bs).getD (j- ((fL ls:Nat):Int)).toNat zs else D.read j:=λj=>by
      rw[zB hdn,DS.read,a6,B5,zQ _ _ _ _ _ (aK _),hss,a5,h.rds]
     have hsz:=zG ls bs;refine⟨by omega,D'.sync.2,?_,⟨DS.sync_ok a3,AY a4,s2,λb hb'=>?_,by omega,?_,λj hj=>?_⟩,s3,s4.trans a8⟩
     · rw[put_ok (by omega) (by omega) a2 s1,hsz]
       simp only[PutR.mk.injEq,true_and,and_true];omega
     · rcases fq.1 hb' with hb'|hb'
       · exact h.short b hb'
       · simp only[g9]at hb';subst hb';exact hb
     · rw[pI]
       refine Shows.append (λj hj=>?_) λj hj=>?_
       · rw[hrd,if_neg (by simp only[fL];omega)];exact h.shows j hj
       · simp only[js,aY,bm]at hj ⊢
         rw[hrd,if_pos (by simp only[fL];rw[hss]at hj;omega),show(0+(((js 0 ls).length:Nat):Int)+(j:Int)- ((fL ls:Nat):Int)).toNat=j by simp only[fL];omega];rw[List.getD_eq_getElem?_getD,List.getElem?_eq_getElem hj];rfl
     · rw[hrd,if_neg (by omega)]
       exact h.zero j (by omega)
   · right
     have har:D.ar=true:=by
      cases q:D.ar
      · exact absurd (a9 q) hm
      · rfl
     rw[if_neg hm]at a2;refine⟨har,D',zV (by omega) (by omega) a2 (by decide),⟨a3,a4,h.short,hb,by omega,λj hj=>?_,λj hj=>?_,m,a1,a6⟩⟩
     · rw[a5,←h.rds];exact h.shows j hj
     · rw[a5,←h.rds];exact h.zero j hj
end Wal
end

section
namespace Go.Proofs.YtkhjnolhhidecaaGreatDoor
open Go Leg Codec Api
theorem EO(wb b off cap:Nat)(v:Value)(bs:List UInt8)(l:List Int)(cs:List Value)(T:TypeId)(z:Nat×Nat)(hlen:bs.length+10*l.length≤140737488355328)(hb: ∀j,j<l.length→cs[off+j]?=some (.int .i64 (l.getD j 0))):
 DT 165 #[(.pointer (some ⟨wb,0,none⟩)),(.slice (some ⟨b,off,none⟩) (l.length) (cap))] (λF=>F b=some (.cells cs.toArray T z)) [aj wb [v] 239,cI v (bs) 5] (qW 239 5 wb (bs++bh l)):=by
 refine BD 45 Tryz.func165 rfl rfl rfl λw0 F hF=>sr λ_ J1=>PS ?_
 refine nx J1 (aa λ_ J2=>sr λ_ J3=>PS ?_);refine tp (qZ rfl dZ rfl) ?_;refine PS ?_;refine nx J3 (am ?_)
 refine bG (α:=(Nat)×(Value)×(List UInt8)) (λ⟨k,u,laid⟩=>k≤l.length∧laid++bh (l.drop k)=bs++bh l) (λ⟨k,u,laid⟩=>[(0,(.pointer (some ⟨wb,0,none⟩))),(4,(.pointer none)),(8,(.slice (some ⟨b,off,none⟩) (l.length) (cap))),(9,(.int .i64 (((l.length:Nat):Int)))),(10,(.int .i64 ((k:Nat))))]) (λ⟨k,u,laid⟩=>[aj wb [u] 239,cI u (laid) 5]) (λ⟨k,u,laid⟩=>l.length-k) (0,v,bs)
  ⟨by omega,rfl⟩ SB
  (λ_ s=>s) (λ⟨k,u,laid⟩ hinv=>?_)
 obtain⟨hk,hL⟩:=hinv;refine sr λ_ J4=>PS ?_
 refine ap ?_ ?_<;>intro h11;refine nx J4 (aa λ_ J5=>CY (qx J5 (aa λ_ J6=>am (sr λ_ J7=>tp (kh (r:=off+k) rfl dZ aP rfl rfl (by first|omega|decide) (by first|omega|decide) (by omega)) ?_))));refine tp (fJ (v:=(.int .i64 ((l.getD k 0)))) rfl Y3 rfl rfl (Rd.ro hF) (hb k (by omega))) ?_;refine PS ?_;refine nx J7 (sr λ_ J8=>PS ?_);refine tp (cD (r:=((((l.getD k 0%18446744073709551616).toNat:Nat)):Int)) rfl Y3 Tryz.underlying255 rfl (AI _)) ?_;refine PS ?_;refine nx J8 (aa λ_ J9=>am ?_)
 refine bG (α:=(Nat)×(Value)×(List UInt8)) (λ⟨m,u2,laid2⟩=>laid2++(wo m++bh (l.drop (k+1)))=bs++bh l) (λ⟨m,u2,laid2⟩=>[(0,(.pointer (some ⟨wb,0,none⟩))),(4,(.pointer none)),(7,(.int .u64 ((m:Nat)))),(8,(.slice (some ⟨b,off,none⟩) (l.length) (cap))),(9,(.int .i64 (((l.length:Nat):Int)))),(10,(.int .i64 ((k:Nat))))]) (λ⟨m,u2,laid2⟩=>[aj wb [u2] 239,cI u2 (laid2) 5]) (λ⟨m,u2,laid2⟩=>m) ((l.getD k 0%18446744073709551616).toNat,u,laid)
  (by rw[←hL,IJ (l:=l) (k:=k) (by omega)];rfl) SB
  (λ_ s=>s) (λ⟨m,u2,laid2⟩ hinv=>?_)
 have hM:=hinv;refine aa λ_ J10=>sr λ_ J11=>P2 ?_
 refine ap ?_ ?_<;>intro h17;refine nx J11 (CY (qx J10 (am (sr λ_ J12=>P3 ?_))));refine FA 0 K9 lC ?_;refine LA 0 fM ?_;refine PS ?_;refine tp (cD (r:=(IntKind.u8.wrap ((m:Nat):Int))) rfl Tryz.underlying255 Y5 rfl rfl) ?_;refine tp (Hd (r:=(((UInt8.ofNat (m%128+128)).toNat:Nat):Int)) rfl rfl rfl (OO m)) ?_;refine aM (cells:=#[(.int .u8 ((((UInt8.ofNat (m%128+128)).toNat:Nat):Int)))]) (ab rfl) rfl rfl rfl fM ut rfl rfl rfl (by as_aux_lemma=>kernel_rfl) (λb26=>bX (k:=2) (news:=dU ([(UInt8.ofNat (m%128+128))])) (nn':=(laid2++[(UInt8.ofNat (m%128+128))]:List UInt8).length) (xs':=dU (laid2++[(UInt8.ofNat (m%128+128))])) (ab rfl) rfl rfl rfl fM ut rfl rfl rfl rfl rfl rfl (λ_ _=>gl rfl (RO 0) rfl) (e9 [(UInt8.ofNat (m%128+128))]) (by have:=congrArg List.length hM;have:=aZ l;have:=qP m;simp only[ag,maxLen]at*;omega) (by have:=congrArg List.length hM;have:=aZ l;have:=qP m;simp only[ag]at*;omega) (by simp) (gC _ _).symm (λv27 ov27=>PS ?_));refine FA 0 K9 lC ?_;refine bH (i:=1) (ab rfl) rfl rfl rfl rfl ov27 lC rfl rfl (lb rfl) rfl rfl (nx J12 (ac (PS ?_)));refine tp (iA (r:=((m / 128:Nat):Int)) rfl rfl rfl (by omega) (Qv m)) ?_;refine PS ?_;refine au (af ?_)
 exact aL ((m / 128,v27,laid2++[(UInt8.ofNat (m%128+128))]):(Nat)×(Value)×(List UInt8)) (by rw[←hM,tW (by omega)];simp) (by show m / 128<m;omega)
  SB
  (λ_ s=>ak [1,1] rfl s)
 refine nx J11 (CN (aW (aA (aA (br (ad J9 (ac (P3 ?_))))))));refine FA 0 K9 lC ?_;refine LA 0 fM ?_;refine PS ?_;refine tp (cD (r:=(((UInt8.ofNat m).toNat:Nat):Int)) rfl Tryz.underlying255 Y5 rfl (MG (by omega))) ?_;refine aM (cells:=#[(.int .u8 ((((UInt8.ofNat m).toNat:Nat):Int)))]) (ab rfl) rfl rfl rfl fM ut rfl rfl rfl (by as_aux_lemma=>kernel_rfl) (λb39=>bX (k:=2) (news:=dU ([(UInt8.ofNat m)])) (nn':=(laid2++[(UInt8.ofNat m)]:List UInt8).length) (xs':=dU (laid2++[(UInt8.ofNat m)])) (ab rfl) rfl rfl rfl fM ut rfl rfl rfl rfl rfl rfl (λ_ _=>gl rfl (RO 0) rfl) (e9 [(UInt8.ofNat m)]) (by have:=congrArg List.length hM;have:=aZ l;have:=qP m;simp only[ag,maxLen]at*;omega) (by have:=congrArg List.length hM;have:=aZ l;have:=qP m;simp only[ag]at*;omega) (by simp) (gC _ _).symm (λv40 ov40=>PS ?_));refine FA 0 K9 lC ?_;refine bH (i:=1) (ab rfl) rfl rfl rfl rfl ov40 lC rfl rfl (lb rfl) rfl rfl (au (af (ad J6 (ac (AD ?_)))));refine PS ?_;refine au ?_
 exact aL ((k+1,v40,laid2++[(UInt8.ofNat m)]):(Nat)×(Value)×(List UInt8)) ⟨by omega,by rw[←hM,rr (by omega)];simp⟩ (by show _-_<_-_;omega)
  SB
  (λ_ s=>ak [1,1] rfl s)
 refine nx J4 (aa λ_ J13=>CN (aW (aA (aA (br (ad J2 (sr λ_ J14=>P2 ?_)))))));refine nx J14 (ah (WK [0,0] (aw rfl rfl ?_)));obtain rfl:laid=bs++bh l:=by rw[←hL,dS (by omega)];simp[bh]
 exact⟨u,rfl,rfl⟩
theorem Jc(wb:Nat)(v:Value)(bs:List UInt8):
 DT 165 #[(.pointer (some ⟨wb,0,none⟩)),(.slice none 0 0)] T0 [aj wb [v] 239,cI v (bs) 5] (qW 239 5 wb (bs++bh [])):=by
 refine BD 45 Tryz.func165 rfl rfl rfl λw0 F hF=>sr λ_ J1=>PS ?_
 refine nx J1 (aa λ_ J2=>sr λ_ J3=>PS ?_);refine tp (qZ rfl dZ rfl) ?_;refine PS ?_;refine nx J3 (am ?_)
 refine bG (α:=Unit) (λ_u=>True) (λ_u=>[(0,(.pointer (some ⟨wb,0,none⟩))),(4,(.pointer none)),(8,(.slice none 0 0)),(9,(.int .i64 0)),(10,(.int .i64 0))]) (λ_u=>[aj wb [v] 239,cI v (bs) 5]) (λ_u=>0) ()
  trivial SB
  (λ_ s=>s) (λ_u hinv=>?_)
 obtain _:=hinv;refine sr λ_ J4=>PS ?_
 refine nx J4 (aa λ_ J5=>CN (aW (aA (aA (br (ad J2 (sr λ_ J6=>P2 ?_)))))));refine nx J6 (ah (aw rfl rfl ?_));exact⟨v,rfl,by rw[ji,aY]⟩
theorem eg(wb:Nat)(v:Value)(bs:List UInt8)(x:Value)(l:List Int)(hlen:bs.length+10*l.length≤140737488355328):DT 165 #[(.pointer (some ⟨wb,0,none⟩)),x] (Rs x l) [aj wb [v] 239,cI v bs 5] (qW 239 5 wb (bs++bh l)):=by
 refine Leg.Does.of λF hF=>?_
 rcases id hF with⟨rfl,rfl⟩| ⟨b,off,cap,cs,T,z,rfl,h3,h4⟩
 · exact⟨_,trivial,Jc wb v bs⟩
 · exact⟨_,h3,EO wb b off cap v bs l cs T z hlen h4⟩
theorem eH(wb:Nat)(v:Value)(bs:List UInt8)(hlen:bs.length≤140737488355328):
 DT 170 #[(.pointer (some ⟨wb,0,none⟩))] T0 [aj wb [v] 239,cI v (bs) 5] (dD (λx H=>∃u,x=u∧H=[aj wb [v] 239,cI v bs 5,cI u bs 5])):=by
 refine Leg.Does.body (vs:=[(.pointer (some ⟨wb,0,none⟩))]) (n:=9) Tryz.func170 rfl rfl rfl (λw0 F hF=>?_);refine sr λ_ J1=>?_
 refine qe ?_;refine nx J1 ?_;refine sr λ_ J2=>?_
 refine Ez (ab rfl) rfl rfl rfl fM kx (λv3=>?_);change TL _ _ _ _ _ _ _ _ _ [cI v3 ([]) 5,aj wb [v] 239,cI v (bs) 5];refine mv ?_;refine tp (gU rfl rfl) ?_;refine tp (bc (r:=0) rfl K9 rfl lC rfl rfl) ?_;refine tp (fJ (v:=v) rfl fM rfl rfl (fA 1 rfl rfl) rfl) ?_;refine bX (k:=0) (news:=dU (bs)) (nn':=(bs:List UInt8).length) (xs':=dU (bs)) (ab rfl) rfl rfl rfl fM ut rfl rfl rfl rfl rfl rfl (λ_ s=>Lc 2 rfl rfl s) (e9 _) (by simp only[maxLen,av,az];omega) (by simp only[av,az];omega) (by simp) (ba _) (λv8 ov8=>?_);change TL _ _ _ _ _ _ _ _ _ [cI v8 (bs) 5,aj wb [v] 239,cI v (bs) 5];refine qe ?_;refine nx J2 ?_;refine ah ?_;refine aE (dK _) (λ_ s=>ak [1,1,0] rfl s) ?_;refine aw rfl rfl ?_;exact⟨v8,rfl,rfl⟩
theorem B4(wb:Nat)(v:Value)(bs:List UInt8)(a0 a1 g0 g1 g2 g3 g4:Int)(hlen:bs.length+70≤140737488355328):
 DT 169 #[(.pointer (some ⟨wb,0,none⟩)),(.agg #[(.int .i64 (a0)),(.int .i64 (a1)),(.int .i64 (g0)),(.int .i64 (g1)),(.int .i64 (g2)),(.int .i64 (g3)),(.int .i64 (g4))])] T0 [aj wb [v] 239,cI v (bs) 5] (qW 239 5 wb (bs++bh [a0,a1,g0,g1,g2,g3,g4])):=by
 refine BD 15 Tryz.func169 rfl rfl rfl λw0 F hF=>sr λ_ J1=>XB λb3=>?_
 refine PS ?_;refine nx J1 (aa λ_ J2=>D1 0 bl ?_);refine PD 0 ?_;refine FD 1 0 eB aP ?_;refine LX 2 Y3 (.int .i64 (a0)) ?_ (hc:=by exact rfl);refine FD 3 1 eB aP ?_;refine LX 4 Y3 (.int .i64 (a1)) ?_ (hc:=by exact rfl);refine FD 7 2 eB fP ?_;refine ta 8 rfl (oB rfl kI aP rfl) ?_;refine AL 5 ?_;refine aM (cells:=#[(.int .i64 (a0)),(.int .i64 (a1))]) (ab rfl) rfl rfl rfl dZ oH rfl rfl rfl (by as_aux_lemma=>kernel_rfl) (λb10=>EN (AL 6 ?_));refine CQ kE (eg wb v (bs) (.slice (some ⟨b10,0,none⟩) (2) (2)) [a0,a1] (by simp only[ag,av,az,aB];first|omega| (have:=aZ [a0,a1];simp only[av,az]at this;omega))) (SM [2,2]) (dT 0 rfl rfl rfl rfl) λvR HR hR=>?_
 obtain⟨u1,rfl,rfl⟩:=hR;refine EN (AL 9 ?_);refine CQ kE (eg wb u1 (bs++bh [a0,a1]) (.slice (some ⟨b3,2,none⟩) (5) (5)) [g0,g1,g2,g3,g4] (by simp only[ag,av,az,aB];first|omega| (have:=aZ [a0,a1];simp only[av,az]at this;omega))) ID (dT 1 rfl rfl rfl rfl) λvR HR hR=>?_
 obtain⟨u2,rfl,rfl⟩:=hR;refine EN (PD 10 ?_);refine DN (ad J2 (ah (WK [0,0] (aw rfl rfl ?_))));exact⟨_,rfl,by rw[aG,←qO];rfl⟩
theorem yG(wb:Nat)(v:Value)(bs:List UInt8)(a0 a1 a2:Int)(hlen:bs.length+30≤140737488355328):
 DT 168 #[(.pointer (some ⟨wb,0,none⟩)),(.agg #[(.int .i64 (a0)),(.int .i64 (a1)),(.int .i64 (a2))])] T0 [aj wb [v] 239,cI v (bs) 5] (qW 239 5 wb (bs++bh [a0,a1,a2])):=by
 refine BD 14 Tryz.func168 rfl rfl rfl λw0 F hF=>sr λ_ J1=>XB λb3=>?_
 refine PS ?_;refine nx J1 (sr λ_ J2=>PS ?_);refine FA 0 mP aP ?_;refine LA 0 Y3 ?_;refine FA 1 mP aP ?_;refine LA 0 Y3 ?_;refine FA 2 mP aP ?_;refine LA 0 Y3 ?_;refine aM (cells:=#[(.int .i64 (a0)),(.int .i64 (a1)),(.int .i64 (a2))]) (ab rfl) rfl rfl rfl dZ oH rfl rfl rfl (by as_aux_lemma=>kernel_rfl) (λb12=>CQ kE (eg wb v (bs) (.slice (some ⟨b12,0,none⟩) (3) (3)) [a0,a1,a2] (by simp only[ag,av,az,aB];first|omega| (have:=aZ [a0,a1];simp only[av,az]at this;omega))) (SM [2,2]) (dT 0 rfl rfl rfl rfl) λvR HR hR=>?_);obtain⟨u1,rfl,rfl⟩:=hR;refine PS ?_;exact nx J2 (ah (WK [0,0] (aw rfl rfl ⟨_,rfl,rfl⟩)))
theorem yH(wb:Nat)(v:Value)(bs:List UInt8)(a0 a1:Int)(hlen:bs.length+20≤140737488355328):
 DT 167 #[(.pointer (some ⟨wb,0,none⟩)),(.agg #[(.int .i64 (a0)),(.int .i64 (a1))])] T0 [aj wb [v] 239,cI v (bs) 5] (qW 239 5 wb (bs++bh [a0,a1])):=by
 refine BD 12 Tryz.func167 rfl rfl rfl λw0 F hF=>sr λ_ J1=>XB λb3=>?_
 refine PS ?_;refine nx J1 (sr λ_ J2=>PS ?_);refine FA 0 kU aP ?_;refine LA 0 Y3 ?_;refine FA 1 kU aP ?_;refine LA 0 Y3 ?_;refine aM (cells:=#[(.int .i64 (a0)),(.int .i64 (a1))]) (ab rfl) rfl rfl rfl dZ oH rfl rfl rfl (by as_aux_lemma=>kernel_rfl) (λb10=>CQ kE (eg wb v (bs) (.slice (some ⟨b10,0,none⟩) (2) (2)) [a0,a1] (by simp only[ag,av,az,aB];first|omega| (have:=aZ [a0,a1];simp only[av,az]at this;omega))) (SM [2,2]) (dT 0 rfl rfl rfl rfl) λvR HR hR=>?_);obtain⟨u1,rfl,rfl⟩:=hR;refine PS ?_;exact nx J2 (ah (WK [0,0] (aw rfl rfl ⟨_,rfl,rfl⟩)))
theorem Ce(wb:Nat)(v:Value)(bs:List UInt8)(a0 a1 g0 g1 g2 g3 g4:Int)(hlen:bs.length+70≤140737488355328):
 DT 179 #[(.pointer (some ⟨wb,0,none⟩)),(.agg #[(.int .i64 (a0)),(.int .i64 (a1)),(.int .i64 (g0)),(.int .i64 (g1)),(.int .i64 (g2)),(.int .i64 (g3)),(.int .i64 (g4))])] T0 [aj wb [v] 239,cI v (bs) 5] (dD (λx H=>∃v',x= .tuple #[]∧H=[aj wb [v'] 239,cI v' (bs++bh [a0,a1,g0,g1,g2,g3,g4]) 5])):=by
 refine BD 14 Tryz.func179 rfl rfl rfl λw0 F hF=>sr λ_ J1=>XB λb3=>?_
 refine nx J1 (D1 0 bl ?_);refine PD 0 ?_;refine FD 1 0 nz aP ?_;refine LX 2 Y3 (.int .i64 (a0)) ?_ (hc:=by exact rfl);refine FD 3 1 nz aP ?_;refine LX 4 Y3 (.int .i64 (a1)) ?_ (hc:=by exact rfl);refine FD 7 2 nz fP ?_;refine ta 8 rfl (oB rfl kI aP rfl) ?_;refine AL 5 ?_;refine aM (cells:=#[(.int .i64 (a0)),(.int .i64 (a1))]) (ab rfl) rfl rfl rfl dZ oH rfl rfl rfl (by as_aux_lemma=>kernel_rfl) (λb9=>EN (AL 6 ?_));refine CQ kE (eg wb v (bs) (.slice (some ⟨b9,0,none⟩) (2) (2)) [a0,a1] (by simp only[ag,av,az,aB];first|omega| (have:=aZ [a0,a1];simp only[av,az]at this;omega))) (SM [2,2]) (dT 0 rfl rfl rfl rfl) λvR HR hR=>?_
 obtain⟨u1,rfl,rfl⟩:=hR;refine EN (AL 9 ?_);refine CQ kE (eg wb u1 (bs++bh [a0,a1]) (.slice (some ⟨b3,2,none⟩) (5) (5)) [g0,g1,g2,g3,g4] (by simp only[ag,av,az,aB];first|omega| (have:=aZ [a0,a1];simp only[av,az]at this;omega))) ID (dT 1 rfl rfl rfl rfl) λvR HR hR=>?_
 obtain⟨u2,rfl,rfl⟩:=hR;refine EN (DN (WK [0,0] (bB rfl ?_)));exact⟨_,rfl,by rw[aG,←qO];rfl⟩
theorem wR(wb:Nat)(v:Value)(bs:List UInt8)(c:CellT)(hlen:bs.length+70≤140737488355328):DT 179 #[(.pointer (some ⟨wb,0,none⟩)),c.val] T0 [aj wb [v] 239,cI v bs 5] (dD (λx H=>∃v',x= .tuple #[]∧H=[aj wb [v'] 239,cI v' (bs++bh c.flat) 5])):=by
 obtain⟨i,o,g⟩:=c;exact Lw (p:=λg=>Leg.Does Tryz.prog 179 #[(.pointer (some ⟨wb,0,none⟩)),CellT.val ⟨i,o,g⟩] (λ_=>True) [aj wb [v] 239,cI v bs 5] (dD (λx H=>∃v',x= .tuple #[]∧H=[aj wb [v'] 239,cI v' (bs++bh (CellT.flat ⟨i,o,g⟩)) 5]))) (λa b c d e=>Ce wb v bs i o a b c d e hlen) g
theorem rW(wb:Nat)(v:Value)(bs:List UInt8)(x:ViewT)(hlen:bs.length+70≤140737488355328):DT 169 #[(.pointer (some ⟨wb,0,none⟩)),x.val] T0 [aj wb [v] 239,cI v bs 5] (qW 239 5 wb (bs++bh x.flat)):=by
 obtain⟨i,o,g⟩:=x;exact Lw (p:=λg=>Leg.Does Tryz.prog 169 #[(.pointer (some ⟨wb,0,none⟩)),ViewT.val ⟨i,o,g⟩] (λ_=>True) [aj wb [v] 239,cI v bs 5] (qW 239 5 wb (bs++bh (ViewT.flat ⟨i,o,g⟩)))) (λa b c d e=>B4 wb v bs i o a b c d e hlen) g
theorem pj(wb:Nat)(v:Value)(bs:List UInt8)(x:ChangeT)(hlen:bs.length+30≤140737488355328):DT 168 #[(.pointer (some ⟨wb,0,none⟩)),x.val] T0 [aj wb [v] 239,cI v bs 5] (qW 239 5 wb (bs++bh x.flat)):=yG wb v bs x.kind x.who x.heir (by omega)
theorem j0(wb:Nat)(v:Value)(bs:List UInt8)(x:BallotT)(hlen:bs.length+30≤140737488355328):DT 167 #[(.pointer (some ⟨wb,0,none⟩)),x.val] T0 [aj wb [v] 239,cI v bs 5] (qW 239 5 wb (bs++bh x.flat)):=yH wb v bs x.round x.who (by omega)
theorem uu(wb:Nat)(v:Value)(bs:List UInt8)(x:RowT)(hlen:bs.length+2000≤140737488355328):
 DT 166 #[(.pointer (some ⟨wb,0,none⟩)),(.agg (ints x.flat).toArray)] T0 [aj wb [v] 239,cI v (bs) 5] (qW 239 5 wb (bs++im x)):=by
 refine BD 50 Tryz.func166 rfl rfl rfl λw0 F hF=>sr λ_ J1=>XY (ints x.flat) λb3=>?_
 refine PS ?_;refine nx J1 (sr λ_ J2=>PS ?_);refine FA 0 ei aP ?_;refine LT 0 Y3 (.int .i64 (x.version)) ?_ (hc:=by exact RowT.get_version _);refine aM (cells:=#[(.int .i64 (x.version))]) (ab rfl) rfl rfl rfl dZ oH rfl rfl rfl (by as_aux_lemma=>kernel_rfl) (λb14=>CQ kE (eg wb v (bs) (.slice (some ⟨b14,0,none⟩) (1) (1)) [x.version] (by have:=congrArg List.length (Eq.refl bs);have:=iZ x;simp only[ag,av,az]at*;omega)) (SM [2,2]) (dT 0 rfl rfl rfl rfl) λvR HR hR=>?_);obtain⟨u1,rfl,rfl⟩:=hR;refine nx J2 (aa λ_ J3=>sr λ_ J4=>FA 1 ei ml ?_);refine tp (aN (vs:=ints (bS x.cells.toList)) rfl B1 rfl ml rfl (RO 3) (by rw[ints_length,dm];simp) (RowT.get_cells _)) ?_;refine PS ?_;refine nx J4 (am ?_)
 refine bG (α:=(Nat)×(Value)×(List UInt8)) (λ⟨k,u,laid⟩=>k≤4∧laid++(bh (bS (x.cells.toList.drop k))++fH x 5 0)=bs++im x) (λ⟨k,u,laid⟩=>[(0,(.pointer (some ⟨wb,0,none⟩))),(3,(.pointer (some ⟨b3,0,none⟩))),(4,(.pointer none)),(17,(.agg (ints (bS x.cells.toList)).toArray)),(18,(.int .i64 ((k:Nat))))]) (λ⟨k,u,laid⟩=>[aj b3 (ints x.flat) 74,aj wb [u] 239,cI u (laid) 5]) (λ⟨k,u,laid⟩=>4-k) (0,u1,bs++bh [x.version])
  ⟨by omega,by simp[im,bh]⟩ SB
  (λ_ s=>ak [3,0,0] rfl s) (λ⟨k,u,laid⟩ hinv=>?_)
 obtain⟨hk,hL⟩:=hinv;have hE:=hL;rw[show bh (bS (x.cells.toList.drop k))=bh (bS (x.cells.toList.drop k))from rfl]at hE;refine sr λ_ J5=>PS ?_
 refine ap ?_ ?_<;>intro h19;refine nx J5 (aa λ_ J6=>CY (qx J6 (aa λ_ J7=>am (sr λ_ J8=>tp (Rz (cs:=ints (bS (x.cells.toList))) (r:=k*7) rfl B1 nz rfl fj rfl rfl (by omega) (by omega) (by omega) (Am (by simp;omega))) ?_))));refine XA Lm λb6=>?_
 refine bW (vs:=ints ((x.cells.toList)[k]'(by simp;omega)).flat) (cs':=ints ((x.cells.toList)[k]'(by simp;omega)).flat) (i:=0) (ab rfl) rfl rfl rfl rfl rfl (by rw[aU];exact fj) (bv _) rfl rfl (by rw[aU];exact aK _) (jA (by rw[aU];rfl)) rfl (nx J8 (ac (PS ?_)));refine tp (aN (vs:=ints ((x.cells.toList)[k]'(by simp;omega)).flat) rfl nz rfl fj rfl (RO 0) (aU _) (by rw[bb,aC (by rw[aU];decide)])) ?_;refine CR MU (wR wb u (laid) ((x.cells.toList)[k]'(by simp;omega)) (by have:=congrArg List.length hE;have:=iZ x;have:=aZ ((x.cells.toList)[k]'(by simp;omega)).flat;rw[bu]at this;simp only[ag]at*;omega)) (SM [2,2]) λvR HR hR=>?_
 obtain⟨u2,rfl,rfl⟩:=hR;refine au (af (ad J7 (ac (AD ?_))));refine PS ?_;refine au ?_
 exact aL ((k+1,u2,laid++bh ((x.cells.toList)[k]'(by simp;omega)).flat):(Nat)×(Value)×(List UInt8)) ⟨by omega,by rw[←hL,l6 (l:=x.cells.toList) (k:=k) (by simp;omega)];simp⟩ (by show _-_<_-_;omega)
  SB
  (λ_ s=>ak [3,0,0] rfl s)
 refine nx J5 (aa λ_ J9=>CN (aW (aA (aA (br (ad J3 (aa λ_ J10=>sr λ_ J11=>FA 29 ei fP ?_)))))));refine tp (aN (vs:=ints x.heir.toList) rfl kI rfl fP rfl (RO 0) (by rw[ints_length];simp) (RowT.get_heirs _)) ?_;refine PS ?_;refine nx J11 (am ?_)
 refine bG (α:=(Nat)×(Value)×(List UInt8)) (λ⟨i,u,laid⟩=>i≤5∧laid++fH x (5-i) i=bs++im x) (λ⟨i,u,laid⟩=>[(0,(.pointer (some ⟨wb,0,none⟩))),(3,(.pointer (some ⟨b3,0,none⟩))),(4,(.pointer none)),(26,(.agg (ints x.heir.toList).toArray)),(27,(.int .i64 ((i:Nat))))]) (λ⟨i,u,laid⟩=>[aj b3 (ints x.flat) 74,aj wb [u] 239,cI u (laid) 5]) (λ⟨i,u,laid⟩=>5-i) (0,u,laid)
  ⟨by omega,by rw[←hL,dS (by simp;omega)];simp[bS,bh]⟩ SB
  (λ_ s=>ak [0,0,0] rfl s) (λ⟨i,u,laid⟩ hinv=>?_)
 obtain⟨hi,hL⟩:=hinv;have hE:=hL;refine sr λ_ J12=>PS ?_
 refine ap ?_ ?_<;>intro h28;refine nx J12 (aa λ_ J13=>CY (qx J13 (aa λ_ J14=>am (sr λ_ J15=>PS ?_))));refine tp (jc (cs:=ints x.heir.toList) (v:= .int .i64 (x.heir[i]'(by omega))) (r:=i) rfl kI Y3 rfl aP rfl rfl (by omega) (by omega) (by omega) (by rw[ints_get _ _ (by simp;omega)];simp[List.getD_eq_getElem?_getD,show i<5 by omega])) ?_;refine P2 ?_;refine nx J15 (sr λ_ J16=>P2 ?_);refine aM (cells:=#[(.int .i64 (x.heir[i]'(by omega)))]) (ab rfl) rfl rfl rfl dZ oH rfl rfl rfl (by as_aux_lemma=>kernel_rfl) (λb33=>CQ kE (eg wb u (laid) (.slice (some ⟨b33,0,none⟩) (1) (1)) [x.heir[i]'(by omega)] (by have:=congrArg List.length hE;have:=iZ x;simp only[ag,av,az]at*;omega)) (SM [2,2]) (dT 0 rfl rfl rfl rfl) λvR HR hR=>?_);obtain⟨u2,rfl,rfl⟩:=hR;refine nx J16 (sr λ_ J17=>P2 ?_);refine ap ?_ ?_<;>intro h36;refine nx J17 (CY (sr λ_ J18=>PS ?_));refine FA 34 ei Cn ?_;refine IX (34+i*28) Nj ml ?_;refine tp (aN (vs:=ints (bS (x.left[i]'(by omega)).toList)) rfl B1 rfl ml rfl (RO 3) (by rw[ints_length,dm];simp) (RowT.get_left _ i (by omega))) ?_;refine PS ?_;refine nx J18 (am ?_)
 refine bG (α:=(Nat)×(Value)×(List UInt8)) (λ⟨k,u3,laid3⟩=>k≤4∧laid3++(bh (bS ((x.left[i]'(by omega)).toList.drop k))++fH x (5- (i+1)) (i+1))=bs++im x) (λ⟨k,u3,laid3⟩=>[(0,(.pointer (some ⟨wb,0,none⟩))),(3,(.pointer (some ⟨b3,0,none⟩))),(4,(.pointer none)),(26,(.agg (ints x.heir.toList).toArray)),(27,(.int .i64 ((i:Nat)))),(40,(.agg (ints (bS (x.left[i]'(by omega)).toList)).toArray)),(41,(.int .i64 ((k:Nat))))]) (λ⟨k,u3,laid3⟩=>[aj b3 (ints x.flat) 74,aj wb [u3] 239,cI u3 (laid3) 5]) (λ⟨k,u3,laid3⟩=>4-k) (0,u2,laid++bh [x.heir[i]'(by omega)])
  ⟨by omega,by rw[←hL,rR (i:=i) (by omega),if_pos h36];simp[bh]⟩ SB
  (λ_ s=>ak [3,0,0] rfl s) (λ⟨k,u3,laid3⟩ hinv=>?_)
 obtain⟨hk,hM⟩:=hinv;have hE:=hM;refine sr λ_ J19=>PS ?_
 refine ap ?_ ?_<;>intro h42;refine nx J19 (aa λ_ J20=>CY (qx J20 (aa λ_ J21=>am (sr λ_ J22=>tp (Rz (cs:=ints (bS ((x.left[i]'(by omega)).toList))) (r:=k*7) rfl B1 nz rfl fj rfl rfl (by omega) (by omega) (by omega) (Am (by simp;omega))) ?_))));refine XA Lm λb10=>?_
 refine bW (vs:=ints (((x.left[i]'(by omega)).toList)[k]'(by simp;omega)).flat) (cs':=ints (((x.left[i]'(by omega)).toList)[k]'(by simp;omega)).flat) (i:=0) (ab rfl) rfl rfl rfl rfl rfl (by rw[aU];exact fj) (bv _) rfl rfl (by rw[aU];exact aK _) (jA (by rw[aU];rfl)) rfl (nx J22 (ac (PS ?_)));refine tp (aN (vs:=ints (((x.left[i]'(by omega)).toList)[k]'(by simp;omega)).flat) rfl nz rfl fj rfl (RO 0) (aU _) (by rw[bb,aC (by rw[aU];decide)])) ?_;refine CR MU (wR wb u3 (laid3) (((x.left[i]'(by omega)).toList)[k]'(by simp;omega)) (by have:=congrArg List.length hE;have:=iZ x;have:=aZ (((x.left[i]'(by omega)).toList)[k]'(by simp;omega)).flat;rw[bu]at this;simp only[ag]at*;omega)) (SM [2,2]) λvR HR hR=>?_
 obtain⟨u3,rfl,rfl⟩:=hR;refine au (af (ad J21 (ac (AD ?_))));refine PS ?_;refine au ?_
 exact aL ((k+1,u3,laid3++bh (((x.left[i]'(by omega)).toList)[k]'(by simp;omega)).flat):(Nat)×(Value)×(List UInt8)) ⟨by omega,by rw[←hM,l6 (l:=(x.left[i]'(by omega)).toList) (k:=k) (by simp;omega)];simp⟩ (by show _-_<_-_;omega)
  SB
  (λ_ s=>ak [3,0,0] rfl s)
 refine nx J19 (aa λ_ J23=>CN (aW (aA (aA (br (af (ad J14 (ac (AD ?_)))))))));refine PS ?_;refine au ?_
 exact aL ((i+1,u3,laid3):(Nat)×(Value)×(List UInt8)) ⟨by omega,by rw[←hM,dS (by simp;omega)];simp[bS,bh]⟩ (by show _-_<_-_;omega)
  SB
  (λ_ s=>ak [0,0,0] rfl s)
 refine nx J17 (CN (aR (af (ad J14 (ac (AD ?_))))));refine PS ?_;refine au ?_
 exact aL ((i+1,u2,laid++bh [x.heir[i]'(by omega)]):(Nat)×(Value)×(List UInt8)) ⟨by omega,by rw[←hL,rR (i:=i) (by omega),if_neg h36];simp[bh]⟩ (by show _-_<_-_;omega)
  SB
  (λ_ s=>ak [3,0,0] rfl s)
 refine nx J12 (aa λ_ J24=>CN (aW (aA (aA (br (ad J10 (sr λ_ J25=>P2 ?_)))))));refine nx J25 (ah (WK [1,1] (aw rfl rfl ?_)));obtain rfl:laid=bs++im x:=by rw[←hL,show 5-i=0 by omega];simp[fH]
 exact⟨u,rfl,rfl⟩
theorem D6(m:MsgT):
 DT 212 #[(.agg (ints m.flat).toArray)] T0 [] (dD (λr' H=>∃u,r'=u∧H=[cI u (cY m) 5])):=by
 refine BD 100 Tryz.func212 rfl rfl rfl λw0 F hF=>sr λ_ J1=>XY (ints m.flat) λb1=>?_
 refine PS ?_;refine nx J1 (sr λ_ J2=>XA Ov λb4=>?_);refine TL.ownNil 5 (λon=>?_);clear on;refine PS ?_;refine nx J2 (aa λ_ J3=>sr λ_ J4=>FA 0 bi aP ?_);refine LU 2 Y3 (fh m rfl) ?_;refine nx J4 (am (aa λ_ J5=>fy (α:=Unit) (λ_u=>True) (λ_u=>[(1,(.pointer (some ⟨b1,0,none⟩))),(2,(.slice none 0 0)),(3,(.pointer (some ⟨b4,0,none⟩))),(6,(.int .i64 (m.kind))),(7,(.bool ((el m.kind))))]) (λ_u=>[cI (.slice none 0 0) ([]) 5,aj b4 [(.slice none 0 0)] 239,aj b1 (ints m.flat) 134]) (λ_u hinv=>?_) (λtl5=>?_)));have _:=hinv;refine ad J5 (TC.cond rfl (λh7=>?_) (λh7=>?_));refine D1 2 bl ?_;refine PD 0 ?_;refine FD 1 0 bi aP ?_;refine LR 2 Y3 (fh m rfl) ?_;refine FD 3 1 bi aP ?_;refine LR 4 Y3 (cC m rfl) ?_;refine FD 7 2 bi bf ?_;refine ta 8 rfl (aN (vs:=ints m.row.flat) rfl ei rfl bf rfl (λ_ h=>h.2.1) (ai m.row) (m3 m 0 rfl (by decide) (whole (ai m.row)))) ?_;refine AL 5 ?_;refine aM (cells:=#[(.int .i64 (m.kind)),(.int .i64 (m.whose))]) (ab rfl) rfl rfl rfl dZ oH rfl rfl rfl (by as_aux_lemma=>kernel_rfl) (λb16=>EN (AL 6 ?_));refine CQ kE (eg b4 (.slice none 0 0) ([]) (.slice (some ⟨b16,0,none⟩) (2) (2)) [m.kind,m.whose] (by simp)) (SM [2,1]) (dT 0 rfl rfl rfl rfl) λvR HR hR=>?_
 obtain⟨u1,rfl,rfl⟩:=hR;refine EN (AL 9 ?_);refine CR J0 (uu b4 u1 (bh [m.kind,m.whose]) m.row (by(have:=aZ [m.kind,m.whose]);simp only[BallotT.flat,ViewT.flat,ChangeT.flat,av,az,aB,ag]at*;omega)) ID λvR HR hR=>?_
 obtain⟨u2,rfl,rfl⟩:=hR;refine EN (DN (af (ad J3 (sr λ_ J6=>PS ?_))));refine CR nS (eH b4 u2 (bh [m.kind,m.whose]++im m.row) (by(have:=aZ [m.kind,m.whose]);(have:=iZ m.row);simp only[BallotT.flat,ViewT.flat,ChangeT.flat,av,az,aB,ag]at*;omega)) ID λvR HR hR=>?_
 obtain⟨_,rfl,rfl⟩:=hR;revert vR;intro u3;refine PS ?_;refine nx J6 (ah (WK [2] (aw rfl rfl ?_)));exact⟨_,rfl,congrArg (λb=>[cI u3 b 5]) (show(bh [m.kind,m.whose]++im m.row)=cY m by simp[cY,bh, *])⟩;refine sr λ_ J7=>PS ?_
 refine ap ?_ ?_<;>intro h22;refine PS ?_;refine nx J7 (CY (ac (PS ?_)));refine FA 0 bi aP ?_;refine LU 2 Y3 (fh m rfl) ?_;refine FA 176 bi aP ?_;refine LU 2 Y3 (MsgT.at_version m rfl) ?_;refine aM (cells:=#[(.int .i64 (m.kind)),(.int .i64 (m.version))]) (ab rfl) rfl rfl rfl dZ oH rfl rfl rfl (by as_aux_lemma=>kernel_rfl) (λb28=>CQ kE (eg b4 (.slice none 0 0) ([]) (.slice (some ⟨b28,0,none⟩) (2) (2)) [m.kind,m.version] (by simp)) (SM [2,1]) (dT 0 rfl rfl rfl rfl) λvR HR hR=>?_);obtain⟨u1,rfl,rfl⟩:=hR;refine au (af (ad J3 (sr λ_ J8=>PS ?_)));refine CR nS (eH b4 u1 (bh [m.kind,m.version]) (by(have:=aZ [m.kind,m.version]);simp only[BallotT.flat,ViewT.flat,ChangeT.flat,av,az,aB,ag]at*;omega)) ID λvR HR hR=>?_
 obtain⟨_,rfl,rfl⟩:=hR;revert vR;intro u2;refine PS ?_;refine nx J8 (ah (WK [2] (aw rfl rfl ?_)));exact⟨_,rfl,congrArg (λb=>[cI u2 b 5]) (show(bh [m.kind,m.version])=cY m by simp[cY,el,ff,bh, *])⟩;refine PS ?_;refine nx J7 (CN (aa λ_ J9=>fy (α:=Unit) (λ_u=>True) (λ_u=>[(1,(.pointer (some ⟨b1,0,none⟩))),(2,(.slice none 0 0)),(3,(.pointer (some ⟨b4,0,none⟩))),(6,(.int .i64 (m.kind))),(30,(.bool ((ff m.kind))))]) (λ_u=>[cI (.slice none 0 0) ([]) 5,aj b4 [(.slice none 0 0)] 239,aj b1 (ints m.flat) 134]) (λ_u hinv=>?_) (λtl9=>?_)));have _:=hinv;refine ad J9 (TC.cond rfl (λh30=>?_) (λh30=>?_));refine D1 2 bl ?_;refine PD 0 ?_;refine FD 1 0 bi aP ?_;refine LR 2 Y3 (fh m rfl) ?_;refine FD 3 177 bi aP ?_;refine LR 4 Y3 (e7 m rfl) ?_;refine FD 7 178 bi cK ?_;refine ta 8 rfl (aN (vs:=ints m.ballot.flat) rfl kU rfl cK rfl (λ_ h=>h.2.1) (aq m.ballot) (jz m 0 rfl (by decide) (whole (aq m.ballot)))) ?_;refine AL 5 ?_;refine aM (cells:=#[(.int .i64 (m.kind)),(.int .i64 (m.epoch))]) (ab rfl) rfl rfl rfl dZ oH rfl rfl rfl (by as_aux_lemma=>kernel_rfl) (λb38=>EN (AL 6 ?_));refine CQ kE (eg b4 (.slice none 0 0) ([]) (.slice (some ⟨b38,0,none⟩) (2) (2)) [m.kind,m.epoch] (by simp)) (SM [2,1]) (dT 0 rfl rfl rfl rfl) λvR HR hR=>?_
 obtain⟨u1,rfl,rfl⟩:=hR;refine EN (AL 9 ?_);refine CR Ab (j0 b4 u1 (bh [m.kind,m.epoch]) m.ballot (by(have:=aZ [m.kind,m.epoch]);simp only[BallotT.flat,ViewT.flat,ChangeT.flat,av,az,aB,ag]at*;omega)) ID λvR HR hR=>?_
 obtain⟨u2,rfl,rfl⟩:=hR;refine EN (DN (af (ad J3 (sr λ_ J10=>PS ?_))));refine CR nS (eH b4 u2 (bh [m.kind,m.epoch]++bh m.ballot.flat) (by(have:=aZ [m.kind,m.epoch]);(have:=aZ (m.ballot.flat));simp only[BallotT.flat,ViewT.flat,ChangeT.flat,av,az,aB,ag]at*;omega)) ID λvR HR hR=>?_
 obtain⟨_,rfl,rfl⟩:=hR;revert vR;intro u3;refine PS ?_;refine nx J10 (ah (WK [2] (aw rfl rfl ?_)));exact⟨_,rfl,congrArg (λb=>[cI u3 b 5]) (show(bh [m.kind,m.epoch]++bh m.ballot.flat)=cY m by simp[cY,bh, *])⟩;refine sr λ_ J11=>PS ?_
 refine ap ?_ ?_<;>intro h44;refine PS ?_;refine nx J11 (CY (D1 2 bl ?_));refine PD 0 ?_;refine FD 1 0 bi aP ?_;refine LR 2 Y3 (fh m rfl) ?_;refine FD 3 177 bi aP ?_;refine LR 4 Y3 (e7 m rfl) ?_;refine FD 7 178 bi cK ?_;refine ta 8 rfl (aN (vs:=ints m.ballot.flat) rfl kU rfl cK rfl (λ_ h=>h.2.1) (aq m.ballot) (jz m 0 rfl (by decide) (whole (aq m.ballot)))) ?_;refine FD 10 180 bi cK ?_;refine ta 11 rfl (aN (vs:=ints m.had.flat) rfl kU rfl cK rfl (λ_ h=>h.2.1) (aq m.had) (RK m 0 rfl (by decide) (whole (aq m.had)))) ?_;refine FD 13 182 bi fD ?_;refine ta 14 rfl (aN (vs:=ints m.change.flat) rfl mP rfl fD rfl (λ_ h=>h.2.1) (aJ m.change) (n9 m 0 rfl (by decide) (whole (aJ m.change)))) ?_;refine AL 5 ?_;refine aM (cells:=#[(.int .i64 (m.kind)),(.int .i64 (m.epoch))]) (ab rfl) rfl rfl rfl dZ oH rfl rfl rfl (by as_aux_lemma=>kernel_rfl) (λb50=>EN (AL 6 ?_));refine CQ kE (eg b4 (.slice none 0 0) ([]) (.slice (some ⟨b50,0,none⟩) (2) (2)) [m.kind,m.epoch] (by simp)) (SM [2,1]) (dT 0 rfl rfl rfl rfl) λvR HR hR=>?_
 obtain⟨u1,rfl,rfl⟩:=hR;refine EN (AL 9 ?_);refine CR Ab (j0 b4 u1 (bh [m.kind,m.epoch]) m.ballot (by(have:=aZ [m.kind,m.epoch]);simp only[BallotT.flat,ViewT.flat,ChangeT.flat,av,az,aB,ag]at*;omega)) ID λvR HR hR=>?_
 obtain⟨u2,rfl,rfl⟩:=hR;refine EN (AL 12 ?_);refine CR Ab (j0 b4 u2 (bh [m.kind,m.epoch]++bh m.ballot.flat) m.had (by(have:=aZ [m.kind,m.epoch]);(have:=aZ (m.ballot.flat));simp only[BallotT.flat,ViewT.flat,ChangeT.flat,av,az,aB,ag]at*;omega)) ID λvR HR hR=>?_
 obtain⟨u3,rfl,rfl⟩:=hR;refine EN (AL 15 ?_);refine CR JZ (pj b4 u3 (bh [m.kind,m.epoch]++bh m.ballot.flat++bh m.had.flat) m.change (by(have:=aZ [m.kind,m.epoch]);(have:=aZ (m.ballot.flat));(have:=aZ (m.had.flat));simp only[BallotT.flat,ViewT.flat,ChangeT.flat,av,az,aB,ag]at*;omega)) ID λvR HR hR=>?_
 obtain⟨u4,rfl,rfl⟩:=hR;refine EN (DN (af (ad J3 (sr λ_ J12=>PS ?_))));refine CR nS (eH b4 u4 (bh [m.kind,m.epoch]++bh m.ballot.flat++bh m.had.flat++bh m.change.flat) (by(have:=aZ [m.kind,m.epoch]);(have:=aZ (m.ballot.flat));(have:=aZ (m.had.flat));(have:=aZ (m.change.flat));simp only[BallotT.flat,ViewT.flat,ChangeT.flat,av,az,aB,ag]at*;omega)) ID λvR HR hR=>?_
 obtain⟨_,rfl,rfl⟩:=hR;revert vR;intro u5;refine PS ?_;refine nx J12 (ah (WK [2] (aw rfl rfl ?_)));exact⟨_,rfl,congrArg (λb=>[cI u5 b 5]) (show(bh [m.kind,m.epoch]++bh m.ballot.flat++bh m.had.flat++bh m.change.flat)=cY m by simp[cY,el,ff,bh, *])⟩;refine PS ?_;refine nx J11 (CN (sr λ_ J13=>PS ?_));refine ap ?_ ?_<;>intro h62;refine PS ?_;refine nx J13 (CY (D1 2 bl ?_));refine PD 0 ?_;refine FD 1 0 bi aP ?_;refine LR 2 Y3 (fh m rfl) ?_;refine FD 3 177 bi aP ?_;refine LR 4 Y3 (e7 m rfl) ?_;refine FD 7 178 bi cK ?_;refine ta 8 rfl (aN (vs:=ints m.ballot.flat) rfl kU rfl cK rfl (λ_ h=>h.2.1) (aq m.ballot) (jz m 0 rfl (by decide) (whole (aq m.ballot)))) ?_;refine FD 10 182 bi fD ?_;refine ta 11 rfl (aN (vs:=ints m.change.flat) rfl mP rfl fD rfl (λ_ h=>h.2.1) (aJ m.change) (n9 m 0 rfl (by decide) (whole (aJ m.change)))) ?_;refine AL 5 ?_;refine aM (cells:=#[(.int .i64 (m.kind)),(.int .i64 (m.epoch))]) (ab rfl) rfl rfl rfl dZ oH rfl rfl rfl (by as_aux_lemma=>kernel_rfl) (λb68=>EN (AL 6 ?_));refine CQ kE (eg b4 (.slice none 0 0) ([]) (.slice (some ⟨b68,0,none⟩) (2) (2)) [m.kind,m.epoch] (by simp)) (SM [2,1]) (dT 0 rfl rfl rfl rfl) λvR HR hR=>?_
 obtain⟨u1,rfl,rfl⟩:=hR;refine EN (AL 9 ?_);refine CR Ab (j0 b4 u1 (bh [m.kind,m.epoch]) m.ballot (by(have:=aZ [m.kind,m.epoch]);simp only[BallotT.flat,ViewT.flat,ChangeT.flat,av,az,aB,ag]at*;omega)) ID λvR HR hR=>?_
 obtain⟨u2,rfl,rfl⟩:=hR;refine EN (AL 12 ?_);refine CR JZ (pj b4 u2 (bh [m.kind,m.epoch]++bh m.ballot.flat) m.change (by(have:=aZ [m.kind,m.epoch]);(have:=aZ (m.ballot.flat));simp only[BallotT.flat,ViewT.flat,ChangeT.flat,av,az,aB,ag]at*;omega)) ID λvR HR hR=>?_
 obtain⟨u3,rfl,rfl⟩:=hR;refine EN (DN (af (ad J3 (sr λ_ J14=>PS ?_))));refine CR nS (eH b4 u3 (bh [m.kind,m.epoch]++bh m.ballot.flat++bh m.change.flat) (by(have:=aZ [m.kind,m.epoch]);(have:=aZ (m.ballot.flat));(have:=aZ (m.change.flat));simp only[BallotT.flat,ViewT.flat,ChangeT.flat,av,az,aB,ag]at*;omega)) ID λvR HR hR=>?_
 obtain⟨_,rfl,rfl⟩:=hR;revert vR;intro u4;refine PS ?_;refine nx J14 (ah (WK [2] (aw rfl rfl ?_)));exact⟨_,rfl,congrArg (λb=>[cI u4 b 5]) (show(bh [m.kind,m.epoch]++bh m.ballot.flat++bh m.change.flat)=cY m by simp[cY,el,ff,bh, *])⟩;refine PS ?_;refine nx J13 (CN (sr λ_ J15=>PS ?_));refine ap ?_ ?_<;>intro h77;refine PS ?_;refine nx J15 (CY (D1 2 bl ?_));refine PD 0 ?_;refine FD 1 0 bi aP ?_;refine LR 2 Y3 (fh m rfl) ?_;refine FD 5 185 bi bj ?_;refine ta 6 rfl (aN (vs:=ints m.view.flat) rfl eB rfl bj rfl (λ_ h=>h.2.1) (an m.view) (wD m 0 rfl (by decide) (whole (an m.view)))) ?_;refine AL 3 ?_;refine aM (cells:=#[(.int .i64 (m.kind))]) (ab rfl) rfl rfl rfl dZ oH rfl rfl rfl (by as_aux_lemma=>kernel_rfl) (λb81=>EN (AL 4 ?_));refine CQ kE (eg b4 (.slice none 0 0) ([]) (.slice (some ⟨b81,0,none⟩) (1) (1)) [m.kind] (by simp)) (SM [2,1]) (dT 0 rfl rfl rfl rfl) λvR HR hR=>?_
 obtain⟨u1,rfl,rfl⟩:=hR;refine EN (AL 7 ?_);refine CR JY (rW b4 u1 (bh [m.kind]) m.view (by(have:=aZ [m.kind]);simp only[BallotT.flat,ViewT.flat,ChangeT.flat,av,az,aB,ag]at*;omega)) ID λvR HR hR=>?_
 obtain⟨u2,rfl,rfl⟩:=hR;refine EN (DN (af (ad J3 (sr λ_ J16=>PS ?_))));refine CR nS (eH b4 u2 (bh [m.kind]++bh m.view.flat) (by(have:=aZ [m.kind]);(have:=aZ (m.view.flat));simp only[BallotT.flat,ViewT.flat,ChangeT.flat,av,az,aB,ag]at*;omega)) ID λvR HR hR=>?_
 obtain⟨_,rfl,rfl⟩:=hR;revert vR;intro u3;refine PS ?_;refine nx J16 (ah (WK [2] (aw rfl rfl ?_)));exact⟨_,rfl,congrArg (λb=>[cI u3 b 5]) (show(bh [m.kind]++bh m.view.flat)=cY m by simp[cY,el,ff,bh, *])⟩;refine PS ?_;refine nx J15 (CN (sr λ_ J17=>PS ?_));refine ap ?_ ?_<;>intro h87;refine PS ?_;refine nx J17 (CY (D1 2 bl ?_));refine PD 0 ?_;refine FD 1 0 bi aP ?_;refine LR 2 Y3 (fh m rfl) ?_;refine FD 3 1 bi aP ?_;refine LR 4 Y3 (cC m rfl) ?_;refine FD 7 185 bi bj ?_;refine ta 8 rfl (aN (vs:=ints m.view.flat) rfl eB rfl bj rfl (λ_ h=>h.2.1) (an m.view) (wD m 0 rfl (by decide) (whole (an m.view)))) ?_;refine AL 5 ?_;refine aM (cells:=#[(.int .i64 (m.kind)),(.int .i64 (m.whose))]) (ab rfl) rfl rfl rfl dZ oH rfl rfl rfl (by as_aux_lemma=>kernel_rfl) (λb93=>EN (AL 6 ?_));refine CQ kE (eg b4 (.slice none 0 0) ([]) (.slice (some ⟨b93,0,none⟩) (2) (2)) [m.kind,m.whose] (by simp)) (SM [2,1]) (dT 0 rfl rfl rfl rfl) λvR HR hR=>?_
 obtain⟨u1,rfl,rfl⟩:=hR;refine EN (AL 9 ?_);refine CR JY (rW b4 u1 (bh [m.kind,m.whose]) m.view (by(have:=aZ [m.kind,m.whose]);simp only[BallotT.flat,ViewT.flat,ChangeT.flat,av,az,aB,ag]at*;omega)) ID λvR HR hR=>?_
 obtain⟨u2,rfl,rfl⟩:=hR;refine EN (DN (af (ad J3 (sr λ_ J18=>PS ?_))));refine CR nS (eH b4 u2 (bh [m.kind,m.whose]++bh m.view.flat) (by(have:=aZ [m.kind,m.whose]);(have:=aZ (m.view.flat));simp only[BallotT.flat,ViewT.flat,ChangeT.flat,av,az,aB,ag]at*;omega)) ID λvR HR hR=>?_
 obtain⟨_,rfl,rfl⟩:=hR;revert vR;intro u3;refine PS ?_;refine nx J18 (ah (WK [2] (aw rfl rfl ?_)));exact⟨_,rfl,congrArg (λb=>[cI u3 b 5]) (show(bh [m.kind,m.whose]++bh m.view.flat)=cY m by simp[cY,el,ff,bh, *])⟩;refine PS ?_;refine nx J17 (CN (aR (af (ad J3 (sr λ_ J19=>PS ?_)))));refine CR nS (eH b4 (.slice none 0 0) ([]) (by simp)) (SM [1,0]) λvR HR hR=>?_
 obtain⟨_,rfl,rfl⟩:=hR;revert vR;intro u1;refine PS ?_;refine nx J19 (ah (WK [2] (aw rfl rfl ?_)));exact⟨_,rfl,congrArg (λb=>[cI u1 b 5]) (show([]:List UInt8)=cY m by simp[cY,bh, *])⟩;refine sr λ_ J20=>P2 ?_
 refine ap ?_ ?_<;>intro h30;refine nx J20 (CY (aR ?_))
 exact aE
  (aX (aX (aX (aX (bM rfl (by simp[ff, *]) SB)))))
  (λ_ s=>s)
  (tl9 (():Unit) trivial)
 refine nx J20 (CN (ac (PS ?_)));refine ap ?_ ?_<;>intro h32;refine PS ?_;refine au ?_
 exact aE
  (aX (aX (aX (aX (bM rfl (by simp[ff, *]) SB)))))
  (λ_ s=>s)
  (tl9 (():Unit) trivial)
 refine PS ?_;refine au ?_
 exact aE
  (aX (aX (aX (aX (bM rfl (by simp[ff, *]) SB)))))
  (λ_ s=>s)
  (tl9 (():Unit) trivial)
 refine sr λ_ J21=>P2 ?_
 refine ap ?_ ?_<;>intro h7;refine nx J21 (CY (aR ?_))
 exact aE
  (aX (aX (aX (aX (bM rfl (by simp[el, *]) SB)))))
  (λ_ s=>s)
  (tl5 (():Unit) trivial)
 refine nx J21 (CN (sr λ_ J22=>P2 ?_));refine ap ?_ ?_<;>intro h7;refine nx J22 (CY (aR ?_))
 exact aE
  (aX (aX (aX (aX (bM rfl (by simp[el, *]) SB)))))
  (λ_ s=>s)
  (tl5 (():Unit) trivial)
 refine nx J22 (CN (ac (PS ?_)));refine ap ?_ ?_<;>intro h10;refine PS ?_;refine au ?_
 exact aE
  (aX (aX (aX (aX (bM rfl (by simp[el, *]) SB)))))
  (λ_ s=>s)
  (tl5 (():Unit) trivial)
 refine PS ?_;refine au ?_
 exact aE
  (aX (aX (aX (aX (bM rfl (by simp[el, *]) SB)))))
  (λ_ s=>s)
  (tl5 (():Unit) trivial)
theorem Df(m:RecT):
 DT 147 #[(.agg (ints m.flat).toArray)] T0 [] (dD (λr' H=>∃u,r'=u∧H=[cI u (k8 m) 5])):=by
 refine BD 77 Tryz.func147 rfl rfl rfl λw0 F hF=>sr λ_ J1=>XY (ints m.flat) λb1=>?_
 refine PS ?_;refine nx J1 (sr λ_ J2=>XA Ov λb4=>?_);refine TL.ownNil 5 (λon=>?_);clear on;refine PS ?_;refine nx J2 (aa λ_ J3=>sr λ_ J4=>FA 0 eC aP ?_);refine LU 2 Y3 (lq m rfl) ?_;refine nx J4 (am (sr λ_ J5=>PS ?_));refine ap ?_ ?_<;>intro h8;refine PS ?_;refine nx J5 (CY (D1 2 bl ?_));refine PD 0 ?_;refine FD 1 0 eC aP ?_;refine LR 2 Y3 (lq m rfl) ?_;refine FD 5 2 eC bf ?_;refine ta 6 rfl (aN (vs:=ints m.row.flat) rfl ei rfl bf rfl (λ_ h=>h.2.1) (ai m.row) (sN m 0 rfl (by decide) (whole (ai m.row)))) ?_;refine AL 3 ?_;refine aM (cells:=#[(.int .i64 (m.kind))]) (ab rfl) rfl rfl rfl dZ oH rfl rfl rfl (by as_aux_lemma=>kernel_rfl) (λb12=>EN (AL 4 ?_));refine CQ kE (eg b4 (.slice none 0 0) ([]) (.slice (some ⟨b12,0,none⟩) (1) (1)) [m.kind] (by simp)) (SM [2,1]) (dT 0 rfl rfl rfl rfl) λvR HR hR=>?_
 obtain⟨u1,rfl,rfl⟩:=hR;refine EN (AL 7 ?_);refine CR J0 (uu b4 u1 (bh [m.kind]) m.row (by(have:=aZ [m.kind]);simp only[BallotT.flat,ViewT.flat,ChangeT.flat,av,az,aB,ag]at*;omega)) ID λvR HR hR=>?_
 obtain⟨u2,rfl,rfl⟩:=hR;refine EN (DN (af (ad J3 (sr λ_ J6=>PS ?_))));refine CR nS (eH b4 u2 (bh [m.kind]++im m.row) (by(have:=aZ [m.kind]);(have:=iZ m.row);simp only[BallotT.flat,ViewT.flat,ChangeT.flat,av,az,aB,ag]at*;omega)) ID λvR HR hR=>?_
 obtain⟨_,rfl,rfl⟩:=hR;revert vR;intro u3;refine PS ?_;refine nx J6 (ah (WK [2] (aw rfl rfl ?_)));exact⟨_,rfl,congrArg (λb=>[cI u3 b 5]) (show(bh [m.kind]++im m.row)=k8 m by simp[k8,el,ff,bh, *])⟩;refine PS ?_;refine nx J5 (CN (sr λ_ J7=>PS ?_));refine ap ?_ ?_<;>intro h18;refine PS ?_;refine nx J7 (CY (D1 2 bl ?_));refine PD 0 ?_;refine FD 1 0 eC aP ?_;refine LR 2 Y3 (lq m rfl) ?_;refine FD 3 1 eC aP ?_;refine LR 4 Y3 (Hc m rfl) ?_;refine FD 7 2 eC bf ?_;refine ta 8 rfl (aN (vs:=ints m.row.flat) rfl ei rfl bf rfl (λ_ h=>h.2.1) (ai m.row) (sN m 0 rfl (by decide) (whole (ai m.row)))) ?_;refine AL 5 ?_;refine aM (cells:=#[(.int .i64 (m.kind)),(.int .i64 (m.whose))]) (ab rfl) rfl rfl rfl dZ oH rfl rfl rfl (by as_aux_lemma=>kernel_rfl) (λb24=>EN (AL 6 ?_));refine CQ kE (eg b4 (.slice none 0 0) ([]) (.slice (some ⟨b24,0,none⟩) (2) (2)) [m.kind,m.whose] (by simp)) (SM [2,1]) (dT 0 rfl rfl rfl rfl) λvR HR hR=>?_
 obtain⟨u1,rfl,rfl⟩:=hR;refine EN (AL 9 ?_);refine CR J0 (uu b4 u1 (bh [m.kind,m.whose]) m.row (by(have:=aZ [m.kind,m.whose]);simp only[BallotT.flat,ViewT.flat,ChangeT.flat,av,az,aB,ag]at*;omega)) ID λvR HR hR=>?_
 obtain⟨u2,rfl,rfl⟩:=hR;refine EN (DN (af (ad J3 (sr λ_ J8=>PS ?_))));refine CR nS (eH b4 u2 (bh [m.kind,m.whose]++im m.row) (by(have:=aZ [m.kind,m.whose]);(have:=iZ m.row);simp only[BallotT.flat,ViewT.flat,ChangeT.flat,av,az,aB,ag]at*;omega)) ID λvR HR hR=>?_
 obtain⟨_,rfl,rfl⟩:=hR;revert vR;intro u3;refine PS ?_;refine nx J8 (ah (WK [2] (aw rfl rfl ?_)));exact⟨_,rfl,congrArg (λb=>[cI u3 b 5]) (show(bh [m.kind,m.whose]++im m.row)=k8 m by simp[k8,el,ff,bh, *])⟩;refine PS ?_;refine nx J7 (CN (sr λ_ J9=>PS ?_));refine ap ?_ ?_<;>intro h30;refine PS ?_;refine nx J9 (CY (ac (PS ?_)));refine FA 0 eC aP ?_;refine LU 2 Y3 (lq m rfl) ?_;refine FA 1 eC aP ?_;refine LU 2 Y3 (Hc m rfl) ?_;refine aM (cells:=#[(.int .i64 (m.kind)),(.int .i64 (m.whose))]) (ab rfl) rfl rfl rfl dZ oH rfl rfl rfl (by as_aux_lemma=>kernel_rfl) (λb36=>CQ kE (eg b4 (.slice none 0 0) ([]) (.slice (some ⟨b36,0,none⟩) (2) (2)) [m.kind,m.whose] (by simp)) (SM [2,1]) (dT 0 rfl rfl rfl rfl) λvR HR hR=>?_);obtain⟨u1,rfl,rfl⟩:=hR;refine au (af (ad J3 (sr λ_ J10=>PS ?_)));refine CR nS (eH b4 u1 (bh [m.kind,m.whose]) (by(have:=aZ [m.kind,m.whose]);simp only[BallotT.flat,ViewT.flat,ChangeT.flat,av,az,aB,ag]at*;omega)) ID λvR HR hR=>?_
 obtain⟨_,rfl,rfl⟩:=hR;revert vR;intro u2;refine PS ?_;refine nx J10 (ah (WK [2] (aw rfl rfl ?_)));exact⟨_,rfl,congrArg (λb=>[cI u2 b 5]) (show(bh [m.kind,m.whose])=k8 m by simp[k8,el,ff,bh, *])⟩;refine PS ?_;refine nx J9 (CN (sr λ_ J11=>PS ?_));refine ap ?_ ?_<;>intro h39;refine PS ?_;refine nx J11 (CY (D1 2 bl ?_));refine PD 0 ?_;refine FD 1 0 eC aP ?_;refine LR 2 Y3 (lq m rfl) ?_;refine FD 3 176 eC aP ?_;refine LR 4 Y3 (RecT.at_epoch m rfl) ?_;refine FD 7 177 eC cK ?_;refine ta 8 rfl (aN (vs:=ints m.ballot.flat) rfl kU rfl cK rfl (λ_ h=>h.2.1) (aq m.ballot) (rG m 0 rfl (by decide) (whole (aq m.ballot)))) ?_;refine AL 5 ?_;refine aM (cells:=#[(.int .i64 (m.kind)),(.int .i64 (m.epoch))]) (ab rfl) rfl rfl rfl dZ oH rfl rfl rfl (by as_aux_lemma=>kernel_rfl) (λb45=>EN (AL 6 ?_));refine CQ kE (eg b4 (.slice none 0 0) ([]) (.slice (some ⟨b45,0,none⟩) (2) (2)) [m.kind,m.epoch] (by simp)) (SM [2,1]) (dT 0 rfl rfl rfl rfl) λvR HR hR=>?_
 obtain⟨u1,rfl,rfl⟩:=hR;refine EN (AL 9 ?_);refine CR Ab (j0 b4 u1 (bh [m.kind,m.epoch]) m.ballot (by(have:=aZ [m.kind,m.epoch]);simp only[BallotT.flat,ViewT.flat,ChangeT.flat,av,az,aB,ag]at*;omega)) ID λvR HR hR=>?_
 obtain⟨u2,rfl,rfl⟩:=hR;refine EN (DN (af (ad J3 (sr λ_ J12=>PS ?_))));refine CR nS (eH b4 u2 (bh [m.kind,m.epoch]++bh m.ballot.flat) (by(have:=aZ [m.kind,m.epoch]);(have:=aZ (m.ballot.flat));simp only[BallotT.flat,ViewT.flat,ChangeT.flat,av,az,aB,ag]at*;omega)) ID λvR HR hR=>?_
 obtain⟨_,rfl,rfl⟩:=hR;revert vR;intro u3;refine PS ?_;refine nx J12 (ah (WK [2] (aw rfl rfl ?_)));exact⟨_,rfl,congrArg (λb=>[cI u3 b 5]) (show(bh [m.kind,m.epoch]++bh m.ballot.flat)=k8 m by simp[k8,el,ff,bh, *])⟩;refine PS ?_;refine nx J11 (CN (sr λ_ J13=>PS ?_));refine ap ?_ ?_<;>intro h51;refine PS ?_;refine nx J13 (CY (D1 2 bl ?_));refine PD 0 ?_;refine FD 1 0 eC aP ?_;refine LR 2 Y3 (lq m rfl) ?_;refine FD 3 176 eC aP ?_;refine LR 4 Y3 (RecT.at_epoch m rfl) ?_;refine FD 7 177 eC cK ?_;refine ta 8 rfl (aN (vs:=ints m.ballot.flat) rfl kU rfl cK rfl (λ_ h=>h.2.1) (aq m.ballot) (rG m 0 rfl (by decide) (whole (aq m.ballot)))) ?_;refine FD 10 179 eC fD ?_;refine ta 11 rfl (aN (vs:=ints m.change.flat) rfl mP rfl fD rfl (λ_ h=>h.2.1) (aJ m.change) (Oh m 0 rfl (by decide) (whole (aJ m.change)))) ?_;refine AL 5 ?_;refine aM (cells:=#[(.int .i64 (m.kind)),(.int .i64 (m.epoch))]) (ab rfl) rfl rfl rfl dZ oH rfl rfl rfl (by as_aux_lemma=>kernel_rfl) (λb57=>EN (AL 6 ?_));refine CQ kE (eg b4 (.slice none 0 0) ([]) (.slice (some ⟨b57,0,none⟩) (2) (2)) [m.kind,m.epoch] (by simp)) (SM [2,1]) (dT 0 rfl rfl rfl rfl) λvR HR hR=>?_
 obtain⟨u1,rfl,rfl⟩:=hR;refine EN (AL 9 ?_);refine CR Ab (j0 b4 u1 (bh [m.kind,m.epoch]) m.ballot (by(have:=aZ [m.kind,m.epoch]);simp only[BallotT.flat,ViewT.flat,ChangeT.flat,av,az,aB,ag]at*;omega)) ID λvR HR hR=>?_
 obtain⟨u2,rfl,rfl⟩:=hR;refine EN (AL 12 ?_);refine CR JZ (pj b4 u2 (bh [m.kind,m.epoch]++bh m.ballot.flat) m.change (by(have:=aZ [m.kind,m.epoch]);(have:=aZ (m.ballot.flat));simp only[BallotT.flat,ViewT.flat,ChangeT.flat,av,az,aB,ag]at*;omega)) ID λvR HR hR=>?_
 obtain⟨u3,rfl,rfl⟩:=hR;refine EN (DN (af (ad J3 (sr λ_ J14=>PS ?_))));refine CR nS (eH b4 u3 (bh [m.kind,m.epoch]++bh m.ballot.flat++bh m.change.flat) (by(have:=aZ [m.kind,m.epoch]);(have:=aZ (m.ballot.flat));(have:=aZ (m.change.flat));simp only[BallotT.flat,ViewT.flat,ChangeT.flat,av,az,aB,ag]at*;omega)) ID λvR HR hR=>?_
 obtain⟨_,rfl,rfl⟩:=hR;revert vR;intro u4;refine PS ?_;refine nx J14 (ah (WK [2] (aw rfl rfl ?_)));exact⟨_,rfl,congrArg (λb=>[cI u4 b 5]) (show(bh [m.kind,m.epoch]++bh m.ballot.flat++bh m.change.flat)=k8 m by simp[k8,el,ff,bh, *])⟩;refine PS ?_;refine nx J13 (CN (sr λ_ J15=>PS ?_));refine ap ?_ ?_<;>intro h66;refine PS ?_;refine nx J15 (CY (D1 2 bl ?_));refine PD 0 ?_;refine FD 1 0 eC aP ?_;refine LR 2 Y3 (lq m rfl) ?_;refine FD 5 182 eC bj ?_;refine ta 6 rfl (aN (vs:=ints m.view.flat) rfl eB rfl bj rfl (λ_ h=>h.2.1) (an m.view) (Rk m 0 rfl (by decide) (whole (an m.view)))) ?_;refine AL 3 ?_;refine aM (cells:=#[(.int .i64 (m.kind))]) (ab rfl) rfl rfl rfl dZ oH rfl rfl rfl (by as_aux_lemma=>kernel_rfl) (λb70=>EN (AL 4 ?_));refine CQ kE (eg b4 (.slice none 0 0) ([]) (.slice (some ⟨b70,0,none⟩) (1) (1)) [m.kind] (by simp)) (SM [2,1]) (dT 0 rfl rfl rfl rfl) λvR HR hR=>?_
 obtain⟨u1,rfl,rfl⟩:=hR;refine EN (AL 7 ?_);refine CR JY (rW b4 u1 (bh [m.kind]) m.view (by(have:=aZ [m.kind]);simp only[BallotT.flat,ViewT.flat,ChangeT.flat,av,az,aB,ag]at*;omega)) ID λvR HR hR=>?_
 obtain⟨u2,rfl,rfl⟩:=hR;refine EN (DN (af (ad J3 (sr λ_ J16=>PS ?_))));refine CR nS (eH b4 u2 (bh [m.kind]++bh m.view.flat) (by(have:=aZ [m.kind]);(have:=aZ (m.view.flat));simp only[BallotT.flat,ViewT.flat,ChangeT.flat,av,az,aB,ag]at*;omega)) ID λvR HR hR=>?_
 obtain⟨_,rfl,rfl⟩:=hR;revert vR;intro u3;refine PS ?_;refine nx J16 (ah (WK [2] (aw rfl rfl ?_)));exact⟨_,rfl,congrArg (λb=>[cI u3 b 5]) (show(bh [m.kind]++bh m.view.flat)=k8 m by simp[k8,el,ff,bh, *])⟩;refine PS ?_;refine nx J15 (CN (aR (af (ad J3 (sr λ_ J17=>PS ?_)))));refine CR nS (eH b4 (.slice none 0 0) ([]) (by simp)) (SM [1,0]) λvR HR hR=>?_
 obtain⟨_,rfl,rfl⟩:=hR;revert vR;intro u1;refine PS ?_;refine nx J17 (ah (WK [2] (aw rfl rfl ?_)));exact⟨_,rfl,congrArg (λb=>[cI u1 b 5]) (show([]:List UInt8)=k8 m by simp[k8,el,ff,bh, *])⟩
open Dsk Wal
theorem rf(who:Int)(hm:cJ who=true):DT 110 #[.int .i64 who] T0 [] (dD (λr' H=>∃u,r'=u∧H=[own u 2 [.int .i64 ((who+1)%5), .int .i64 ((who+2)%5)] 3 1])):=by
 have:=qk who;rw[show iz who=[(who+1)%5,(who+2)%5]by rw[iz,if_pos hm]]at this;exact this
theorem Fg(r:Nat)(x:RepT)(op err val:Int)(rs:List ReplyT)(hrs:rs.length≤1000000):
 DT 52 #[(.pointer (some ⟨r,0,none⟩)),(.int .i64 (op)),(.int .i64 (err)),(.int .i64 (val))] T0 [aj r (RepT.cells x) 95,own x.replies ((rs).length) (ints (List.flatMap ReplyT.flat (rs))) 45 3] (dD (λ_ H=>∃v',v'.oneCell'=true∧H=[aj r (RepT.cells {x with replies:=v'}) 95,own v' (rs++[ReplyT.mk op err val]).length (ints (List.flatMap ReplyT.flat (rs++[ReplyT.mk op err val]))) 45 3])):=by
 refine BD 21 Tryz.func52 rfl rfl rfl λw0 F hF=>ac (P3 ?_)
 refine FA 1942 dv yN ?_;refine LT 0 I7 x.replies ?_ (hc:=by exact RepT.at_replies x rfl);refine P3 ?_;refine tp (zl (cs:=ints (ReplyT.mk op err val).flat) (segs:=[[Value.int .i64 0],[Value.int .i64 0],[Value.int .i64 0]]) (res:=[[Value.int .i64 op],[Value.int .i64 err],[Value.int .i64 val]]) (parts:=[(0,[Value.int .i64 op]),(1,[Value.int .i64 err]),(2,[Value.int .i64 val])]) rfl rfl Tryz.underlying45 (by kernel_rfl) (by kernel_rfl) rfl (fG rfl rfl (fG rfl rfl (fG rfl rfl mu))) (ReplyT.eq (ReplyT.mk op err val)).symm) ?_;refine aM (cells:=(ints (ReplyT.mk op err val).flat).toArray) (ab rfl) rfl rfl rfl I7 Iz rfl rfl rfl (kd (ReplyT.len (ReplyT.mk op err val)) (by simp)) (λb17=>?_);change TL _ _ _ _ _ _ _ _ _ [aj b17 (ints (ReplyT.mk op err val).flat) 45,aj r (RepT.cells x) 95,own x.replies ((rs).length) (ints (List.flatMap ReplyT.flat (rs))) 45 3];refine bX (k:=2) (news:=ints (ReplyT.mk op err val).flat) (nn':=(rs++[ReplyT.mk op err val]).length) (xs':=ints (List.flatMap ReplyT.flat (rs++[ReplyT.mk op err val]))) (ab rfl) rfl rfl rfl I7 Iz rfl rfl rfl rfl rfl rfl (λ_ _=>gl (ReplyT.len _) (RO 0) (by rw[bb,gA])) (bv _) (by simp only[maxLen];omega) (by omega) (by simp) (by simp[ints]) (λv18 ov18=>PS ?_);refine FA 1942 dv yN ?_;exact bH (i:=1) (ab rfl) rfl rfl rfl rfl ov18 yN rfl rfl (LB (dh _)) (RepT.set_replies x rfl _) rfl (au (WK [1,1] (bB rfl ⟨_,ov18,rfl⟩)))
theorem Dh(r:Nat)(x:RepT)(key:Int):
 DT 14 #[(.pointer (some ⟨r,0,none⟩)),(.int .i64 (key))] T0 [aj r (RepT.cells x) 95] (RI (.int .i64 (gh x.book key)) [aj r (RepT.cells x) 95]):=by
 refine BD 10 Tryz.func14 rfl rfl rfl λw0 F hF=>sr λ_ J1=>PS ?_
 refine nx J1 (sr λ_ J2=>P2 ?_);refine FA 1068 dv Cm ?_;refine PS ?_;refine CE Kj (jT r 1068 95 (λu=>RepT.cells {x with book:=u}) (gJ x) x.book key) ID ?_;refine PS ?_;exact nx J2 (ah (WK [0] (aw rfl rfl ⟨rfl,rfl⟩)))
theorem HY(r:Nat)(x:RepT):
 DT 126 #[(.pointer (some ⟨r,0,none⟩))] T0 [aj r (RepT.cells x) 95] (RI (.agg (ints x.own.flat).toArray) [aj r (RepT.cells x) 95]):=by
 refine BD 7 Tryz.func126 rfl rfl rfl λw0 F hF=>sr λ_ J1=>XZ vl (ints RowT.zero.flat) λb2=>?_
 refine nx J1 (sr λ_ J2=>P2 ?_);refine FA 9 dv bf ?_;refine LV 1 ei bf ai EC (y:=x.own) ?_;refine SW 0 bf ai ?_;refine nx J2 (ah (RC 0 [1] ei bf (ai _) ?_));exact⟨rfl,rfl⟩
theorem Fi(r:Nat)(x:RepT):
 DT 125 #[(.pointer (some ⟨r,0,none⟩))] T0 [aj r (RepT.cells x) 95] (RI (.agg (ints x.view.flat).toArray) [aj r (RepT.cells x) 95]):=by
 refine BD 7 Tryz.func125 rfl rfl rfl λw0 F hF=>sr λ_ J1=>XZ sO (ints ViewT.zero.flat) λb2=>?_
 refine nx J1 (sr λ_ J2=>P2 ?_);refine FA 2 dv bj ?_;refine LV 1 eB bj an df (y:=x.view) ?_;refine SW 0 bj an ?_;refine nx J2 (ah (RC 0 [1] eB bj (an _) ?_));exact⟨rfl,rfl⟩
theorem xF(r:Nat)(x:RepT)(who:Int):
 DT 33 #[(.pointer (some ⟨r,0,none⟩)),(.int .i64 (who))] T0 [aj r (RepT.cells x) 95] (RI (.tuple #[.agg (ints (mirRow x.mirror who).flat).toArray, .bool (fb x.mirror who)]) [aj r (RepT.cells x) 95]):=by
 refine BD 16 Tryz.func33 rfl rfl rfl λw0 F hF=>sr λ_ J1=>XZ vl (ints RowT.zero.flat) λb4=>?_
 refine PS ?_;refine nx J1 (aa λ_ J2=>D0 bl ?_);refine PD 0 ?_;refine PD 1 ?_;refine FD 2 183 dv uD ?_;refine PD 3 ?_;refine PD 5 ?_;refine PD 6 ?_;refine FD 7 183 dv uD ?_;refine PD 8 ?_;refine AL 4 ?_;refine CE JX (mA r 183 95 (λu=>RepT.cells {x with mirror:=u}) (ej x) x.mirror who) (SM [1]) ?_;refine EN (AL 9 ?_);refine CE NL (nU r 183 95 (λu=>RepT.cells {x with mirror:=u}) (ej x) x.mirror who) ID ?_;refine EN (AL 10 ?_);refine SW 1 bf ai ?_;refine EN (PD 11 ?_);refine DN (ad J2 (ah (RT 1 [0] ei bf (ai _) ?_)));exact⟨rfl,rfl⟩
theorem Bd(r:Nat)(x:RepT)(rs:List ReplyT)(hrs:rs.length≤1000000):
 DT 37 #[(.pointer (some ⟨r,0,none⟩))] T0 [aj r (RepT.cells x) 95,own x.replies ((rs).length) (ints (List.flatMap ReplyT.flat (rs))) 45 3] (dD (λr' H=>∃u,r'=u∧H=[aj r (RepT.cells x) 95,own x.replies rs.length (ints (List.flatMap ReplyT.flat rs)) 45 3,own u rs.length (ints (List.flatMap ReplyT.flat rs)) 45 3])):=by
 refine BD 8 Tryz.func37 rfl rfl rfl λw0 F hF=>sr λ_ J1=>I3 45 3 (λ_=>PS ?_)
 refine nx J1 (sr λ_ J2=>P2 ?_);refine FA 1942 dv yN ?_;refine LT 1 I7 x.replies ?_ (hc:=by exact RepT.at_replies x rfl);refine bX (k:=0) (news:=ints (List.flatMap ReplyT.flat rs)) (nn':=rs.length) (xs':=ints (List.flatMap ReplyT.flat rs)) (ab rfl) rfl rfl rfl I7 Iz rfl rfl rfl rfl rfl rfl (λ_ s=>Lc 2 rfl rfl s) (bv _) (by simp only[maxLen];omega) (by omega) (by simp) (by simp) (λv7 ov7=>PS ?_);exact nx J2 (ah (WK [1,1,0] (aw rfl rfl ⟨_,rfl,rfl⟩)))
end Go.Proofs.YtkhjnolhhidecaaGreatDoor
end

section
namespace Api
open Go Leg Codec Dsk Wal
def kY(w:Int)(x:RowT):RecT:= {RecT.zero with kind:=1,whose:=w,row:=x}
def j8(w:Int):RecT:= {RecT.zero with kind:=2,whose:=w}
def j5(v:ViewT):RecT:= {RecT.zero with kind:=5,view:=v}
def pH(v:Int):MsgT:= {MsgT.zero with kind:=1,version:=v}
def eT(w:Int)(x:RowT):MsgT:= {MsgT.zero with kind:=9,whose:=w,row:=x}
section
variable {x:RepT} {from' w:Int} {y:RowT} {recs:List (List UInt8)}
end
section
variable {x:RepT} {from' w:Int} {v:ViewT} {recs:List (List UInt8)}
end
end Api
end

section
namespace Go.Proofs.YtkhjnolhhidecaaGreatDoor
open Go Leg Codec Api Dsk Wal
theorem H6(r:Nat)(x:RepT)(o:OpT):
 DT 51 #[(.pointer (some ⟨r,0,none⟩)),(.agg (ints o.flat).toArray)] T0 [aj r (RepT.cells x) 95] (RI (.tuple #[.agg (ints (kD x o).1.flat).toArray, .int .i64 (kD x o).2.1, .int .i64 (kD x o).2.2]) [aj r (RepT.cells x) 95]):=by
 refine BD 121 Tryz.func51 rfl rfl rfl λw0 F hF=>sr λ_ J1=>XY (ints o.flat) λb3=>?_
 refine XZ vl (ints RowT.zero.flat) λb4=>?_
 refine P2 ?_;refine nx J1 (aa λ_ J2=>aa λ_ J3=>D1 2 bl ?_);refine PD 0 ?_;refine PD 1 ?_;refine FD 2 2 dv bj ?_;refine ta 3 rfl (aN (vs:=ints x.view.flat) rfl eB rfl bj rfl (λ_ h=>h.2.1) (an x.view) (gF x 0 rfl (by decide) (whole (an x.view)))) ?_;refine PD 4 ?_;refine PD 5 ?_;refine FD 6 0 dv aP ?_;refine LR 7 Y3 (cU x rfl) ?_;refine AL 8 ?_;refine CE qH (dR x.view x.id) ID ?_;refine bg ?_ ?_<;>intro h17;refine EN (PD 9 ?_);refine DN (ad J3 (CN (qx J2 (aa λ_ J4=>sr λ_ J5=>FA 3 eP aP ?_))));refine LU 1 Y3 (og o rfl) ?_;refine PS ?_;refine ap ?_ ?_<;>intro h22;have hkb:nh o.key=false:=decide_eq_false (by omega);refine PS ?_
 iterate 3 refine UT ?_
 refine PS ?_;refine nx J5 (CY (sr λ_ J6=>BV ((ints RowT.zero.flat).toArray) ?_));refine SW 0 bf ai ?_;refine P2 ?_;refine nx J6 (ah (ae (RU 0 [2] ei bf (ai _) ?_)));exact⟨by simp[kD,fR, *],rfl⟩;refine PS ?_;refine FA 3 eP aP ?_;refine LU 1 Y3 (og o rfl) ?_;refine PS ?_;refine ap ?_ ?_<;>intro h26;have hkb:nh o.key=false:=decide_eq_false (by omega);refine PS ?_;refine nx J5 (CY (sr λ_ J7=>BV ((ints RowT.zero.flat).toArray) ?_));refine SW 0 bf ai ?_;refine P2 ?_;refine nx J7 (ah (ae (RU 0 [2] ei bf (ai _) ?_)));exact⟨by simp[kD,fR, *],rfl⟩;have hkb:nh o.key=true:=decide_eq_true (by omega);refine PS ?_;refine nx J5 (CN (qx J4 (aa λ_ J8=>sr λ_ J9=>FA 0 eP aP ?_)));refine LU 1 Y3 (cO o rfl) ?_;refine PS ?_;refine ap ?_ ?_<;>intro h31;refine nx J9 (CY (aa λ_ J10=>D1 1 bl ?_));refine ta 0 rfl (kL (cells:=(ints RowT.zero.flat).toArray) rfl rfl (by as_aux_lemma=>kernel_rfl)) ?_;refine PD 1 ?_;refine PD 2 ?_;refine FD 3 1068 dv Cm ?_;refine FD 4 3 eP aP ?_;refine LR 5 Y3 (og o rfl) ?_;refine AL 6 ?_;refine CE Kj (jT r 1068 95 (λu=>RepT.cells {x with book:=u}) (gJ x) x.book o.key) (SM [2]) ?_;refine EN (AL 7 ?_);refine SW 1 bf ai ?_;refine EN (PD 8 ?_);refine PD 9 ?_;refine DN (ad J10 (ah (ae (RU 1 [0] ei bf (ai _) ?_))));exact⟨by simp[kD,fR, *],rfl⟩;refine nx J9 (CN (qx J8 (aa λ_ J11=>sr λ_ J12=>P2 ?_)));refine FA 1938 dv lR ?_;refine LU 2 Y4 (zh x rfl) ?_;refine bg ?_ ?_<;>intro h42
 refine nx J12 (CY (sr λ_ J13=>BV ((ints RowT.zero.flat).toArray) ?_));refine SW 0 bf ai ?_;refine P2 ?_;refine nx J13 (ah (ae (RU 0 [2] ei bf (ai _) ?_)));exact⟨by simp[kD,fR, *],rfl⟩;refine nx J12 (CN (qx J11 (sr λ_ J14=>XZ vl (ints RowT.zero.flat) λb7=>?_)));refine nx J14 (sr λ_ J15=>PS ?_);refine nx J15 (aa λ_ J16=>sr λ_ J17=>FA 0 eP aP ?_);refine LU 2 Y3 (cO o rfl) ?_;refine nx J17 (am (sr λ_ J18=>PS ?_));refine ap ?_ ?_<;>intro h47;refine PS ?_;refine nx J18 (CY (D2 3 2 bl ?_));refine PD 0 ?_;refine PD 1 ?_;refine FD 2 9 dv bf ?_;refine ta 3 rfl (aN (vs:=ints x.own.flat) rfl ei rfl bf rfl (λ_ h=>h.2.1) (ai x.own) (zf x 0 rfl (by decide) (whole (ai x.own)))) ?_;refine FD 4 3 eP aP ?_;refine LR 5 Y3 (og o rfl) ?_;refine FD 6 4 eP aP ?_;refine LR 7 Y3 (q7 o rfl) ?_;refine AL 8 ?_;refine CE QC (Db x.own o.key o.n) ID ?_;refine EN (PD 9 ?_);refine PD 10 ?_;refine PD 11 ?_;refine AL 12 ?_;refine SW 0 bf ai ?_;refine EN (PD 13 ?_);refine DN (af (ad J16 (aa λ_ J19=>sr λ_ J20=>P2 ?_)));refine ap ?_ ?_<;>intro h98;refine nx J20 (CY (sr λ_ J21=>BV ((ints RowT.zero.flat).toArray) ?_));refine PS ?_;refine SW 1 bf ai ?_;refine P2 ?_;refine nx J21 (ah (ae (RU 1 [3] ei bf (ai _) ?_)));exact⟨by simp[kD,fR, *],rfl⟩;refine nx J20 (CN (qx J19 (aa λ_ J22=>aa λ_ J23=>D2 2 3 bl ?_)));refine FD 0 0 eP aP ?_;refine LR 1 Y3 (cO o rfl) ?_;refine PD 2 ?_;refine kg ?_ ?_<;>intro h103
 · exact absurd h47 h103
 refine PD 3 ?_;refine NT 4 ?_;refine NT 5 ?_;refine NT 6 ?_;refine NT 7 ?_;refine NT 8 ?_;refine NT 9 ?_;refine NT 10 ?_;refine NT 11 ?_;refine NT 12 ?_;refine NT 13 ?_;refine NT 14 ?_;refine NT 15 ?_;refine NT 16 ?_;refine PD 17 ?_;refine DN (ad J23 (CN (qx J22 (sr λ_ J24=>LW 0 ei bf ai ?_))));refine SW 1 bf ai ?_;refine P2 ?_;refine nx J24 (ah (RU 1 [3] ei bf (ai _) ?_));exact⟨by simp[kD,fR, *],rfl⟩;refine PS ?_;refine nx J18 (CN (sr λ_ J25=>PS ?_));refine ap ?_ ?_<;>intro h61;refine PS ?_;refine nx J25 (CY (D2 3 2 bl ?_));refine PD 0 ?_;refine PD 1 ?_;refine FD 2 9 dv bf ?_;refine ta 3 rfl (aN (vs:=ints x.own.flat) rfl ei rfl bf rfl (λ_ h=>h.2.1) (ai x.own) (zf x 0 rfl (by decide) (whole (ai x.own)))) ?_;refine FD 4 3 eP aP ?_;refine LR 5 Y3 (og o rfl) ?_;refine FD 6 4 eP aP ?_;refine LR 7 Y3 (q7 o rfl) ?_;refine AL 8 ?_;refine CE QB (Dc x.own o.key o.n) ID ?_;refine EN (PD 9 ?_);refine PD 10 ?_;refine PD 11 ?_;refine AL 12 ?_;refine SW 0 bf ai ?_;refine EN (PD 13 ?_);refine DN (af (ad J16 (aa λ_ J26=>sr λ_ J27=>P2 ?_)));refine ap ?_ ?_<;>intro h98;refine nx J27 (CY (sr λ_ J28=>BV ((ints RowT.zero.flat).toArray) ?_));refine PS ?_;refine SW 1 bf ai ?_;refine P2 ?_;refine nx J28 (ah (ae (RU 1 [3] ei bf (ai _) ?_)));exact⟨by simp[kD,fR, *],rfl⟩;refine nx J27 (CN (qx J26 (aa λ_ J29=>aa λ_ J30=>D2 2 3 bl ?_)));refine FD 0 0 eP aP ?_;refine LR 1 Y3 (cO o rfl) ?_;refine PD 2 ?_;refine kg ?_ ?_<;>intro h103;refine PD 3 ?_
 refine PD 4 ?_;refine PD 5 ?_;refine FD 6 1068 dv Cm ?_;refine PD 7 ?_;refine PD 8 ?_;refine FD 9 0 dv aP ?_;refine LR 10 Y3 (cU x rfl) ?_;refine FD 11 3 eP aP ?_;refine LR 12 Y3 (og o rfl) ?_;refine FD 14 4 eP aP ?_;refine LR 15 Y3 (q7 o rfl) ?_;refine AL 13 ?_;refine CE O2 (pX r 1068 95 (λu=>RepT.cells {x with book:=u}) (gJ x) x.book x.id o.key) (SM [3]) ?_;refine EN (PD 16 ?_);refine kg ?_ ?_<;>intro h117;refine PD 17 ?_;refine DN (ad J30 (CY (sr λ_ J31=>BV ((ints RowT.zero.flat).toArray) ?_)));refine SW 2 bf ai ?_;refine P2 ?_;refine nx J31 (ah (ae (RU 2 [0] ei bf (ai _) ?_)));exact⟨by simp[kD,fR, *],rfl⟩;refine PD 17 ?_;refine DN (ad J30 (CN (qx J29 (sr λ_ J32=>LW 1 ei bf ai ?_))));refine SW 2 bf ai ?_;refine P2 ?_;refine nx J32 (ah (RU 2 [0] ei bf (ai _) ?_));exact⟨by simp[kD,fR, *],rfl⟩
 · exact absurd h47 h103
 refine PS ?_;refine nx J25 (CN (sr λ_ J33=>PS ?_));refine ap ?_ ?_<;>intro h75;refine PS ?_;refine nx J33 (CY (aa λ_ J34=>D2 2 3 bl ?_));refine FD 0 2 eP aP ?_;refine LR 1 Y3 (iB o rfl) ?_;refine PD 2 ?_;refine PD 3 ?_;refine FD 4 0 dv aP ?_;refine LR 5 Y3 (cU x rfl) ?_;refine PD 6 ?_;refine kg ?_ ?_<;>intro h82;refine DN (ad J34 (CY (D2 3 2 bl ?_)));refine PD 0 ?_;refine PD 1 ?_;refine FD 2 9 dv bf ?_;refine ta 3 rfl (aN (vs:=ints x.own.flat) rfl ei rfl bf rfl (λ_ h=>h.2.1) (ai x.own) (zf x 0 rfl (by decide) (whole (ai x.own)))) ?_;refine FD 4 3 eP aP ?_;refine LR 5 Y3 (og o rfl) ?_;refine FD 6 4 eP aP ?_;refine LR 7 Y3 (q7 o rfl) ?_;refine FD 8 2 eP aP ?_;refine LR 9 Y3 (iB o rfl) ?_;refine AL 10 ?_;refine CE QA (Bb x.own o.key o.n o.to') ID ?_;refine EN (PD 11 ?_);refine PD 12 ?_;refine PD 13 ?_;refine AL 14 ?_;refine SW 0 bf ai ?_;refine EN (PD 15 ?_);refine DN (af (ad J16 (aa λ_ J35=>sr λ_ J36=>P2 ?_)));refine ap ?_ ?_<;>intro h98;refine nx J36 (CY (sr λ_ J37=>BV ((ints RowT.zero.flat).toArray) ?_));refine PS ?_;refine SW 1 bf ai ?_;refine P2 ?_;refine nx J37 (ah (ae (RU 1 [3] ei bf (ai _) ?_)));exact⟨by simp[kD,fR, *],rfl⟩;refine nx J36 (CN (qx J35 (aa λ_ J38=>aa λ_ J39=>D2 2 3 bl ?_)));refine FD 0 0 eP aP ?_;refine LR 1 Y3 (cO o rfl) ?_;refine PD 2 ?_;refine kg ?_ ?_<;>intro h103;refine PD 3 ?_;refine PD 4 ?_;refine PD 5 ?_;refine FD 6 1068 dv Cm ?_;refine PD 7 ?_;refine PD 8 ?_;refine FD 9 0 dv aP ?_
 refine LR 10 Y3 (cU x rfl) ?_;refine FD 11 3 eP aP ?_;refine LR 12 Y3 (og o rfl) ?_;refine FD 14 4 eP aP ?_;refine LR 15 Y3 (q7 o rfl) ?_;refine AL 13 ?_;refine CE O2 (pX r 1068 95 (λu=>RepT.cells {x with book:=u}) (gJ x) x.book x.id o.key) (SM [3]) ?_;refine EN (PD 16 ?_);refine kg ?_ ?_<;>intro h117;refine PD 17 ?_;refine DN (ad J39 (CY (sr λ_ J40=>BV ((ints RowT.zero.flat).toArray) ?_)));refine SW 2 bf ai ?_;refine P2 ?_;refine nx J40 (ah (ae (RU 2 [0] ei bf (ai _) ?_)));exact⟨by simp[kD,fR, *],rfl⟩;refine PD 17 ?_;refine DN (ad J39 (CN (qx J38 (sr λ_ J41=>LW 1 ei bf ai ?_))));refine SW 2 bf ai ?_;refine P2 ?_;refine nx J41 (ah (RU 2 [0] ei bf (ai _) ?_));exact⟨by simp[kD,fR, *],rfl⟩
 · exact absurd h47 h103
 refine DN (ad J34 (CN (aR (af (ad J16 (aa λ_ J42=>sr λ_ J43=>P2 ?_))))));refine nx J43 (CY (sr λ_ J44=>BV ((ints RowT.zero.flat).toArray) ?_));refine PS ?_;refine SW 1 bf ai ?_;refine P2 ?_;refine nx J44 (ah (ae (RU 1 [3] ei bf (ai _) ?_)));exact⟨by simp[kD,fR, *],rfl⟩;refine PS ?_;refine nx J33 (CN (aR (af (ad J16 (aa λ_ J45=>sr λ_ J46=>P2 ?_)))));refine nx J46 (CY (sr λ_ J47=>BV ((ints RowT.zero.flat).toArray) ?_));refine PS ?_;refine SW 1 bf ai ?_;refine P2 ?_;refine nx J47 (ah (ae (RU 1 [3] ei bf (ai _) ?_)));exact⟨by simp[kD,fR, *],rfl⟩;refine EN (PD 9 ?_);refine DN (ad J3 (CY (sr λ_ J48=>BV ((ints RowT.zero.flat).toArray) ?_)));refine SW 0 bf ai ?_;refine P2 ?_;refine nx J48 (ah (ae (RU 0 [2] ei bf (ai _) ?_)));exact⟨by simp[kD,fR, *],rfl⟩
theorem FM(x:Value)(l:List Int)(v:Int)(hl:l.length≤1000000):
    DT 172 #[x,(.int .i64 (v))] (IsI .i64 x l) [] (dD (λr' H=>∃n:Int,r'= .int .i64 n∧(decide (n≥0)=true↔v∈l)∧H=[])):=by
 refine BD 19 Tryz.func172 rfl rfl rfl λw0 F hF=>sr λ_ J1=>PS ?_
 refine nx J1 (aa λ_ J2=>sr λ_ J3=>PS ?_);refine tp (dL rfl dZ rfl hF.len) ?_;refine PS ?_;refine nx J3 (am ?_)
 refine bG (α:=(Nat)) (λk=>k≤l.length∧∀(j:Nat),j<k→l.getD j 0≠v) (λk=>[(0,x),(1,(.int .i64 (v))),(7,(.int .i64 (((l.length:Nat):Int)))),(8,(.int .i64 (((k:Nat):Int))))]) (λk=>[]) (λk=>l.length-k) 0
     ⟨aO _,λj h=>absurd h (by omega)⟩ SB
     (λ_ s=>s) (λk hinv=>?_)
 obtain⟨hk,hv⟩:=hinv;refine sr λ_ J4=>PS ?_
 refine ap ?_ ?_<;>intro h9;obtain⟨b_a,off_a,cap_a,cs_a,T_a,z_a,hv_a,hb_a,hcs_a,hcp_a⟩:=IsI.at hF (j:=k) (by omega);refine nx J4 (aa λ_ J5=>CY (qx J5 (aa λ_ J6=>am (sr λ_ J7=>P2 ?_))));refine nx J7 (sr λ_ J8=>P3 ?_);refine tp (bn (r:=off_a+k) hv_a rfl dZ aP rfl rfl (by omega) (by omega) (by omega)) ?_;refine tp (cj (v:=(.int .i64 ((l.getD k 0)))) rfl Y3 rfl rfl (jX hb_a (λ_ h=>fB h)) hcs_a) ?_;refine PS ?_;refine ap ?_ ?_<;>intro h16;refine nx J8 (CY (sr λ_ J9=>P2 ?_));refine nx J9 (ah (aI (ae (ae (aI (ae (WK [] (aw rfl rfl ?_))))))));exact⟨((k:Nat):Int),rfl,by rw[decide_eq_true_iff];exact⟨λ_=>by rw[h16,List.getD_eq_getElem?_getD,List.getElem?_eq_getElem (by omega)];exact ek _,λ_=>by omega⟩,rfl⟩;refine nx J8 (CN (aR (af (ad J6 (ac (AD ?_))))));refine PS ?_;refine au ?_
 exact aL ((k+1):(Nat)) ⟨by omega,λj hj=>by
        by_cases q:j=k
        · subst q;exact λe=>h16 e.symm
        · exact hv j (by omega)⟩ (by show l.length- (k+1)<l.length-k;omega)
   SB
   (λ_ s=>s)
 refine nx J4 (aa λ_ J10=>CN (aW (aA (aA (br (ad J2 (sr λ_ J11=>PS ?_)))))));refine nx J11 (ah (WK [] (aw rfl rfl ?_)))
 exact⟨-1,rfl,by
      rw[decide_eq_true_iff];constructor
      · intro h;omega
      · intro h
        obtain⟨j,hj,e⟩:=gP h;have:=hv j (by omega);rw[List.getD_eq_getElem?_getD,List.getElem?_eq_getElem hj]at this
        exact absurd e this,rfl⟩
theorem rT(x:Value)(l:List Int)(v:Int)(hl:l.length≤1000000):
 DT 149 #[x,(.int .i64 (v))] (IsI .i64 x l) [] (RI (.bool (decide (v∈l))) []):=by
 refine BD 9 Tryz.func149 rfl rfl rfl λw0 F hF=>sr λ_ J1=>PS ?_
 refine nx J1 (sr λ_ J2=>P2 ?_);refine CQ Pf (FM x l v hl) ID (λ_ d _=>IsI.more hF d) λvR HR hR=>?_
 obtain⟨n,rfl,hn,rfl⟩:=hR;refine P2 ?_;refine nx J2 (ah (WK [] (aw rfl rfl ?_)));exact⟨congrArg Value.bool (by rw[Oj,hn,decide_eq_true_iff]),rfl⟩
end Go.Proofs.YtkhjnolhhidecaaGreatDoor
end

section
namespace Api
open Go Leg Codec
theorem yc: ∀(a b:List CellT),a.length=b.length→bS a=bS b→a=b
 | [],[],_,_=>rfl
 | [],_::_,h,_=>by cases h
 |_::_,[],h,_=>by cases h
 |x::a,y::b,h,e=>by
  simp only[bS,cT]at e;obtain⟨h1,h2⟩:=List.append_inj e (by simp[CellT.flat]);rw[IG h1,yc a b (by simpa using h) h2]
theorem IF{v w:Vector CellT 4}(h:bS v.toList=bS w.toList):v=w:=Vector.toList_inj.1 (yc _ _ (by simp) h)
theorem zu{n:Int}(h:(Lit.int .i64 n).wf=true): -9223372036854775808≤n∧n<9223372036854775808:=by
 have m1:IntKind.i64.min= -9223372036854775808:=by decide
 have m2:IntKind.i64.max=9223372036854775807:=by decide
 simp only[Lit.wf,m1,m2,ao,decide_eq_true_eq]at h;omega
theorem Et: ∀(l:List Int) (s:Int),(oK l s).2=0→∀n∈l,Ds n=true
 | [],_,_,n,hn=>by cases hn
 |a::l,s,h,n,hn=>by
  rw[oK]at h
  by_cases h1:Ds a=true
  · rw[if_pos h1]at h
    by_cases h2:a>1099511627776-s
    · rw[if_pos h2]at h;cases h
    · rw[if_neg h2]at h
      rcases bU.1 hn with rfl|hn
      · exact h1
      · exact Et l _ h n hn
  · rw[if_neg h1]at h;cases h
theorem uR{n:Int}(h:Ds n=true):rV n:=by
 have:0≤n∧n≤1099511627776:=of_decide_eq_true h;exact⟨this.1,by omega⟩
theorem TameC.of{c:CellT}(h:Lo c=true):TameC c:=by
 unfold Lo at h;rw[ao,ao,decide_eq_true_iff]at h;refine⟨uR h.1.1,uR h.1.2,λj hj=>uR (Et _ _ h.2 _ ?_)⟩;rw[←Vector.getElem_toList (h:=by simpa using hj)];exact ek _
theorem Aa{v:Vector CellT 4}(h:yV v=true)(k:Nat)(hk:k<4):TameC v[k]:=TameC.of (of_decide_eq_true h k hk)
theorem TameR.of{x:RowT}(hw:WF x.flat)(h:gd x=true):TameR x:=by
 unfold gd at h;rw[ao,ao,decide_eq_true_iff,decide_eq_true_iff]at h;obtain⟨⟨h1,h2⟩,h3⟩:=h
 have hh: ∀(j:Nat) (hj:j<5),(0:Int)≤x.heir[j]∧yV x.left[j]=true∧(x.heir[j]=(0:Int)→bS x.left[j].toList=bS RowT.zero.left[0].toList):=λj hj=>by
  have:=h3 j hj;unfold Bz at this;rw[ao,ao,decide_eq_true_iff,decide_eq_true_iff]at this;exact⟨this.1.1,this.1.2,this.2⟩
 refine⟨⟨h1,(zu (hw _ (by simp[RowT.flat]))).2⟩,λk hk=>Aa h2 k hk,λj hj=>⟨(hh j hj).1,(zu (hw _ ?_)).2⟩,λj k hj hk=>Aa (hh j hj).2.1 k hk,λj hj e=>IF ((hh j hj).2.2 e)⟩;have:x.heir[j]∈x.heir.toList:=by rw[←Vector.getElem_toList (h:=by simpa using hj)];exact ek _
 simp[RowT.flat,this]
theorem sS{n:Int}{l:List Int}(h:0≤n∧n<9223372036854775808)(hl:WF l):WF (n::l):=λm hm=>by
 rcases bU.1 hm with rfl|hm
 · exact sR h
 · exact hl m hm
theorem mQ{a b:List Int}(ha:WF a)(hb:WF b):WF (a++b):=λm hm=>by
 rcases fq.1 hm with hm|hm
 · exact ha m hm
 · exact hb m hm
theorem Je:WF []:=λ_ h=>by cases h
theorem OkB.wf{b:BallotT}(h:OkB b):WF b.flat:=sS h.1 (sS ⟨h.2.1,by have:=h.2.2;omega⟩ Je)
theorem OkC.wf{c:ChangeT}(h:OkC c):WF c.flat:=sS ⟨h.1.1,by have:=h.1.2;omega⟩ (sS ⟨h.2.1.1,by have:=h.2.1.2;omega⟩ (sS ⟨h.2.2.1,by have:=h.2.2.2;omega⟩ Je))
theorem Ql:Nm 0:=⟨by decide,by decide⟩
theorem IL{m:MsgT}(h:OkM m):cY (tK m)=cY m:=by
 have hk:=h.kind;unfold tK;split
 · rename_i c;simp only[cY,c,if_true]
 split
 · rename_i c0 c;simp only[cY,if_neg c0,if_pos c]
 split
 · rename_i c0 c1 c;simp only[cY,if_neg c0,if_neg c1,if_pos c]
 split
 · rename_i c0 c1 c2 c;simp only[cY,if_neg c0,if_neg c1,if_neg c2,if_pos c]
 split
 · rename_i c0 c1 c2 c3 c;simp only[cY,if_neg c0,if_neg c1,if_neg c2,if_neg c3,if_pos c]
 split
 · rename_i c0 c1 c2 c3 c4 c;simp only[cY,if_neg c0,if_neg c1,if_neg c2,if_neg c3,if_neg c4,if_pos c]
 · rename_i c0 c1 c2 c3 c4 c5;simp only[cY,if_neg c0,if_neg c1,if_neg c2,if_neg c3,if_neg c4,if_neg c5]
theorem Mu{m:MsgT}(h:OkM m)(ho:EI m=true):cM (cY (tK m))=some ((tK m,true),[]):=by
 have:=Mm h [];rw[ho,aY]at this;rw[IL h];exact this
theorem KJ{m:MsgT}(h:OkM m)(ho:EI m=true):ju (cY (tK m))=(tK m,0):=by unfold ju;rw[Mu h ho]
theorem tX(m:MsgT):(cY m).length≤3000:=by
 have h1:=iZ m.row;have h2:=aZ m.ballot.flat;have h3:=aZ m.had.flat;have h4:=aZ m.change.flat;have h5:=aZ m.view.flat;have h6:=aZ [m.kind,m.whose];have h7:=aZ [m.kind,m.version];have h8:=aZ [m.kind,m.epoch];have h9:=aZ [m.kind];simp only[BallotT.flat,ChangeT.flat,ViewT.flat,av,az,aB]at h2 h3 h4 h5 h6 h7 h8 h9;unfold cY;split
 · simp only[ag];omega
 split
 · omega
 split
 · simp only[ag,BallotT.flat];omega
 split
 · simp only[ag,BallotT.flat,ChangeT.flat];omega
 split
 · simp only[ag,BallotT.flat,ChangeT.flat];omega
 split
 · simp only[ag,ViewT.flat];omega
 split
 · simp only[ag,ViewT.flat];omega
 · simp
theorem De:gd RowT.zero=true:=by decide+kernel
theorem L6{m:RecT}{bs r:List UInt8}(h:dG bs=some ((m,true),r)):gd m.row=true:=by
 obtain⟨k,r1,_,h⟩:=bp h;split at h
 · obtain⟨_,_,_,h⟩:=bp h
   obtain⟨e,_⟩:=gq h;injection e with e1 e2;subst e1;exact e2
 split at h
 · obtain⟨_,_,_,h⟩:=bp h
   obtain⟨_,_,_,h⟩:=bp h;obtain⟨e,_⟩:=gq h;injection e with e1 e2;subst e1;exact e2
 have fin: ∀{m':RecT} {g:Bool} {b r:List UInt8},pr (m',g) b=some ((m,true),r)→m'.row= .zero→gd m.row=true:=λh e=>by
  obtain⟨e',_⟩:=gq h;injection e' with e1 e2;subst e1;rw[e];exact De
 split at h
 · obtain⟨_,_,_,h⟩:=bp h;exact fin h rfl
 split at h
 · obtain⟨_,_,_,h⟩:=bp h;obtain⟨_,_,_,h⟩:=bp h;exact fin h rfl
 split at h
 · obtain⟨_,_,_,h⟩:=bp h;obtain⟨_,_,_,h⟩:=bp h;obtain⟨_,_,_,h⟩:=bp h;exact fin h rfl
 split at h
 · obtain⟨_,_,_,h⟩:=bp h;exact fin h rfl
 · exact fin h rfl
theorem KI(bs:List UInt8):(∃m,o7 bs=(m,0)∧bs=k8 m∧gd m.row=true∧WF m.row.flat)∨o7 bs=(.zero,1):=by
 unfold o7;split
 · rename_i m h
   obtain⟨h1,_,_,_,h5⟩:=JJ h;rw[aY]at h1;exact .inl ⟨m,rfl,h1,L6 h,h5.wf⟩
 · exact .inr rfl
end Api
end

section
namespace Go.Proofs.YtkhjnolhhidecaaGreatDoor
open Go Leg Codec Api
theorem xD(ob:Nat)(ok:Bool):DoesD Tryz.prog 132 #[(.pointer (some ⟨ob,0,none⟩))] (.returning) (λ_=>True) [aj ob [(.bool (ok))] 4] (λe u' H=>e= .returned (.tuple #[])∧settle u'= .returning∧H=[aj ob [.bool ok] 4]):=by
 refine DoesD.recover2 (vs:=[(.pointer (some ⟨ob,0,none⟩))]) (n:=15) (u':= .returning) (rv:= .nilIface) Tryz.func132 rfl rfl rfl rfl rfl rfl rfl rfl rfl rfl rfl (λc0 cs hu=>by cases c0;simp only at hu;subst hu;rfl) (λw0 F c0 cs hF=>?_);refine aa (λK1 hK1=>?_);refine aa (λK2 hK2=>?_);refine ac ?_;refine mH (ab rfl) rfl rfl (ky rfl rfl) ?_;refine mH (ab rfl) rfl rfl (PV.nilNil rfl Tryz.underlying20 rfl) ?_;refine au ?_;refine ad hK2 ?_;clear hK2;refine oe rfl ?_;refine ah ?_;refine ae ?_;clear hK1;refine aE (dK _) (λ_ s=>ak [0] rfl s) ?_;refine TE.retS0 rfl ?_;refine⟨rfl,rfl,?_⟩;rfl
theorem Bg(ob:Nat)(ok:Bool):DoesD Tryz.prog 132 #[(.pointer (some ⟨ob,0,none⟩))] (.panicking iY) (λ_=>True) [aj ob [(.bool (ok))] 4] (λe u' H=>e= .returned (.tuple #[])∧settle u'= .returning∧H=[aj ob [.bool false] 4]):=by
 refine DoesD.recover2 (vs:=[(.pointer (some ⟨ob,0,none⟩))]) (n:=15) (u':= .panicking [{v:=(.iface 218 (.agg #[])),recovered:=true}]) (rv:=(.iface 218 (.agg #[]))) Tryz.func132 rfl rfl rfl rfl rfl rfl rfl rfl rfl rfl rfl (λc0 cs hu=>by cases c0;simp only at hu;subst hu;rfl) (λw0 F c0 cs hF=>?_);refine aa (λK1 hK1=>?_);refine aa (λK2 hK2=>?_);refine ac ?_;refine mH (ab rfl) rfl rfl (ky rfl rfl) ?_;refine mH (ab rfl) rfl rfl (PV.ifaceNil rfl Tryz.underlying20 rfl) ?_;refine au ?_;refine ad hK2 ?_;clear hK2;refine Ha rfl ?_;refine aR ?_;refine ad hK1 ?_;clear hK1;refine aa (λK3 hK3=>?_);refine aa (λK4 hK4=>?_);refine ac ?_;refine mH (ab rfl) rfl rfl (ky rfl rfl) ?_;refine mH (ab rfl) rfl rfl (PV.assert rfl I1 rfl rfl) ?_;refine mH (ab rfl) rfl rfl (ky rfl rfl) ?_;refine mH (ab rfl) rfl rfl (mK (vs:=[.agg #[], .bool true]) rfl rfl rfl) ?_;refine mH (ab rfl) rfl rfl (mK (vs:=[.agg #[], .bool true]) rfl rfl rfl) ?_;refine qY (ab rfl) rfl rfl rfl Qo (λb2=>?_);change TL _ _ _ _ _ _ _ _ _ [aj b2 [] 218,aj ob [(.bool (ok))] 4];refine bW (vs:=[]) (i:=0) (H':=[aj b2 [] 218,aj ob [(.bool (ok))] 4]) (ab rfl) rfl rfl rfl rfl rfl OA (by simp[Value.oneCell']) rfl rfl (Lq rfl) rfl rfl ?_;refine mH (ab rfl) rfl rfl (RA rfl rfl) ?_;refine au ?_;refine ad hK4 ?_;clear hK4;refine aa (λK5 hK5=>?_);refine ac ?_;refine mH (ab rfl) rfl rfl (ky rfl rfl) ?_;refine mH (ab rfl) rfl rfl (pc (r:=false) rfl rfl rfl) ?_;refine au ?_
 refine ad hK5 ?_;clear hK5;refine Ha rfl ?_;refine aR ?_;refine ad hK3 ?_;clear hK3;refine ac ?_;refine bH (i:=1) (H':=[aj b2 [] 218,aj ob [(.bool false)] 4]) (ab rfl) rfl rfl rfl rfl rfl lR rfl rfl (lb rfl) rfl rfl ?_;refine au ?_;refine aE (dK _) (λ_ s=>ak [1] rfl s) ?_;refine TE.endS0 rfl ?_;refine⟨rfl,rfl,?_⟩;exact rfl
theorem HU{fid:Nat}{caps:List Value}{x:Value}{bs:List UInt8}{C G:HP}{A:List UInt8→HP}{R:Hl→Prop}(hR: ∀F,R F→IsB x bs F)(hmono: ∀F g,R F→Dj g F→R (jn g F))(hN:Named Tryz.prog fid)
 (hc: ∀rb,DT fid ([Value.pointer (some ⟨rb,0,none⟩)]++caps).toArray R [aj rb [x] 216,C] (wz (λ_ H=>∃x' r,H=[aj rb [x'] 216,A r]∧Tail x bs x' r) (λc H=>c=iY∧∃x',H=[aj rb [x'] 216,G]))):
 DT 88 #[x, .func (.func fid) #[] caps.toArray] R [C] (dD (λv H=>(∃r,v= .bool (decide (r=[]))∧H=[A r])∨(v= .bool false∧H=[G]))):=by
 refine Leg.Does.bodyD (vs:=[x, .func (.func fid) #[] caps.toArray]) (n:=21) Tryz.func88 rfl rfl rfl (λw0 F hF=>sr λ_ J1=>XA z4 λb4=>?_);refine nx J1 (sr λ_ J2=>PS ?_);refine tp (PV.buildOne rfl BY Qp rfl lC rfl (hR _ hF).one) ?_;refine XB λb8=>?_
 refine PS ?_;refine nx J2 (sr λ_ J3=>tp (Ry rfl rfl) ?_);refine TL.deferFn (ab rfl) rfl rfl rfl (nx J3 (aa λ_ J4=>sr λ_ J5=>PS ?_));refine tp (PV.funcNeqNil rfl Tryz.underlying181 rfl) ?_;refine nx J5 (CY (ac (P2 ?_)));refine TL.callPv (ab rfl) rfl rfl rfl rfl hN rfl (hc b8) (λ_ s=>aD [0,1] rfl s) (Oi hmono hF) (λcP HP hP=>?_) (λvR HR hR'=>?_);obtain⟨rfl,x',rfl⟩:=hP;refine ay ?_;intro a w fr sm m;refine sA (b:=b4) (e:=4) (A:=[aj b4 [(.bool false)] 4]) (B:=[aj b8 [x'] 216,G]) (H':=[G]) fr sm m (by simp) Kh (Bg b4 _) (λ_ s=>aD [2] rfl s) (λ_ _ _=>trivial) rfl rfl Y4 rfl (λH1 h1=>?_);subst h1;refine⟨[.bool false], .bool false,fA 0 rfl rfl,rfl,λ_ s=>ak [2] rfl s,?_⟩;exact .inr ⟨rfl,rfl⟩;obtain⟨x',r,rfl,htl⟩:=hR';have hB:=htl F (hR _ hF);rcases hB with⟨rfl,rfl⟩| ⟨b,off,cap,cs,T,z,rfl,hB1,hB2,hB3,hB4⟩
 refine nx J4 (sr λ_ J6=>P2 ?_);refine FA 0 BY lC ?_;refine LA 0 fM ?_;refine tp (qZ rfl fM rfl) ?_;refine PS ?_;refine S0 2 lR ?_;refine nx J6 (ah ?_);intro a w fr sm m;refine sA (b:=b4) (e:=4) (A:=[aj b4 [(.bool true)] 4]) (B:=[aj b8 [(.slice none 0 0)] 216,(A [])]) (H':=[(A [])]) fr sm m (by simp) Kh (xD b4 _) (λ_ s=>aD [2] rfl s) (λ_ _ _=>trivial) rfl rfl Y4 rfl (λH1 h1=>?_);subst h1;refine⟨[.bool true], .bool true,fA 0 rfl rfl,rfl,λ_ s=>ak [2] rfl s,?_⟩;exact .inl ⟨[],rfl,rfl⟩;refine nx J4 (sr λ_ J7=>P2 ?_);refine FA 0 BY lC ?_;refine LA 0 fM ?_;refine tp (qZ rfl fM rfl) ?_;refine PS ?_;refine S0 2 lR ?_;refine nx J7 (ah ?_);intro a w fr sm m;refine sA (b:=b4) (e:=4) (A:=[aj b4 [(.bool (decide (((r.length:Nat):Int)=0)))] 4]) (B:=[aj b8 [(.slice (some ⟨b,off,none⟩) (r.length) (cap))] 216,(A r)]) (H':=[(A r)]) fr sm m (by simp) Kh (xD b4 _) (λ_ s=>aD [2] rfl s) (λ_ _ _=>trivial) rfl rfl Y4 rfl (λH1 h1=>?_);subst h1;refine⟨[.bool (decide (((r.length:Nat):Int)=0))], .bool (decide (((r.length:Nat):Int)=0)),fA 0 rfl rfl,rfl,λ_ s=>ak [2] rfl s,?_⟩;exact .inl ⟨r,by congr 1;rw[decide_eq_decide];cases r<;>simp<;>omega,rfl⟩
theorem zR{fid:Nat}{caps:List Value}{x:Value}{bs:List UInt8}{α β:Type}{C:List HP}{A:α→List HP}{G:β→List HP}{φ:α→List UInt8→Prop}{ψ:β→Prop}{R:Hl→Prop}(hR: ∀F,R F→IsB x bs F)(hmono: ∀F g,R F→Dj g F→R (jn g F))(hN:Named Tryz.prog fid)
 (hc: ∀rb,DT fid ([Value.pointer (some ⟨rb,0,none⟩)]++caps).toArray R (aj rb [x] 216::C) (wz (λ_ H=>∃x' r a,H=aj rb [x'] 216::A a∧Tail x bs x' r∧φ a r) (λc H=>c=iY∧∃x' b,H=aj rb [x'] 216::G b∧ψ b))):
 DT 88 #[x, .func (.func fid) #[] caps.toArray] R C (dD (λv H=>(∃r a,v= .bool (decide (r=[]))∧H=A a∧φ a r)∨(∃b,v= .bool false∧H=G b∧ψ b))):=by
 have h1:=HU (C:=all C) (G:=λh=>∃b,ψ b∧bR (G b) h) (A:=λr h=>∃a,φ a r∧bR (A a) h) hR hmono hN λrb=>
  (hc rb).conv (post':=wz (λ_ H=>∃x' r,H=[aj rb [x'] 216,λh=>∃a,φ a r∧bR (A a) h]∧Tail x bs x' r) (λc H=>c=iY∧∃x',H=[aj rb [x'] 216,λh=>∃b,ψ b∧bR (G b) h]))
   (λh s=>xo s λ_=>MJ)
   (λe H F w hp m=>by
    cases e with
    |returned v=>
     obtain⟨x',r,a,rfl,ht,hf⟩:=hp;exact⟨[aj rb [x'] 216,λh=>∃a,φ a r∧bR (A a) h],m.mono λh s=>xo s λh s=>si ⟨a,hf,s⟩,x',r,rfl,ht⟩
    |panicked c=>
     obtain⟨hc,x',b,rfl,hf⟩:=hp;exact⟨[aj rb [x'] 216,λh=>∃b,ψ b∧bR (G b) h],m.mono λh s=>xo s λh s=>si ⟨b,hf,s⟩,hc,x',rfl⟩
    |outgrown=>exact hp.elim)
 refine h1.conv (λh s=>L1 s) λe H F w hp m=>?_
 cases e with
 |returned v=>
  rcases hp with⟨r,hv,rfl⟩| ⟨hv,rfl⟩
  · obtain⟨h,d,e,g1,g2,d',rfl,⟨a,hf,s⟩,_⟩:=m
    exact⟨A a,⟨_,d,e,mm _ s d'⟩, .inl ⟨r,a,hv,rfl,hf⟩⟩
  · obtain⟨h,d,e,g1,g2,d',rfl,⟨b,hf,s⟩,_⟩:=m
    exact⟨G b,⟨_,d,e,mm _ s d'⟩, .inr ⟨b,hv,rfl,hf⟩⟩
 |panicked c=>exact hp.elim
 |outgrown=>exact hp.elim
end Go.Proofs.YtkhjnolhhidecaaGreatDoor
end
