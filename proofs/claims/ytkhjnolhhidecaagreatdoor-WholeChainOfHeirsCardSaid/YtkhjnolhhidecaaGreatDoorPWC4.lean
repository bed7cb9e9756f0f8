/-
  Joined texts:what a statement's proof reaches.
-/
import Derived.Test.YtkhjnolhhidecaaGreatDoorPWC3
set_option maxHeartbeats 8000000
set_option maxRecDepth 100000
set_option linter.unusedSimpArgs false
set_option linter.unusedVariables false
section
namespace Go.Proofs.YtkhjnolhhidecaaGreatDoor
open Go Leg Codec Api Dsk Wal
theorem GN(x:Value)(ps:List (List UInt8)):
 DT 171 #[x] (Qf x ps) [] (RI (.int .u32 (gK ps.flatten)) []):=by
 refine BD 39 Tryz.func171 rfl rfl rfl λw0 F hF=>sr λ_ J1=>PS ?_
 refine nx J1 (sr λ_ J2=>PS ?_);refine nx J2 (aa λ_ J3=>sr λ_ J4=>PS ?_);refine tp (dO rfl wE rfl hF.len) ?_;refine PS ?_;refine nx J4 (am ?_)
 refine bG (α:=(Nat)) (λk=>k≤ps.length) (λk=>[(2,(.int .u32 0)),(3,(.int .u32 (fU 4294967295 (ps.take k).flatten))),(8,x),(9,(.int .i64 (((ps.length:Nat):Int)))),(10,(.int .i64 (((k:Nat):Int))))]) (λk=>[]) (λk=>ps.length-k) 0
  (aP _) SB
  (λ_ s=>s) (λk hinv=>?_)
 obtain hk:=hinv;refine sr λ_ J5=>PS ?_
 refine ap ?_ ?_<;>intro h11;obtain⟨b_a,off_a,cap_a,cs_a,T_a,z_a,us_a,hv_a,hc_a,hb_a,hl_a,hs_a,hE_a⟩:=IsL.at hF (j:=k) (by omega);obtain⟨u_a,rfl,hu_a⟩:=hE_a;refine nx J5 (aa λ_ J6=>CY (qx J6 (aa λ_ J7=>am (sr λ_ J8=>tp (bn (r:=off_a+k) hv_a rfl wE lF rfl rfl (by omega) (by omega) (by omega)) ?_))));refine tp (cm (v:=u_a) rfl fO rfl rfl (jW hb_a (λ_ h=>fD h)) (by have:=CJ (j:=0) hs_a rfl;simpa using this)) ?_;refine PS ?_;refine nx J8 (sr λ_ J9=>PS ?_);refine tp (dO rfl fO rfl hu_a.len) ?_;refine PS ?_;refine nx J9 (am ?_)
 refine bG (α:=(Nat)) (λj=>j≤ps[k].length) (λj=>[(2,(.int .u32 0)),(3,(.int .u32 (fU (fU 4294967295 (ps.take k).flatten) (ps[k].take j)))),(8,x),(9,(.int .i64 (((ps.length:Nat):Int)))),(10,(.int .i64 (((k:Nat):Int)))),(14,u_a),(15,(.int .i64 (((ps[k].length:Nat):Int)))),(16,(.int .i64 (((j:Nat):Int))))]) (λj=>[]) (λj=>ps[k].length-j) 0
  (aP _) SB
  (λ_ s=>s) (λj hinv=>?_)
 obtain hj:=hinv;refine sr λ_ J10=>PS ?_
 refine ap ?_ ?_<;>intro h17;obtain⟨b_b,off_b,cap_b,cs_b,T_b,z_b,hv_b,hb_b,hcs_b,hcp_b⟩:=IsW.at hu_a (j:=j) (by omega);have hlt_b:=IsW.lt hu_a;refine nx J10 (aa λ_ J11=>CY (qx J11 (aa λ_ J12=>am (sr λ_ J13=>tp (bn (r:=off_b+j) hv_b rfl fO kx rfl rfl (by omega) (by omega) (by omega)) ?_))));refine tp (cm (v:=(.int .u8 (((((ps[k]).getD j 0).toNat:Nat):Int)))) rfl Y5 rfl rfl (jW hb_b (λ_ h=>fD h)) (hcs_b j (by omega))) ?_;refine PS ?_;refine nx J13 (sr λ_ J14=>P2 ?_);refine tp (cD (r:=((((ps[k]).getD j 0).toNat:Nat):Int)) rfl Y5 Cb rfl (lx (by omega) (by have:=(ps[k].getD j 0).toNat_lt;omega))) ?_;refine tp (PV.xor (r:=qm .u32 (fU (fU 4294967295 (ps.take k).flatten) (ps[k].take j)) (((((ps[k]).getD j 0).toNat:Nat):Int))) rfl rfl rfl rfl) ?_;refine PS ?_;refine nx J14 (sr λ_ J15=>PS ?_);refine nx J15 (am ?_)
 refine bG (α:=(Nat)) (λi=>i≤8) (λi=>[(2,(.int .u32 0)),(3,(.int .u32 (nw (qm .u32 (fU (fU 4294967295 (ps.take k).flatten) (ps[k].take j)) ((((ps[k]).getD j 0).toNat:Nat):Int)) i))),(8,x),(9,(.int .i64 (((ps.length:Nat):Int)))),(10,(.int .i64 (((k:Nat):Int)))),(14,u_a),(15,(.int .i64 (((ps[k].length:Nat):Int)))),(16,(.int .i64 (((j:Nat):Int)))),(24,(.int .i64 (((i:Nat):Int))))]) (λi=>[]) (λi=>8-i) 0
  (aP _) SB
  (λ_ s=>s) (λi hinv=>?_)
 obtain hi:=hinv;refine sr λ_ J16=>PS ?_
 refine ap ?_ ?_<;>intro h25;refine nx J16 (aa λ_ J17=>CY (qx J17 (aa λ_ J18=>am (sr λ_ J19=>PS ?_))));refine tp (jm (r:=rH .u32 (nw (qm .u32 (fU (fU 4294967295 (ps.take k).flatten) (ps[k].take j)) ((((ps[k]).getD j 0).toNat:Nat):Int)) i) 1) rfl rfl rfl rfl) ?_;refine PS ?_;refine ap ?_ ?_<;>intro h28;refine nx J19 (CY (ac (PS ?_)));refine tp (iF (r:=(nw (qm .u32 (fU (fU 4294967295 (ps.take k).flatten) (ps[k].take j)) ((((ps[k]).getD j 0).toNat:Nat):Int)) i).fdiv 2) rfl rfl rfl (by omega) rfl) ?_;refine tp (PV.xor (r:=qm .u32 ((nw (qm .u32 (fU (fU 4294967295 (ps.take k).flatten) (ps[k].take j)) ((((ps[k]).getD j 0).toNat:Nat):Int)) i).fdiv 2) 3988292384) rfl rfl rfl rfl) ?_;refine PS ?_;refine au (af (ad J18 (ac (AD ?_))));refine PS ?_;refine au ?_
 exact aL ((i+1):(Nat)) (by omega) (by show 8- (i+1)<8-i;omega)
  (aX (bM rfl (congrArg (Value.int .u32) (by rw[nw,Gc,if_pos h28])) SB))
  (λ_ s=>s)
 refine nx J19 (CN (ac (PS ?_)));refine tp (iF (r:=(nw (qm .u32 (fU (fU 4294967295 (ps.take k).flatten) (ps[k].take j)) ((((ps[k]).getD j 0).toNat:Nat):Int)) i).fdiv 2) rfl rfl rfl (by omega) rfl) ?_;refine PS ?_;refine au (af (ad J18 (ac (AD ?_))));refine PS ?_;refine au ?_
 exact aL ((i+1):(Nat)) (by omega) (by show 8- (i+1)<8-i;omega)
  (aX (bM rfl (congrArg (Value.int .u32) (by rw[nw,Gc,if_neg h28])) SB))
  (λ_ s=>s)
 refine nx J16 (aa λ_ J20=>CN (aW (aA (aA (bq (af (ad J12 (ac (AD ?_)))))))));refine PS ?_;refine au ?_
 exact aL ((j+1):(Nat)) (by omega) (by show ps[k].length- (j+1)<ps[k].length-j;omega)
  (aX (bM rfl (congrArg (Value.int .u32) (by obtain rfl:i=8:=(by omega);rw[Ep (by omega)];rfl)) SB))
  (λ_ s=>s)
 refine nx J10 (aa λ_ J21=>CN (aW (aA (aA (bq (af (ad J7 (ac (AD ?_)))))))));refine PS ?_;refine au ?_
 exact aL ((k+1):(Nat)) (by omega) (by show ps.length- (k+1)<ps.length-k;omega)
  (aX (bM rfl (congrArg (Value.int .u32) (by rw[show j=ps[k].length by omega,gC,Er (by omega)])) SB))
  (λ_ s=>s)
 refine nx J5 (aa λ_ J22=>CN (aW (aA (aA (bq (ad J3 (sr λ_ J23=>PS ?_)))))));refine tp (PV.com (r:=qm .u32 4294967295 (fU 4294967295 (ps.take k).flatten)) rfl rfl rfl) ?_;refine PS ?_;refine nx J23 (ah (WK [] (aw rfl rfl ?_)));obtain rfl:k=ps.length:=by omega
 rw[gC];exact⟨rfl,rfl⟩
theorem vC(x:Value)(bs:List UInt8)(hb:bs.length≤1000000000):
 DT 178 #[x] (IsW x bs) [] (dG (λv H=>H=[cH v (qG bs) 5])):=by
 refine BD 29 Tryz.func178 rfl rfl rfl λw0 F hF=>sr λ_ J1=>PS ?_
 refine nx J1 (sr λ_ J2=>PS ?_);refine aM (cells:=#[x]) (ab rfl) rfl rfl rfl wE Iz rfl rfl rfl (uh hF.one (by simp)) (λb6=>CF M0 (GN (.slice (some ⟨b6,0,none⟩) (1) (1)) [bs]) ID (D5 hF 0 rfl rfl) ?_);rw[show [bs].flatten=bs by simp];refine PS ?_;refine nx J2 (sr λ_ J3=>PS ?_);refine tp (dO rfl fO rfl hF.len) ?_;refine AD ?_;refine TL.makeB (0) (bs.length+4) (ab rfl) rfl rfl rfl fO uD rfl rfl rfl (by omega) (by omega) (by omega) (λb11=>ci (H':=[cH (.slice (some ⟨b11,0,none⟩) 0 (bs.length+4)) ([]) 5,aj b6 [x] 47]) (λ_ s=>tD 0 rfl rfl (by omega) (by simp only[maxLen];omega) (by simp[dX]) rfl s) (PS ?_));refine nx J3 (sr λ_ J4=>P2 ?_);refine bX (k:=0) (news:=dX (bs)) (nn':=(bs:List UInt8).length) (xs':=dX (bs)) (ab rfl) rfl rfl rfl fO uD rfl rfl rfl rfl rfl rfl (λ_ _=>hF.src (λ_ h=>fD h)) (ff _) (by simp only[maxLen,az];omega) (by simp only[az];omega) (by simp) (ba _) (λv14 ov14=>PS ?_);refine nx J4 (sr λ_ J5=>P2 ?_);refine tp (cD (r:=(((r8 (gK bs)).toNat:Nat):Int)) rfl Cb Y5 rfl (r8_wrap _)) ?_;refine PS ?_;refine tp (iF (r:=(gK bs).fdiv 256) rfl rfl rfl (by omega) rfl) ?_;refine tp (cD (r:=(((r8 ((gK bs).fdiv 256)).toNat:Nat):Int)) rfl Cb Y5 rfl (r8_wrap _)) ?_;refine PS ?_;refine tp (iF (r:=(gK bs).fdiv 65536) rfl rfl rfl (by omega) rfl) ?_;refine tp (cD (r:=(((r8 ((gK bs).fdiv 65536)).toNat:Nat):Int)) rfl Cb Y5 rfl (r8_wrap _)) ?_;refine PS ?_
 refine tp (iF (r:=(gK bs).fdiv 16777216) rfl rfl rfl (by omega) rfl) ?_;refine tp (cD (r:=(((r8 ((gK bs).fdiv 16777216)).toNat:Nat):Int)) rfl Cb Y5 rfl (r8_wrap _)) ?_;refine aM (cells:=#[(.int .u8 ((((r8 (gK bs)).toNat:Nat):Int))),(.int .u8 ((((r8 ((gK bs).fdiv 256)).toNat:Nat):Int))),(.int .u8 ((((r8 ((gK bs).fdiv 65536)).toNat:Nat):Int))),(.int .u8 ((((r8 ((gK bs).fdiv 16777216)).toNat:Nat):Int)))]) (ab rfl) rfl rfl rfl fO uD rfl rfl rfl (by as_aux_lemma=>kernel_rfl) (λb27=>bX (k:=1) (news:=dX ([(r8 (gK bs)),(r8 ((gK bs).fdiv 256)),(r8 ((gK bs).fdiv 65536)),(r8 ((gK bs).fdiv 16777216))])) (nn':=(bs++[(r8 (gK bs)),(r8 ((gK bs).fdiv 256)),(r8 ((gK bs).fdiv 65536)),(r8 ((gK bs).fdiv 16777216))]:List UInt8).length) (xs':=dX (bs++[(r8 (gK bs)),(r8 ((gK bs).fdiv 256)),(r8 ((gK bs).fdiv 65536)),(r8 ((gK bs).fdiv 16777216))])) (ab rfl) rfl rfl rfl fO uD rfl rfl rfl rfl rfl rfl (λ_ _=>gn rfl (RO 0) rfl) (ff [(r8 (gK bs)),(r8 ((gK bs).fdiv 256)),(r8 ((gK bs).fdiv 65536)),(r8 ((gK bs).fdiv 16777216))]) (by simp only[maxLen];omega) (by omega) (by simp) (gE _ _).symm (λv28 ov28=>PS ?_));exact nx J5 (ah (WK [1] (aw rfl rfl rfl)))
theorem Hv(a:Option Addr)(c:Nat)(bs:List UInt8)(hc:bs.length≤c)(hb:bs.length≤1000000000):
 DT 148 #[(.slice a bs.length c)] (IsW (.slice a bs.length c) bs) [] (dG (λv H=>(nL bs=none∧v= .tuple #[.slice none 0 0, .bool false]∧H=[])∨∃t u,nL bs=some t∧v= .tuple #[u, .bool true]∧H=[cH u t 5])):=by
 refine BD 50 Tryz.func148 rfl rfl rfl λw0 F hF=>sr λ_ J1=>P2 ?_
 refine nx J1 (aa λ_ J2=>sr λ_ J3=>PS ?_);refine tp (dO rfl fO rfl ⟨_,_,rfl⟩) ?_;refine PS ?_;refine ap ?_ ?_<;>intro h9;refine nx J3 (CY (sr λ_ J4=>P2 ?_));refine nx J4 (ah (ae (WK [] (iC rfl rfl rfl ?_))));exact .inl ⟨by rw[nL,if_pos (by omega)],rfl,rfl⟩;have hT:IsW (kH (.slice a bs.length c) 0 (bs.length-4)) (bs.take (bs.length-4)) F:=by have:=hF.cut (lo:=0) (hi:=bs.length-4) (by omega) (by omega);simpa using this
 have hU:IsW (kH (.slice a bs.length c) (bs.length-4) bs.length) (bs.drop (bs.length-4)) F:=by have:=hF.cut (lo:=bs.length-4) (hi:=bs.length) (by omega) (by omega);rwa [gC]at this
 have hq:(bs.drop (bs.length-4)).length=4:=by rw[bV];omega
 obtain⟨b_b,off_b,cap_b,cs_b,T_b,z_b,hv_b,hb_b,hcs_b,hcp_b⟩:=IsW.at hU (j:=0) (by omega);have hlt_b:=IsW.lt hU;refine nx J3 (CN (qx J2 (aa λ_ J5=>D0 df ?_)));refine PD 0 ?_;refine PD 1 ?_;refine ta 2 rfl (dO rfl fO rfl ⟨_,_,rfl⟩) ?_;refine ta 3 rfl (iE (r:=(((bs.length-4:Nat):Nat):Int)) rfl rfl rfl (by rw[show(((bs.length:Nat):Int)-4)=((bs.length-4:Nat):Int)by omega];exact bH (by omega) (by omega))) ?_;refine ta 4 rfl (PV.sliceH (hi:=bs.length-4) rfl fO kx rfl rfl rfl (by omega)) ?_;refine PD 5 ?_;refine PD 6 ?_;refine ta 7 rfl (dO rfl fO rfl ⟨_,_,rfl⟩) ?_;refine ta 8 rfl (iE (r:=(((bs.length-4:Nat):Nat):Int)) rfl rfl rfl (by rw[show(((bs.length:Nat):Int)-4)=((bs.length-4:Nat):Int)by omega];exact bH (by omega) (by omega))) ?_;refine ta 9 rfl (PV.sliceL (lo:=bs.length-4) rfl fO kx rfl rfl rfl (by omega)) ?_;refine PD 10 ?_;refine PD 11 ?_;refine DN (ad J5 (aa λ_ J6=>D0 df ?_));refine PD 0 ?_;refine ta 1 rfl (bn (r:=off_b) hv_b rfl fO kx rfl rfl (by omega) (by omega) (by omega)) ?_;refine ta 2 rfl (cm (v:=(.int .u8 ((((((bs.drop (bs.length-4))).getD 0 0).toNat:Nat):Int)))) rfl Y5 rfl rfl (jW hb_b (λ_ h=>h.1)) (hcs_b 0 (by omega))) ?_;refine ta 3 rfl (cD (r:=(((((bs.drop (bs.length-4))).getD 0 0).toNat:Nat):Int)) rfl Y5 Cb rfl (lx (by omega) (by have:=UInt8.toNat_lt (n:=(bs.drop (bs.length-4)).getD 0 0);omega))) ?_;refine PD 4 ?_
 refine ta 5 rfl (bn (r:=off_b+1) hv_b rfl fO kx rfl rfl (by omega) (by omega) (by omega)) ?_;refine ta 6 rfl (cm (v:=(.int .u8 ((((((bs.drop (bs.length-4))).getD 1 0).toNat:Nat):Int)))) rfl Y5 rfl rfl (jW hb_b (λ_ h=>h.1)) (hcs_b 1 (by omega))) ?_;refine ta 7 rfl (cD (r:=(((((bs.drop (bs.length-4))).getD 1 0).toNat:Nat):Int)) rfl Y5 Cb rfl (lx (by omega) (by have:=UInt8.toNat_lt (n:=(bs.drop (bs.length-4)).getD 1 0);omega))) ?_;refine ta 8 rfl (wI (r:=IntKind.u32.wrap ((((((bs.drop (bs.length-4))).getD 1 0).toNat:Nat):Int)*2^8)) rfl rfl rfl (by omega) rfl) ?_;refine ta 9 rfl (He (r:=iR .u32 (((((bs.drop (bs.length-4))).getD 0 0).toNat:Nat):Int) (IntKind.u32.wrap ((((((bs.drop (bs.length-4))).getD 1 0).toNat:Nat):Int)*2^8))) rfl rfl rfl rfl) ?_;refine PD 10 ?_;refine ta 11 rfl (bn (r:=off_b+2) hv_b rfl fO kx rfl rfl (by omega) (by omega) (by omega)) ?_;refine ta 12 rfl (cm (v:=(.int .u8 ((((((bs.drop (bs.length-4))).getD 2 0).toNat:Nat):Int)))) rfl Y5 rfl rfl (jW hb_b (λ_ h=>h.1)) (hcs_b 2 (by omega))) ?_;refine ta 13 rfl (cD (r:=(((((bs.drop (bs.length-4))).getD 2 0).toNat:Nat):Int)) rfl Y5 Cb rfl (lx (by omega) (by have:=UInt8.toNat_lt (n:=(bs.drop (bs.length-4)).getD 2 0);omega))) ?_;refine ta 14 rfl (wI (r:=IntKind.u32.wrap ((((((bs.drop (bs.length-4))).getD 2 0).toNat:Nat):Int)*2^16)) rfl rfl rfl (by omega) rfl) ?_
 refine ta 15 rfl (He (r:=iR .u32 (iR .u32 (((((bs.drop (bs.length-4))).getD 0 0).toNat:Nat):Int) (IntKind.u32.wrap ((((((bs.drop (bs.length-4))).getD 1 0).toNat:Nat):Int)*2^8))) (IntKind.u32.wrap ((((((bs.drop (bs.length-4))).getD 2 0).toNat:Nat):Int)*2^16))) rfl rfl rfl rfl) ?_;refine PD 16 ?_;refine ta 17 rfl (bn (r:=off_b+3) hv_b rfl fO kx rfl rfl (by omega) (by omega) (by omega)) ?_;refine ta 18 rfl (cm (v:=(.int .u8 ((((((bs.drop (bs.length-4))).getD 3 0).toNat:Nat):Int)))) rfl Y5 rfl rfl (jW hb_b (λ_ h=>h.1)) (hcs_b 3 (by omega))) ?_;refine ta 19 rfl (cD (r:=(((((bs.drop (bs.length-4))).getD 3 0).toNat:Nat):Int)) rfl Y5 Cb rfl (lx (by omega) (by have:=UInt8.toNat_lt (n:=(bs.drop (bs.length-4)).getD 3 0);omega))) ?_;refine ta 20 rfl (wI (r:=IntKind.u32.wrap ((((((bs.drop (bs.length-4))).getD 3 0).toNat:Nat):Int)*2^24)) rfl rfl rfl (by omega) rfl) ?_;refine ta 21 rfl (He (r:=Kn ((bs.drop (bs.length-4)).getD 0 0) ((bs.drop (bs.length-4)).getD 1 0) ((bs.drop (bs.length-4)).getD 2 0) ((bs.drop (bs.length-4)).getD 3 0)) rfl rfl rfl rfl) ?_;refine PD 22 ?_;refine DN (ad J6 (aa λ_ J7=>sr λ_ J8=>PS ?_));refine aM (cells:=#[(kH (.slice a bs.length c) 0 (bs.length-4))]) (ab rfl) rfl rfl rfl wE Iz rfl rfl rfl (uh hT.one (by simp)) (λb43=>CF M0 (GN (.slice (some ⟨b43,0,none⟩) (1) (1)) [(bs.take (bs.length-4))]) ID (D5 hT 0 rfl rfl) ?_)
 rw[show [(bs.take (bs.length-4))].flatten=(bs.take (bs.length-4))by simp];refine P2 ?_;refine ap ?_ ?_<;>intro h46;refine nx J8 (CY (sr λ_ J9=>P2 ?_));refine nx J9 (ah (ae (WK [] (iC rfl rfl rfl ?_))));exact .inl ⟨by rw[nL,if_neg (by omega),if_neg h46],rfl,rfl⟩;refine nx J8 (CN (qx J7 (sr λ_ J10=>EJ (ab rfl) rfl rfl rfl fO kx (λv47=>PS ?_))));refine bX (k:=0) (news:=dX ((bs.take (bs.length-4)))) (nn':=((bs.take (bs.length-4)):List UInt8).length) (xs':=dX ((bs.take (bs.length-4)))) (ab rfl) rfl rfl rfl fO uD rfl rfl rfl rfl rfl rfl (λ_ _=>hT.src (λ_ h=>fD h)) (ff _) (by simp only[maxLen,az,bB];omega) (by simp only[az,bB];omega) (by simp) (ba _) (λv49 ov49=>P2 ?_);refine nx J10 (ah (WK [0] (iC rfl rfl rfl ?_)));exact .inr ⟨_,_,by rw[nL,if_neg (by omega),if_pos (by simpa using h46)],rfl,rfl⟩
theorem zG(x:Value)(bs:List UInt8)(hb:bs.length≤1000000000):DT 148 #[x] (IsW x bs) [] (dG (λv H=>(nL bs=none∧v= .tuple #[.slice none 0 0, .bool false]∧H=[])∨∃t u,nL bs=some t∧v= .tuple #[u, .bool true]∧H=[cH u t 5])):=λw G h m=>by
 obtain⟨a,c,rfl,hc,_⟩:=h.form;exact Hv a c bs hc hb w G h m
theorem vM(n:Nat)(hn:n≤1000000000000):
 DT 162 #[(.int .i64 (((n:Nat):Int)))] T0 [] (RI (.int .i64 ((br n:Nat):Int)) []):=by
 refine BD 9 Tryz.func162 rfl rfl rfl λw0 F hF=>sr λ_ J1=>PS ?_
 refine nx J1 (aa λ_ J2=>sr λ_ J3=>P2 ?_);refine ap ?_ ?_<;>intro h4;refine nx J3 (CY (sr λ_ J4=>PS ?_));refine nx J4 (ah (ae (WK [] (aw rfl rfl ?_))));obtain rfl:n=0:=by omega
 exact⟨rfl,rfl⟩;refine nx J3 (CN (qx J2 (sr λ_ J5=>PS ?_)));refine tp (iE rfl rfl rfl (bH (by omega) (by omega))) ?_;refine tp (PV.quo (r:=(((n-1) / 52:Nat):Int)) rfl rfl rfl (by omega) (by rw[show(((n:Nat):Int)-1)=((n-1:Nat):Int)by omega];exact NE (n-1) 52 (by omega))) ?_;refine AD ?_;refine PS ?_;refine nx J5 (ah (WK [] (aw rfl rfl ?_)));rw[br,if_neg (by omega)];exact⟨by simp,rfl⟩
theorem Fo{number:Int}{bs:List UInt8}{k:Nat}:nQ number bs (k+1)=nQ number bs k++[qG (kl number k (br bs.length) (hY bs k))++[1]]:=Fm number bs k
theorem Bi(a:Option Addr)(c number:Nat)(bs:List UInt8)(hc:bs.length≤c)(hb:bs.length≤3000):
 DT 164 #[(.int .i64 (((number:Nat):Int))),(.slice a bs.length c)] (IsW (.slice a bs.length c) bs) [] (dG (λv H=>H=[na 47 5 v (cq ((number:Nat):Int) bs)])):=by
 refine BD 68 Tryz.func164 rfl rfl rfl λw0 F hF=>sr λ_ J1=>PS ?_
 refine nx J1 (sr λ_ J2=>PS ?_);refine tp (dO rfl fO rfl ⟨_,_,rfl⟩) ?_;refine CE M1 (vM bs.length (by omega)) ID ?_;refine PS ?_;refine nx J2 (sr λ_ J3=>PS ?_);refine nx J3 (aa λ_ J4=>sr λ_ J5=>P2 ?_);refine nx J5 (am ?_)
 refine bG (α:=(Nat)×(Value)) (λ⟨k,vr⟩=>k≤br bs.length∧vr.oneCell'=true) (λ⟨k,vr⟩=>[(0,(.int .i64 (((number:Nat):Int)))),(1,(.slice a bs.length c)),(4,(.slice none 0 0)),(5,(.int .i64 (((br bs.length:Nat):Int)))),(6,vr),(14,(.int .i64 (((br bs.length:Nat):Int)))),(15,(.int .i64 (((k:Nat):Int))))]) (λ⟨k,vr⟩=>[na 47 5 vr (nQ ((number:Nat):Int) bs k)]) (λ⟨k,vr⟩=>br bs.length-k) (0,(.slice none 0 0))
  ⟨aP _,rfl⟩ SB
  (λ_ s=>vF 47 5 s) (λ⟨k,vr⟩ hinv=>?_)
 obtain⟨hk,hvr⟩:=hinv;refine sr λ_ J6=>PS ?_
 refine ap ?_ ?_<;>intro h16;have hkn:=Mb (n:=bs.length) (k:=k) (by omega);have hpe:=Mc bs k;have hP:IsW (kH (.slice a bs.length c) (k*52) (min ((k+1)*52) bs.length)) (hY bs k) F:=by rw[←hpe];exact hF.cut (by omega) (by omega)
 have hpl:=uU bs k;have hpk:=pA hb;have hP2:=hP.len;refine nx J6 (aa λ_ J7=>CY (qx J7 (aa λ_ J8=>am (sr λ_ J9=>P2 ?_))));refine nx J9 (sr λ_ J10=>P2 ?_);refine tp (EM (r:=((k*52:Nat):Int)) rfl rfl rfl (by rw[show((k:Nat):Int)*52=((k*52:Nat):Int)by omega];exact bH (by omega) (by omega))) ?_;refine PS ?_;refine AD ?_;refine tp (EM (r:=(((k+1)*52:Nat):Int)) rfl rfl rfl (by rw[show(((k:Nat):Int)+1)*52=(((k+1)*52:Nat):Int)by omega];exact bH (by omega) (by omega))) ?_;refine PS ?_;refine tp (dO rfl fO rfl ⟨_,_,rfl⟩) ?_;refine tp (PV.minI rfl rfl rfl) ?_;refine tp (PV.sliceLH (lo:=k*52) (hi:=min ((k+1)*52) bs.length) rfl fO kx rfl rfl rfl rfl (by omega) (by omega) (by omega)) ?_;refine PS ?_;refine nx J10 (sr λ_ J11=>TL.makeB (59) (59) (ab rfl) rfl rfl rfl fO uD rfl rfl rfl rfl (by omega) (by omega) (λb28=>PS ?_));refine nx J11 (aa λ_ J12=>sr λ_ J13=>PS ?_);refine nx J13 (am (hO 5 (sr λ_ J14=>PS ?_)));refine nx J14 (aa λ_ J15=>CY (qx J15 (aa λ_ J16=>am (sr λ_ J17=>P2 ?_))));refine nx J17 (ac (P4 ?_));refine tp (iE (r:=3) rfl rfl rfl (by decide)) ?_;refine tp (EM (r:=24) rfl rfl rfl (by decide)) ?_;refine tp (iF (r:=((number:Nat):Int).fdiv 16777216) rfl rfl rfl (by omega) rfl) ?_;refine tp (cD (r:=(((r8 (((number:Nat):Int).fdiv 16777216)).toNat:Nat):Int)) rfl Y3 Y5 rfl (r8_wrap _)) ?_
 refine tp (kh (r:=0) rfl fO kx rfl rfl (by first|omega|decide) (by first|omega|decide) rfl) ?_;refine S0 0 kx ?_;refine au (af (ad J16 (ac (tp (bA (r:=1) rfl rfl rfl (by decide)) ?_))));refine PS ?_;refine au (bI (sr λ_ J18=>PS ?_));refine nx J18 (aa λ_ J19=>CY (qx J19 (aa λ_ J20=>am (sr λ_ J21=>P2 ?_))));refine nx J21 (ac (P4 ?_));refine tp (iE (r:=2) rfl rfl rfl (by decide)) ?_;refine tp (EM (r:=16) rfl rfl rfl (by decide)) ?_;refine tp (iF (r:=((number:Nat):Int).fdiv 65536) rfl rfl rfl (by omega) rfl) ?_;refine tp (cD (r:=(((r8 (((number:Nat):Int).fdiv 65536)).toNat:Nat):Int)) rfl Y3 Y5 rfl (r8_wrap _)) ?_;refine tp (kh (r:=1) rfl fO kx rfl rfl (by first|omega|decide) (by first|omega|decide) rfl) ?_;refine S0 0 kx ?_;refine au (af (ad J20 (ac (tp (bA (r:=2) rfl rfl rfl (by decide)) ?_))));refine PS ?_;refine au (bI (sr λ_ J22=>PS ?_));refine nx J22 (aa λ_ J23=>CY (qx J23 (aa λ_ J24=>am (sr λ_ J25=>P2 ?_))));refine nx J25 (ac (P4 ?_));refine tp (iE (r:=1) rfl rfl rfl (by decide)) ?_;refine tp (EM (r:=8) rfl rfl rfl (by decide)) ?_;refine tp (iF (r:=((number:Nat):Int).fdiv 256) rfl rfl rfl (by omega) rfl) ?_;refine tp (cD (r:=(((r8 (((number:Nat):Int).fdiv 256)).toNat:Nat):Int)) rfl Y3 Y5 rfl (r8_wrap _)) ?_;refine tp (kh (r:=2) rfl fO kx rfl rfl (by first|omega|decide) (by first|omega|decide) rfl) ?_;refine S0 0 kx ?_
 refine au (af (ad J24 (ac (tp (bA (r:=3) rfl rfl rfl (by decide)) ?_))));refine PS ?_;refine au (bI (sr λ_ J26=>PS ?_));refine nx J26 (aa λ_ J27=>CY (qx J27 (aa λ_ J28=>am (sr λ_ J29=>P2 ?_))));refine nx J29 (ac (P4 ?_));refine tp (iE (r:=0) rfl rfl rfl (by decide)) ?_;refine tp (EM (r:=0) rfl rfl rfl (by decide)) ?_;refine tp (iF (r:=((number:Nat):Int)) rfl rfl rfl (by omega) (Int.fdiv_one _)) ?_;refine tp (cD (r:=(((r8 (((number:Nat):Int))).toNat:Nat):Int)) rfl Y3 Y5 rfl (r8_wrap _)) ?_;refine tp (kh (r:=3) rfl fO kx rfl rfl (by first|omega|decide) (by first|omega|decide) rfl) ?_;refine S0 0 kx ?_;refine au (af (ad J28 (ac (tp (bA (r:=4) rfl rfl rfl (by decide)) ?_))));refine PS ?_;refine au (bI (sr λ_ J30=>PS ?_));refine nx J30 (aa λ_ J31=>CN (aW (aA (aA (bq (ad J12 (sr λ_ J32=>P4 ?_)))))));refine tp (cD (r:=(((r8 (((k:Nat):Int))).toNat:Nat):Int)) rfl Y3 Y5 rfl (r8_wrap _)) ?_;refine PS ?_;refine tp (cD (r:=(((r8 (((br bs.length:Nat):Int))).toNat:Nat):Int)) rfl Y3 Y5 rfl (r8_wrap _)) ?_;refine PS ?_;refine tp (dO rfl fO rfl hP2) ?_;refine tp (cD (r:=(((r8 ((((hY bs k).length:Nat):Int))).toNat:Nat):Int)) rfl Y3 Y5 rfl (r8_wrap _)) ?_;refine tp (kh (r:=4) rfl fO kx rfl rfl (by first|omega|decide) (by first|omega|decide) rfl) ?_;refine S0 0 kx ?_;refine tp (kh (r:=5) rfl fO kx rfl rfl (by first|omega|decide) (by first|omega|decide) rfl) ?_;refine S0 0 kx ?_
 refine tp (kh (r:=6) rfl fO kx rfl rfl (by first|omega|decide) (by first|omega|decide) rfl) ?_;refine S0 0 kx ?_;refine nx J32 (sr λ_ J33=>PS ?_);refine tp (zp (k:=7) (v:=(.slice (some ⟨b28,7,none⟩) (52) (52))) rfl fO kx rfl rfl rfl (by decide) rfl) ?_;refine PS ?_;refine Ox (i:=0) (m:=(hY bs k).length) (news:=(dX (hY bs k))) (H':=[aj b28 (dX (kl ((number:Nat):Int) k (br bs.length) (hY bs k))) 5,na 47 5 vr (nQ ((number:Nat):Int) bs k)]) (ab rfl) rfl rfl rfl fO kx rfl rfl rfl rfl (λ_ _=>hP.src (λ_ h=>fD h)) (ff _) (by show 7+min (hY bs k).length 52≤59;omega) (Hu (number:=((number:Nat):Int)) (place:=k) (all:=br bs.length) hpl) rfl (nx J33 (ac (P2 ?_)));refine CQ MX (vC (.slice (some ⟨b28,0,none⟩) (59) (59)) (kl ((number:Nat):Int) k (br bs.length) (hY bs k)) (by rw[j5 hpl];decide)) ID (λg d s=>Lk (Kq 0 59 (j5 hpl) (by decide) rfl rfl g d s)) λvR HR hR=>?_
 subst hR;refine aM (cells:=#[(.int .u8 1)]) (ab rfl) rfl rfl rfl fO uD rfl rfl rfl (by as_aux_lemma=>kernel_rfl) (λb62=>bX (k:=1) (news:=dX ([1])) (nn':=(qG (kl ((number:Nat):Int) k (br bs.length) (hY bs k))++[1]:List UInt8).length) (xs':=dX (qG (kl ((number:Nat):Int) k (br bs.length) (hY bs k))++[1])) (ab rfl) rfl rfl rfl fO uD rfl rfl rfl rfl rfl rfl (λ_ _=>gn rfl (RO 0) rfl) (ff [1]) (by rw[lJ,j5 hpl];simp only[maxLen];omega) (by rw[lJ,j5 hpl];omega) (by simp) (gE _ _).symm (λv63 ov63=>aM (cells:=#[v63]) (ab rfl) rfl rfl rfl wE Iz rfl rfl rfl (uh ov63 (by simp)) (λb64=>?_)));change TL _ _ _ _ _ _ _ _ _ [aj b64 [v63] 47,aj b62 [(.int .u8 1)] 5,cH v63 (qG (kl ((number:Nat):Int) k (br bs.length) (hY bs k))++[1]) 5,aj b28 (dX (kl ((number:Nat):Int) k (br bs.length) (hY bs k))) 5,na 47 5 vr (nQ ((number:Nat):Int) bs k)];refine ci (λ_ s=>aD [4] rfl s) (No (λus65=>bX (k:=0) (m:=1) (news:=[v63]) (nn':=(nQ ((number:Nat):Int) bs k).length+1) (xs':=us65++[v63]) (ab rfl) rfl rfl rfl wE Iz rfl rfl rfl rfl rfl rfl (λ_ _=>gn rfl (RO 2) rfl) (List.forall_mem_cons.2 ⟨ov63,λ_ h=>by cases h⟩) (by rw[zQ];simp only[maxLen];omega) (by rw[zQ];omega) rfl rfl (λv65 ov65=>?_)))
 change TL _ _ _ _ _ _ _ _ _ [own v65 ((nQ ((number:Nat):Int) bs k).length+1) (us65++[v63]) 47 1,eV us65 (nQ ((number:Nat):Int) bs k) 5,aj b64 [v63] 47,aj b62 [(.int .u8 1)] 5,cH v63 (qG (kl ((number:Nat):Int) k (br bs.length) (hY bs k))++[1]) 5,aj b28 (dX (kl ((number:Nat):Int) k (br bs.length) (hY bs k))) 5];refine ci (λ_ s=>Bg 4 rfl rfl s) (ci (H':=[own v65 ((nQ ((number:Nat):Int) bs k).length+1) (us65++[v63]) 47 1,eV us65 (nQ ((number:Nat):Int) bs k) 5,ik v63 (qG (kl ((number:Nat):Int) k (br bs.length) (hY bs k))++[1]) 5,aj b64 [v63] 47,aj b62 [(.int .u8 1)] 5,aj b28 (dX (kl ((number:Nat):Int) k (br bs.length) (hY bs k))) 5]) (λ_ s=>aD [0,0,2] rfl s) (ci (λ_ s=>vH s) ?_));rw[←Fo];refine PS ?_;refine au (af (ad J8 (ac (AD ?_))));refine PS ?_;refine au ?_
 exact aL ((k+1,v65):(Nat)×(Value)) ⟨by omega,ov65⟩ (by show br bs.length- (k+1)<br bs.length-k;omega)
  SB
  (λ_ s=>ak [0] rfl s)
 refine nx J6 (aa λ_ J34=>CN (aW (aA (aA (bq (ad J4 (sr λ_ J35=>P2 ?_)))))));refine nx J35 (ah (WK [0] (aw rfl rfl ?_)));obtain rfl:k=br bs.length:=by omega
 exact rfl
theorem Bj(x:Value)(number:Nat)(bs:List UInt8)(hb:bs.length≤3000):DT 164 #[.int .i64 ((number:Nat):Int),x] (IsW x bs) [] (dG (λv H=>H=[na 47 5 v (cq ((number:Nat):Int) bs)])):=λw G h m=>by
 obtain⟨a,c,rfl,hc,_⟩:=h.form;exact Bi a c number bs hc hb w G h m
theorem xR(s:jz)(number place:Int)(hs:s.length=64):
 DT 131 #[(.agg (dX s).toArray),(.int .i64 (number)),(.int .i64 (place))] T0 [] (dG (λv H=>(fS s number place=none∧v= .tuple #[.slice none 0 0, .int .i64 0, .bool false]∧H=[])∨∃b all u,fS s number place=some (b,all)∧v= .tuple #[u, .int .i64 all, .bool true]∧H=[ik u b 5])):=by
 refine BD 74 Tryz.func131 rfl rfl rfl λw0 F hF=>sr λ_ J1=>XY (dX s) λb3=>?_
 refine P3 ?_;refine nx J1 (sr λ_ J2=>tp (Ru (k:=63) rfl sP kx rfl rfl (by omega) (by omega) rfl) ?_);refine CQ M6 (zG (.slice (some ⟨b3,0,none⟩) (63) (64)) (s.take 63) (by rw[bB];omega)) ID (λg d s'=>Lk (Ix 0 63 (by omega) (by omega) (by decide) (by rw[aC (by rw[bo];omega)]) hs.symm rfl rfl g d s')) λvR HR hR=>?_
 rcases hR with⟨ht,rfl,rfl⟩| ⟨t,u,ht,rfl,rfl⟩
 refine P4 ?_;refine PS ?_;refine nx J2 (aa λ_ J3=>sr λ_ J4=>PS ?_);refine PS ?_;refine PS ?_
 iterate 3 refine UT ?_
 refine PS ?_;refine nx J4 (CY (sr λ_ J5=>P3 ?_));exact nx J5 (ah (ae (WK [] (oc rfl rfl rfl rfl (.inl ⟨Bz ht,rfl,rfl⟩)))));have htl:=zH ht;rw[bB]at htl;have ht59:t.length=59:=by omega
 refine jV 0 rfl rfl (by omega) (λg cap hv hcap=>P4 ?_);refine PS ?_;refine nx J2 (aa λ_ J6=>sr λ_ J7=>PS ?_);refine PS ?_;refine PS ?_;refine IX 63 sP kx ?_;refine LT 1 Y5 (.int .u8 ((((s.getD 63 0).toNat:Nat):Int))) ?_ (hc:=by exact sc (by omega));refine PS ?_;refine ap ?_ ?_<;>intro h26;refine PS ?_;refine nx J7 (CY (sr λ_ J8=>P3 ?_));refine nx J8 (ah (ae (WK [] (oc rfl rfl rfl rfl ?_))));exact .inl ⟨sz (λh=>h26 (by rw[h];rfl)),rfl,rfl⟩;refine PS ?_;refine nx J7 (CN (qx J6 (sr λ_ J9=>PS ?_)));refine nx J9 (aa λ_ J10=>sr λ_ J11=>PS ?_);refine tp (nd (PV.sliceH (a:=some ⟨g,0,none⟩) (len:=t.length) (cap:=cap) (hi:=4) rfl fO kx (by rw[←hv];rfl) rfl rfl (by omega)) (MB (by omega))) ?_;refine tp (q8 rfl fO rfl) ?_;refine PS ?_;refine nx J11 (am ?_)
 refine bG (α:=(Nat)) (λk=>k≤4) (λk=>[(1,(.int .i64 (number))),(2,(.int .i64 (place))),(6,(.slice none 0 0)),(7,(.int .i64 0)),(8,(.bool false)),(9,u),(11,(.int .i64 (IV (t.take k)))),(29,(.slice (some ⟨g,0,none⟩) (4) (cap))),(30,(.int .i64 4)),(31,(.int .i64 (((k:Nat):Int))))]) (λk=>[cH u (t) 5,aj b3 (dX s) 145]) (λk=>4-k) 0
  (aP _) SB
  (λ_ s=>s) (λk hinv=>?_)
 obtain hk:=hinv;refine sr λ_ J12=>PS ?_
 refine ap ?_ ?_<;>intro h32;refine nx J12 (aa λ_ J13=>CY (qx J13 (aa λ_ J14=>am (sr λ_ J15=>tp (kh (r:=k) rfl fO kx rfl rfl (by first|omega|decide) (by first|omega|decide) (by omega)) ?_))));refine tp (cm (v:=(.int .u8 ((((t.getD k 0).toNat:Nat):Int)))) rfl Y5 rfl rfl (gM 0 rfl hv rfl) (sc (by omega))) ?_;refine PS ?_;refine nx J15 (ac (PS ?_));refine tp (wI (r:=IntKind.i64.wrap ((IV (t.take k))*2^8)) rfl rfl rfl (by omega) rfl) ?_;refine PS ?_;refine tp (cD (r:=(((t.getD k 0).toNat:Nat):Int)) rfl Y5 Y3 rfl (bH (by omega) (by have:=UInt8.toNat_lt (n:=t.getD k 0);omega))) ?_;refine tp (He (r:=iR .i64 (IntKind.i64.wrap ((IV (t.take k))*2^8)) (((t.getD k 0).toNat:Nat):Int)) rfl rfl rfl rfl) ?_;refine PS ?_;refine au (af (ad J14 (ac (AD ?_))));refine PS ?_;refine au ?_
 exact aL ((k+1):(Nat)) (by omega) (by show 4- (k+1)<4-k;omega)
  (aX (aX (aX (aX (aX (aX (bM rfl (congrArg (Value.int .i64) (KW (by omega)).symm) SB)))))))
  (λ_ s=>s)
 refine nx J12 (aa λ_ J16=>CN (aW (aA (aA (bq (ad J10 (aa λ_ J17=>sR (λw=>Frm F w∧Hx g (dX (t)) w∧True) df rfl (λ_ s=>⟨fD s,gM 0 rfl hv rfl _ s,trivial⟩) (PD 0 ?_))))))));refine ta 1 rfl (bn (r:=5) hv rfl fO kx rfl rfl (by omega) (by omega) rfl) ?_;refine ta 2 rfl (cm (v:=(.int .u8 ((((t.getD 5 0).toNat:Nat):Int)))) rfl Y5 rfl rfl (λ_ h=>h.2.1) (sc (by omega))) ?_;refine ta 3 rfl (cD (r:=(((t.getD 5 0).toNat:Nat):Int)) rfl Y5 Y3 rfl (bH (by omega) (by have:=UInt8.toNat_lt (n:=t.getD 5 0);omega))) ?_;refine PD 4 ?_;refine ta 5 rfl (bn (r:=6) hv rfl fO kx rfl rfl (by omega) (by omega) rfl) ?_;refine ta 6 rfl (cm (v:=(.int .u8 ((((t.getD 6 0).toNat:Nat):Int)))) rfl Y5 rfl rfl (λ_ h=>h.2.1) (sc (by omega))) ?_;refine ta 7 rfl (cD (r:=(((t.getD 6 0).toNat:Nat):Int)) rfl Y5 Y3 rfl (bH (by omega) (by have:=UInt8.toNat_lt (n:=t.getD 6 0);omega))) ?_;refine PD 8 ?_;refine PD 9 ?_;refine DN (ad J17 (aa λ_ J18=>sr λ_ J19=>P3 ?_));refine ap ?_ ?_<;>intro h51;refine PS ?_
 iterate 6 refine UT ?_
 refine P2 ?_
 iterate 3 refine UT ?_
 refine P2 ?_;refine UT ?_;refine UT ?_;refine PS ?_;refine nx J19 (CY (sr λ_ J20=>P3 ?_));refine nx J20 (ah (ae (WK [] (oc rfl rfl rfl rfl ?_))));exact .inl ⟨np ht (.inl (by have:k=4:=(by omega);subst this;exact h51)),rfl,rfl⟩;refine P2 ?_;refine tq (bn (r:=4) hv rfl fO kx rfl rfl (by omega) (by omega) rfl) ?_;refine tq (cm (v:=(.int .u8 ((((t.getD 4 0).toNat:Nat):Int)))) rfl Y5 rfl rfl (gM 0 rfl hv rfl) (sc (by omega))) ?_;refine tq (cD (r:=(((t.getD 4 0).toNat:Nat):Int)) rfl Y5 Y3 rfl (bH (by omega) (by have:=UInt8.toNat_lt (n:=t.getD 4 0);omega))) ?_;refine P2 ?_;refine ap ?_ ?_<;>intro h58;refine P2 ?_
 iterate 3 refine UT ?_
 refine P2 ?_;refine UT ?_;refine UT ?_;refine PS ?_;refine nx J19 (CY (sr λ_ J21=>P3 ?_));exact nx J21 (ah (ae (WK [] (oc rfl rfl rfl rfl (.inl ⟨np ht (.inr (.inl h58)),rfl,rfl⟩)))))
 iterate 5 refine PS ?_
 refine ap ?_ ?_<;>intro h63;refine P2 ?_;refine UT ?_;refine UT ?_;refine PS ?_;refine nx J19 (CY (sr λ_ J22=>P3 ?_));exact nx J22 (ah (ae (WK [] (oc rfl rfl rfl rfl (.inl ⟨np ht (.inr (.inr (.inl h63))),rfl,rfl⟩)))));refine P4 ?_;refine ap ?_ ?_<;>intro h67;refine PS ?_;refine nx J19 (CY (sr λ_ J23=>P3 ?_));exact nx J23 (ah (ae (WK [] (oc rfl rfl rfl rfl (.inl ⟨np ht (.inr (.inr (.inr h67))),rfl,rfl⟩)))));refine PS ?_;refine nx J19 (CN (qx J18 (sr λ_ J24=>P2 ?_)));refine tp (bA (r:=((7+(t.getD 6 0).toNat:Nat):Int)) rfl rfl rfl (by rw[show(7:Int)+(((t.getD 6 0).toNat:Nat):Int)=((7+(t.getD 6 0).toNat:Nat):Int)by omega];have:=UInt8.toNat_lt (n:=t.getD 6 0);exact bH (by omega) (by omega))) ?_;refine tp (nd (PV.sliceLH (a:=some ⟨g,0,none⟩) (len:=t.length) (cap:=cap) (lo:=7) (hi:=7+(t.getD 6 0).toNat) rfl fO kx (by rw[←hv];rfl) rfl rfl rfl rfl (by omega) (by omega)) (congrArg (λq=>kH q 7 (7+(t.getD 6 0).toNat)) hv.symm)) ?_;refine P4 ?_;refine nx J24 (ah (aE (H':=[ik (kH u 7 (7+(t.getD 6 0).toNat)) ((t.drop 7).take (t.getD 6 0).toNat) 5]) (dN _) (λ_ s'=>ak [0] rfl (xw 0 rfl rfl hv (by omega) (by omega) (by omega) (by rw[kO,cE]) s')) (oc rfl rfl rfl rfl ?_)));obtain rfl:k=4:=by omega
 have h1:s.getD 63 0=1:=UInt8.toNat_inj.1 (by have h1':(1:UInt8).toNat=1:=rfl;omega);exact .inr ⟨_,_,_,Dz ht h1 (by omega),rfl,rfl⟩
end Go.Proofs.YtkhjnolhhidecaaGreatDoor
end

section
namespace Wal
open Go Leg Codec Api Dsk
theorem vh(i:Nat){us:List Value}{ls:List (List UInt8)}{e k:Nat}{B:List HP}{F:Hl}(hk:k<ls.length)(hi:Nat.blt i B.length=true)(hH:B.getD i (λ_=>True)=eV us ls e): ∀g,Dj g F→bR B g→IsB (us.getD k undef) ls[k] (jn g F):=λg d s=>by
 obtain⟨h1,h2,d',rfl,a,_⟩:=eJ i (lb hi) s;rw[hH]at a;obtain⟨hl,a⟩:=a;obtain⟨u,e1,k1,k2,dk,rfl,a3⟩:=yz us ls e _ hl a k hk;rw[List.getD_eq_getElem?_getD,e1];exact CH a3 λb o e=>g9 (g9 (g9 e))
theorem In.read{s ws:gj}(h1:In s)(h2:In ws)(at':Int)(h: ¬(0≤at'∧at'<2048)): ∀k,k≤ws.length→jj s ws at' k=zs
 |0,_=>by
  show kY s at'=zs
  induction s with
  |nil=>rfl
  |cons p s ih=>
   obtain⟨a,b⟩:=p;simp only[kY];have hh:=h1 (a,b) (by simp);rw[if_neg (λe=>h (by simp only at hh;omega))];exact ih λq hq=>h1 q (by simp[hq])
 |k+1,hk=>by
  simp only[jj];rw[if_neg,In.read h1 h2 at' h k (by omega)];intro e;rw[w5 (by omega)]at e;have hh:=h2 ws[k] (ez _);exact h (by omega)
theorem DS.In.read{D:DS}(h:Wal.DS.In D){at':Int}(h2: ¬(0≤at'∧at'<2048)):D.read at'=zs:=Wal.In.read h.1 h.2 at' h2 _ (aK _)
theorem H8(number place:Int):fS zs number place=none:=sz (by decide)
theorem xZ{rd:Int→jz}{number at' all:Int}: ∀(m:Nat) {b:List UInt8},lL rd number at' all m=some b→∀k,k<m→∃x,fS (rd (at'+k)) number k=some (x,all)
 |0,_,_,k,hk=>by omega
 |m+1,b,h,k,hk=>by
  simp only[lL]at h;split at h
  · cases h
  · rename_i b' hb
    split at h
    · cases h
    · rename_i x same hx
      split at h
      · rename_i hs
        by_cases e:k=m
        · subst e;exact⟨x,by rw[hx,hs]⟩
        · exact xZ m hb k (by omega)
      · cases h
theorem mg{rd:Int→jz}{number at' all:Int}{b:List UInt8}(hl:(rd at').length=64)(h:gD rd number at'=some (b,all)):0<all∧all≤255∧∀k:Nat,(k:Int)<all→∃x,fS (rd (at'+k)) number k=some (x,all):=by
 unfold gD at h;split at h
 · cases h
 · rename_i x al hp
   obtain⟨f1,f2,_⟩:=pB hl hp;obtain⟨c,hc,e⟩:=Option.map_eq_some_iff.1 h;injection e with e1 e2
   subst e1;subst e2;exact⟨f1,f2,λk hk=>xZ _ hc k (by omega)⟩
theorem pw{D:DS}(hI:Wal.DS.In D)(hD:D.Ok){number at' all:Int}{b:List UInt8}(h0:0≤at')(h:gD D.read number at'=some (b,all)):at'+all≤2048:=by
 obtain⟨f1,f2,f3⟩:=mg (mR hD _) h;obtain⟨x,hx⟩:=f3 (all-1).toNat (by omega)
 by_cases q:at'+all≤2048
 · exact q
 · rw[DS.In.read hI (by omega),H8]at hx;cases hx
theorem zR{rd:Int→jz}{f:Nat}{cnt used:Int}(h:gD rd (cnt+1) used=none):gJ rd f cnt used=([],used):=by
 cases f with
 |zero=>rfl
 |succ f=>simp only[gJ,h]
theorem GF{rd:Int→jz}{f:Nat}{cnt used all:Int}{b:List UInt8}(h:gD rd (cnt+1) used=some (b,all)):gJ rd (f+1) cnt used=(b::(gJ rd f (cnt+1) (used+all)).1,(gJ rd f (cnt+1) (used+all)).2):=by simp only[gJ,h]
def Scan(D:DS)(f:Nat)(rs:List (List UInt8))(used:Int):Prop:=
 gJ D.read jO 0 0=(rs++(gJ D.read f rs.length used).1,(gJ D.read f rs.length used).2)∧0≤used∧used≤2048∧2049≤(f:Int)+used∧(rs.length:Int)≤used
theorem Scan.start(D:DS):Scan D jO [] 0:=by
 refine⟨?_,by omega,by omega,by rw[ua];omega,by simp⟩;have e:((([]:List (List UInt8)).length:Nat):Int)=0:=rfl;rw[ba,e]
theorem Scan.next{D:DS}(hI:Wal.DS.In D)(hD:D.Ok){f:Nat}{rs:List (List UInt8)}{used all:Int}{b:List UInt8}(h:Scan D f rs used)(h2:gD D.read ((rs.length:Int)+1) used=some (b,all)): ∃f',f=f'+1∧Scan D f' (rs++[b]) (used+all):=by
 obtain⟨h1,h0,h3,h4,h5⟩:=h;have hr:=pw hI hD h0 h2;have hf:=(mg (mR hD _) h2).1;obtain⟨f',rfl⟩: ∃f',f=f'+1:=⟨f-1,by omega⟩;refine⟨f',rfl,?_,by omega,by omega,by omega,by simp;omega⟩;rw[h1,GF h2];simp
theorem Scan.stop{D:DS}{f:Nat}{rs:List (List UInt8)}{used:Int}(h:Scan D f rs used)(h2:gD D.read ((rs.length:Int)+1) used=none):gJ D.read jO 0 0=(rs,used):=by
 rw[h.1,zR h2];simp
theorem Co{D:DS}{at':Int}(h:2048≤at'):ki (2048-at').toNat at' D=(0,D):=by rw[show(2048-at').toNat=0 by omega];rfl
theorem Hh{D:DS}{at':Int}(h:at'<2048)(h2:D.read at'=zs):ki (2048-at').toNat at' D=ki (2048- (at'+1)).toNat (at'+1) D:=by
 rw[show(2048-at').toNat=(2048- (at'+1)).toNat+1 by omega,ki,if_pos h2]
theorem Lw{D:DS}{at':Int}(h:at'<2048)(h2:D.read at'≠zs)(h3:(D.write at' []).1=0):ki (2048-at').toNat at' D=ki (2048- (at'+1)).toNat (at'+1) (D.write at' []).2:=by
 rw[show(2048-at').toNat=(2048- (at'+1)).toNat+1 by omega,ki,if_neg h2,if_pos h3]
theorem Hi{D:DS}{at':Int}(h:at'<2048)(h2:D.read at'≠zs)(h3:(D.write at' []).1≠0):ki (2048-at').toNat at' D=D.write at' []:=by
 rw[show(2048-at').toNat=(2048- (at'+1)).toNat+1 by omega,ki,if_neg h2,if_neg h3]
theorem Fx{D D':DS}{rs:List (List UInt8)}{used e:Int}(h:gJ D.read jO 0 0=(rs,used))(h2:ki (2048-used).toNat used D=(e,D'))(h3:e≠0):bY D=⟨e,[],0,D'⟩:=by
 simp only[bY,h,h2];rw[if_pos h3]
theorem Fw{D D':DS}{rs:List (List UInt8)}{used:Int}(h:gJ D.read jO 0 0=(rs,used))(h2:ki (2048-used).toNat used D=(0,D'))(h3:D'.sync.1≠0):bY D=⟨D'.sync.1,[],0,D'.sync.2⟩:=by
 simp only[bY,h,h2,ne_eq,not_true_eq_false,if_false];rw[if_pos h3]
theorem GK{D D':DS}{rs:List (List UInt8)}{used:Int}(h:gJ D.read jO 0 0=(rs,used))(h2:ki (2048-used).toNat used D=(0,D'))(h3:D'.sync.1=0):bY D=⟨0,rs,used,D'.sync.2⟩:=by
 simp only[bY,h,h2,ne_eq,not_true_eq_false,if_false];rw[if_neg (by simp[h3])]
def gQ:List jz→Int→DS→Int×DS
 | [],_,D=>(0,D)
 |s::ss,at',D=>if(D.write at' s).1=0 then gQ ss (at'+1) (D.write at' s).2 else D.write at' s
structure PutR where
 err:Int
 cnt:Nat
 used:Int
 D:DS
def mz(D:DS)(cnt:Nat)(used:Int)(bs:List UInt8):PutR:=
 if 3000<bs.length then⟨2,cnt,used,D⟩
 else if(br bs.length:Int)>2048-used then⟨3,cnt,used,D⟩
 else
  let w:=gQ (cq ((cnt+1:Nat):Int) bs) used D
  if w.1≠0 then⟨w.1,cnt,used,w.2⟩else if w.2.sync.1≠0 then⟨w.2.sync.1,cnt,used,w.2.sync.2⟩else⟨0,cnt+1,used+br bs.length,w.2.sync.2⟩
theorem Cj{ss:List jz}{at':Int}{D:DS}{k:Nat}(hk:k<ss.length)(h:(D.write (at'+k) ss[k]).1=0):gQ (ss.drop k) (at'+k) D=gQ (ss.drop (k+1)) (at'+(k+1:Nat)) (D.write (at'+k) ss[k]).2:=by
 rw[dP hk,gQ,if_pos h];congr 1;omega
theorem Ck{ss:List jz}{at':Int}{D:DS}{k:Nat}(hk:k<ss.length)(h:(D.write (at'+k) ss[k]).1≠0):gQ (ss.drop k) (at'+k) D=D.write (at'+k) ss[k]:=by
 rw[dP hk,gQ,if_neg h]
section
variable {D D':DS} {cnt:Nat} {used:Int} {bs:List UInt8}
theorem JL(h:3000<bs.length):mz D cnt used bs=⟨2,cnt,used,D⟩:=by rw[mz,if_pos h]
theorem Dx(h: ¬3000<bs.length)(h2:(br bs.length:Int)>2048-used):mz D cnt used bs=⟨3,cnt,used,D⟩:=by rw[mz,if_neg h,if_pos h2]
theorem Ab{e:Int}(h: ¬3000<bs.length)(h2: ¬(br bs.length:Int)>2048-used)(h3:gQ (cq ((cnt+1:Nat):Int) bs) used D=(e,D'))(h4:e≠0):mz D cnt used bs=⟨e,cnt,used,D'⟩:=by
 rw[mz,if_neg h,if_neg h2];simp only[h3];rw[if_pos h4]
theorem H0(h: ¬3000<bs.length)(h2: ¬(br bs.length:Int)>2048-used)(h3:gQ (cq ((cnt+1:Nat):Int) bs) used D=(0,D'))(h4:D'.sync.1≠0):mz D cnt used bs=⟨D'.sync.1,cnt,used,D'.sync.2⟩:=by
 rw[mz,if_neg h,if_neg h2];simp only[h3,ne_eq,not_true_eq_false,if_false];rw[if_pos h4]
theorem put_ok(h: ¬3000<bs.length)(h2: ¬(br bs.length:Int)>2048-used)(h3:gQ (cq ((cnt+1:Nat):Int) bs) used D=(0,D'))(h4:D'.sync.1=0):mz D cnt used bs=⟨0,cnt+1,used+br bs.length,D'.sync.2⟩:=by
 rw[mz,if_neg h,if_neg h2];simp only[h3,ne_eq,not_true_eq_false,if_false];rw[if_neg (by simp[h4])]
end
end Wal
end

section
namespace Go.Proofs.YtkhjnolhhidecaaGreatDoor
open Go Leg Codec Api Dsk Wal
abbrev GZ(lg d:Nat)(cnt used:Int):HP:=aj lg [.pointer (some ⟨d,0,none⟩), .int .i64 cnt, .int .i64 used] 171
abbrev Qq(v:Value)(ls:List (List UInt8)):HP:=na 47 5 v ls
theorem C1(d:Nat)(D:DS)(number at':Int)(hD:D.Ok)(hb:D.ws.length≤1000000000)(ha:0≤at'∧at'≤1000000):
 DT 84 #[(.pointer (some ⟨d,0,none⟩)),(.int .i64 (number)),(.int .i64 (at'))] T0 [dk d (D)] (dG (λv H=>(gD D.read number at'=none∧v= .tuple #[.slice none 0 0, .int .i64 0, .bool false]∧H=[dk d D])∨∃b all u,gD D.read number at'=some (b,all)∧v= .tuple #[u, .int .i64 all, .bool true]∧H=[ik u b 5,dk d D])):=by
 refine BD 56 Tryz.func84 rfl rfl rfl λw0 F hF=>sr λ_ J1=>P3 ?_
 refine nx J1 (sr λ_ J2=>P2 ?_);refine CR NK (BX d (D) at' hD hb) ID λvR HR hR=>?_
 obtain⟨hv,rfl⟩:=hR;subst hv;refine PS ?_;refine CR M8 (xR ((D).read at') number 0 (mR hD _)) ID λvR HR hR=>?_
 rcases hR with⟨hp,rfl,rfl⟩| ⟨b,all,u,hp,rfl,rfl⟩
 refine P4 ?_;refine P3 ?_;refine nx J2 (aa λ_ J3=>sr λ_ J4=>PS ?_);refine PS ?_;refine nx J4 (CY (sr λ_ J5=>P3 ?_));exact nx J5 (ah (ae (WK [0] (oc rfl rfl rfl rfl (.inl ⟨rO hp,rfl,rfl⟩)))));refine TL.subLen 0 rfl rfl (λhul hu=>?_);have hpf:=pB (mR hD _) hp;refine P4 ?_;refine P3 ?_;refine nx J2 (aa λ_ J6=>sr λ_ J7=>PS ?_);refine PS ?_;refine nx J7 (CN (qx J6 (aa λ_ J8=>sr λ_ J9=>PS ?_)));refine nx J9 (am ?_)
 refine bG (α:=(Nat)×(List UInt8)×(Value)) (λ⟨k,c,w⟩=>1≤k∧k≤all.toNat∧lL D.read number at' all k=some c∧c.length≤k*52∧w.oneCell'=true) (λ⟨k,c,w⟩=>[(0,(.pointer (some ⟨d,0,none⟩))),(1,(.int .i64 (number))),(2,(.int .i64 (at'))),(9,w),(10,(.int .i64 (all))),(12,(.int .i64 (((k:Nat):Int))))]) (λ⟨k,c,w⟩=>[ik w (c) 5,dk d (D)]) (λ⟨k,c,w⟩=>all.toNat-k) (1,b,u)
  ⟨aK _,by omega,Im hp,by omega,hu⟩ SB
  (λ_ s=>s) (λ⟨k,c,w⟩ hinv=>?_)
 obtain⟨hk1,hk2,hk3,hk4,hw⟩:=hinv;refine aa λ_ J10=>sr λ_ J11=>P3 ?_
 refine ap ?_ ?_<;>intro h29;refine nx J11 (CY (qx J10 (aa λ_ J12=>am (sr λ_ J13=>P3 ?_))));refine AD ?_;refine CR NK (BX d (D) (at'+((k:Nat):Int)) hD hb) (SM [1]) λvR HR hR=>?_
 obtain⟨hv,rfl⟩:=hR;subst hv;refine P2 ?_;refine CR M8 (xR ((D).read (at'+((k:Nat):Int))) number ((k:Nat):Int) (mR hD _)) ID λvR HR hR=>?_
 rcases hR with⟨hp2,rfl,rfl⟩| ⟨b2,all2,u2,hp2,rfl,rfl⟩
 refine P4 ?_;refine P3 ?_;refine nx J13 (aa λ_ J14=>sr λ_ J15=>PS ?_);refine PS ?_;refine PS ?_
 iterate 3 refine UT ?_
 refine PS ?_;refine nx J15 (CY (sr λ_ J16=>P3 ?_));refine nx J16 (ah (ae (aI (ae (ae (aI (ae (WK [0] (oc rfl rfl rfl rfl ?_)))))))));exact .inl ⟨rN hp (xY (.inl hp2) _ (by omega)),rfl,rfl⟩;refine TL.subLen 0 rfl rfl (λhul2 hu2=>?_);have hpf2:=pB (mR hD _) hp2;refine P4 ?_;refine P3 ?_;refine nx J13 (aa λ_ J17=>sr λ_ J18=>PS ?_);refine PS ?_;refine P4 ?_;refine ap ?_ ?_<;>intro h49;refine PS ?_;refine nx J18 (CY (sr λ_ J19=>P3 ?_));refine nx J19 (ah (ae (aI (ae (ae (aI (ae (WK [1] (oc rfl rfl rfl rfl ?_)))))))));exact .inl ⟨rN hp (xY (.inr ⟨b2,all2,hp2,h49⟩) _ (by omega)),rfl,rfl⟩;refine PS ?_;refine nx J18 (CN (qx J17 (ac (P2 ?_))));refine TL.appendS (k:=2) (news:=b2) (bs':=c++b2) (ab rfl) rfl rfl rfl fO uD rfl rfl rfl rfl (λ_ s=>Src.sub 0 rfl rfl s) (by omega) rfl (λv53 ov53=>PS ?_);refine au (af (ad J12 (ac (PS ?_))));refine AD ?_;refine PS ?_;refine au ?_
 exact aL ((k+1,c++b2,v53):(Nat)×(List UInt8)×(Value)) ⟨by omega,by omega,x7 hk3 (by rw[hp2,show all2=all by omega]),by rw[ag];omega,ov53⟩ (by show all.toNat- (k+1)<all.toNat-k;omega)
  SB
  (λ_ s=>ak [2,1] rfl s)
 refine nx J11 (CN (aW (aA (aA (bq (ad J8 (sr λ_ J20=>?_)))))))
 iterate 5 refine PS ?_
 refine nx J20 (ah (WK [0,0] (oc rfl rfl rfl rfl ?_)));exact .inr ⟨c,all,w,tA hp (by rw[show all.toNat=k by omega];exact hk3),rfl,rfl⟩
theorem HS(lg d:Nat)(cnt used:Int)(h:0≤used∧used≤2048):
 DT 163 #[(.pointer (some ⟨lg,0,none⟩))] T0 [aj lg [(.pointer (some ⟨d,0,none⟩)),(.int .i64 (cnt)),(.int .i64 (used))] 171] (RI (.int .i64 (2048-used)) [GZ lg d cnt used]):=by
 refine BD 8 Tryz.func163 rfl rfl rfl λw0 F hF=>sr λ_ J1=>PS ?_
 refine nx J1 (sr λ_ J2=>P2 ?_);refine FA 2 rJ aO ?_;refine LA 0 Y3 ?_;refine tp (iE rfl rfl rfl (bH (by omega) (by omega))) ?_;refine PS ?_;exact nx J2 (ah (WK [0] (aw rfl rfl ⟨rfl,rfl⟩)))
theorem Cv(lg d cnt:Nat)(used:Int)(x:Value)(bs:List UInt8)(D:DS)(hD:D.Ok)(hb:D.ws.length≤1000000)(hu:0≤used∧used≤2048)(hc:cnt≤1000000):
 DT 146 #[(.pointer (some ⟨lg,0,none⟩)),x] (IsW x bs) [aj lg [(.pointer (some ⟨d,0,none⟩)),(.int .i64 (((cnt:Nat):Int))),(.int .i64 (used))] 171,dk d (D)] (RI (.int .i64 (mz D cnt used bs).err) [GZ lg d (((mz D cnt used bs).cnt:Nat):Int) (mz D cnt used bs).used,dk d (mz D cnt used bs).D]):=by
 refine BD 72 Tryz.func146 rfl rfl rfl λw0 F hF=>sr λ_ J1=>PS ?_
 refine nx J1 (aa λ_ J2=>sr λ_ J3=>PS ?_);refine tp (dO rfl fO rfl hF.len) ?_;refine PS ?_;refine ap ?_ ?_<;>intro h12;refine nx J3 (CY (sr λ_ J4=>PS ?_));refine nx J4 (ah (ae (WK [0,0] (aw rfl rfl ?_))));rw[JL (by omega)];exact⟨rfl,rfl⟩;refine nx J3 (CN (qx J2 (sr λ_ J5=>PS ?_)));refine tp (dO rfl fO rfl hF.len) ?_;refine CE M1 (vM bs.length (by omega)) ID ?_;refine PS ?_;refine nx J5 (aa λ_ J6=>sr λ_ J7=>P2 ?_);refine CE Pn (HS lg d ((cnt:Nat):Int) used hu) ID ?_;refine PS ?_;refine ap ?_ ?_<;>intro h19;refine nx J7 (CY (sr λ_ J8=>PS ?_));refine nx J8 (ah (ae (WK [0,0] (aw rfl rfl ?_))));rw[Dx (by omega) (by omega)];exact⟨rfl,rfl⟩;refine nx J7 (CN (qx J6 (aa λ_ J9=>sr λ_ J10=>P2 ?_)));refine FA 1 rJ aO ?_;refine LA 0 Y3 ?_;refine tp (nd (v':=(.int .i64 (((cnt+1:Nat):Int)))) (bA rfl rfl rfl (bH (by omega) (by omega))) rfl) ?_;refine PS ?_;refine CQ Pm (Bj x (cnt+1) bs (by omega)) ID (λg d _=>Qe hF d) λvR HR hR=>?_
 have hR:=hR;subst hR;change TL _ _ _ _ _ _ _ _ _ [na 47 5 vR (cq ((cnt+1:Nat):Int) bs),aj lg [(.pointer (some ⟨d,0,none⟩)),(.int .i64 (((cnt:Nat):Int))),(.int .i64 (used))] 171,dk d (D)];refine TL.recsLen 0 rfl rfl (λhrl hro=>?_);rw[dY]at hrl;refine tp (dO rfl wE rfl hrl) ?_;refine PS ?_;refine nx J10 (am ?_)
 refine bG (α:=(Nat)×(DS)) (λ⟨k,D'⟩=>k≤br bs.length∧gQ (cq ((cnt+1:Nat):Int) bs) used D=gQ ((cq ((cnt+1:Nat):Int) bs).drop k) (used+(k:Nat)) D'∧D'.Ok∧D'.ws.length≤D.ws.length+k) (λ⟨k,D'⟩=>[(0,(.pointer (some ⟨lg,0,none⟩))),(5,(.int .i64 (((br bs.length:Nat):Int)))),(26,vR),(27,(.int .i64 ((((br bs.length):Nat):Int)))),(28,(.int .i64 (((k:Nat):Int))))]) (λ⟨k,D'⟩=>[aj lg [(.pointer (some ⟨d,0,none⟩)),(.int .i64 (((cnt:Nat):Int))),(.int .i64 (used))] 171,dk d (D'),na 47 5 vR (cq ((cnt+1:Nat):Int) bs)]) (λ⟨k,D'⟩=>br bs.length-k) (0,D)
  ⟨aP _,by simp,hD,by omega⟩ SB
  (λ_ s=>aD [1,1,0] rfl s) (λ⟨k,D'⟩ hinv=>?_)
 obtain⟨hk,hwr,hD',hws⟩:=hinv;refine sr λ_ J11=>PS ?_
 refine ap ?_ ?_<;>intro h29;refine ci (λ_ s=>aD [2] rfl s) (No (λus=>?_));change TL _ _ _ _ _ _ _ _ _ [own vR ((cq ((cnt+1:Nat):Int) bs).length) (us) 47 1,eV us (cq ((cnt+1:Nat):Int) bs) 5,aj lg [(.pointer (some ⟨d,0,none⟩)),(.int .i64 (((cnt:Nat):Int))),(.int .i64 (used))] 171,dk d (D')];refine zk (p:=us.length=(cq ((cnt+1:Nat):Int) bs).length*1) (λw m=>m.own_len (i:=0) (lb rfl) rfl) (λhul=>?_);rw[dY,gB]at hul;have hkl:k< (cq ((cnt+1:Nat):Int) bs).length:=by rw[dY];omega
 obtain⟨sk,hsk⟩: ∃x,(cq ((cnt+1:Nat):Int) bs)[k]=x:=⟨_,rfl⟩;refine jV 0 rfl rfl (by omega) (λg cap hv hcap=>nx J11 (aa λ_ J12=>CY (qx J12 (aa λ_ J13=>am (sr λ_ J14=>PS ?_)))));refine tp (bn (r:=k) hv rfl wE lF rfl rfl (by omega) (by omega) (by omega)) ?_;refine tp (cm (v:=(us.getD k undef)) rfl fO rfl rfl (gM 0 rfl hv rfl) (by simp[List.getD_eq_getElem?_getD,show k<us.length by omega])) ?_;refine P2 ?_;refine nx J14 (aa λ_ J15=>D1 2 df ?_);refine PD 0 ?_;refine PD 1 ?_;refine FD 2 0 rJ xg ?_;refine LX 3 K8 (.pointer (some ⟨d,0,none⟩)) ?_ (hc:=by exact rfl);refine PD 4 ?_;refine PD 5 ?_;refine FD 6 2 rJ aO ?_;refine LX 7 Y3 (.int .i64 (used)) ?_ (hc:=by exact rfl);refine PD 8 ?_;refine ta 9 rfl (bA rfl rfl rfl (bH (by omega) (by omega))) ?_;refine PD 10 ?_;refine AL 11 ?_;refine CQ O2 (Em d D' (used+((k:Nat):Int)) (us.getD k undef) sk hD' (by omega)) (SM [3]) (λg d s=>Lk (hsk▸vh 1 hkl rfl rfl g d s)) λvR HR hR=>?_
 obtain⟨hv2,rfl⟩:=hR;subst hv2;refine EN (PD 12 ?_);refine DN (ad J15 (sr λ_ J16=>P2 ?_));refine ap ?_ ?_<;>intro h46;refine nx J16 (CY (sr λ_ J17=>P2 ?_));refine nx J17 (ah (aI (ae (ae (aI (ae (WK [3,0] (aw rfl rfl ?_))))))));have hf:=Ck (D:=D') (at':=used) hkl (by rw[hsk];exact h46);rw[hsk]at hf;rw[Ab (by omega) (by omega) (hwr.trans hf) h46];exact⟨rfl,rfl⟩;refine nx J16 (CN (aR (af (ad J13 (ac (AD ?_))))));refine PS ?_;refine au ?_
 exact aL ((k+1,(D'.write (used+((k:Nat):Int)) sk).2):(Nat)×(DS)) ⟨by omega,by rw[hwr];subst hsk;exact Cj hkl (by simpa using h46),DS.write_ok hD' _ _,by have:=DS.write_ws (D:=D') (at':=used+((k:Nat):Int)) (bs:=sk);omega⟩ (by show br bs.length- (k+1)<br bs.length-k;omega)
  SB
  (λ_ s=>aD [1,1,0] rfl (bw (p:=λus:List Value=>[own vR (cq ((cnt+1:Nat):Int) bs).length us 47 1,eV us (cq ((cnt+1:Nat):Int) bs) 5]) us (ak [1,1,1,0] rfl s)))
 refine nx J11 (aa λ_ J18=>CN (aW (aA (aA (bq (ad J9 (aa λ_ J19=>sr λ_ J20=>P2 ?_)))))));refine FA 0 rJ xg ?_;refine LA 0 K8 ?_;refine CR O1 (G2 d (D') hD') (SM [1]) λvR HR hR=>?_
 obtain⟨hv,rfl⟩:=hR;subst hv;refine PS ?_;refine nx J20 (sr λ_ J21=>P2 ?_);refine ap ?_ ?_<;>intro h55;refine nx J21 (CY (sr λ_ J22=>P2 ?_));refine nx J22 (ah (ae (WK [1,0] (aw rfl rfl ?_))));have hf:gQ (cq ((cnt+1:Nat):Int) bs) used D=(0,D'):=by rw[hwr,dz (by rw[dY];omega)];rfl
 rw[H0 (by omega) (by omega) hf h55];exact⟨rfl,rfl⟩;refine nx J21 (CN (qx J19 (sr λ_ J23=>P2 ?_)));refine FA 1 rJ aO ?_;refine LA 1 Y3 ?_;refine AD ?_;refine PS ?_;refine FA 1 rJ aO ?_;refine S0 1 aO ?_;refine nx J23 (sr λ_ J24=>P2 ?_);refine FA 2 rJ aO ?_;refine LA 1 Y3 ?_;refine PS ?_;refine AD ?_;refine PS ?_;refine FA 2 rJ aO ?_;refine S0 1 aO ?_;refine nx J24 (sr λ_ J25=>PS ?_);refine nx J25 (ah (WK [1,0] (aw rfl rfl ?_)));have hf:gQ (cq ((cnt+1:Nat):Int) bs) used D=(0,D'):=by rw[hwr,dz (by rw[dY];omega)];rfl
 rw[put_ok (by omega) (by omega) hf (by simpa using h55)];exact⟨rfl,rfl⟩
theorem Ih(d:Nat)(D:DS)(hD:D.Ok)(hI:Wal.DS.In D)(hb:D.ws.length≤1000000):
 DT 43 #[(.pointer (some ⟨d,0,none⟩))] T0 [dk d (D)] (dG (λv H=>((bY D).err≠0∧v= .tuple #[.pointer none, .slice none 0 0, .int .i64 (bY D).err]∧H=[dk d (bY D).D])∨((bY D).err=0∧∃lg vr,v= .tuple #[.pointer (some ⟨lg,0,none⟩),vr, .int .i64 0]∧H=[GZ lg d (((bY D).recs.length:Nat):Int) (bY D).used,Qq vr (bY D).recs,dk d (bY D).D]))):=by
 refine BD 80 Tryz.func43 rfl rfl rfl λw0 F hF=>sr λ_ J1=>P3 ?_
 refine nx J1 (aa λ_ J2=>sr λ_ J3=>PS ?_);refine tp (gA rfl K8 rfl rfl) ?_;refine nx J3 (CN (qx J2 (sr λ_ J4=>PS ?_)));refine BV #[(.pointer (some ⟨d,0,none⟩)),(.int .i64 0),(.int .i64 0)] ?_;refine XB λb17=>?_
 refine PS ?_;refine nx J4 (sr λ_ J5=>PS ?_);refine nx J5 (aa λ_ J6=>am ?_)
 refine bG (α:=(Nat)×(List (List UInt8))×(Int)×(Value)) (λ⟨f,rs,used,vr⟩=>Scan D f rs used∧vr.oneCell'=true) (λ⟨f,rs,used,vr⟩=>[(0,(.pointer (some ⟨d,0,none⟩))),(2,(.pointer none)),(3,(.slice none 0 0)),(4,(.int .i64 0)),(5,(.pointer (some ⟨b17,0,none⟩))),(6,vr)]) (λ⟨f,rs,used,vr⟩=>[aj b17 [(.pointer (some ⟨d,0,none⟩)),(.int .i64 (((rs.length:Nat):Int))),(.int .i64 (used))] 171,dk d (D),na 47 5 vr (rs)]) (λ⟨f,rs,used,vr⟩=>f) (jO,[],0,(.slice none 0 0))
  ⟨Scan.start D,rfl⟩ SB
  (λ_ s=>eO (List.Perm.trans (List.Perm.swap _ _ _) (List.Perm.cons _ (List.Perm.swap _ _ _))) (vF 47 5 s)) (λ⟨f,rs,used,vr⟩ hinv=>?_)
 obtain⟨hsc,hvr⟩:=hinv;obtain⟨hs1,hs2,hs3,hs4,hs5⟩:=id hsc;refine am (aa λ_ J7=>D1 0 df ?_);refine PD 0 ?_;refine PD 1 ?_;refine PD 2 ?_;refine FD 3 1 rJ aO ?_;refine LX 4 Y3 (.int .i64 (((rs.length:Nat):Int))) ?_ (hc:=by exact rfl);refine ta 5 rfl (bA rfl rfl rfl (bH (by omega) (by omega))) ?_;refine PD 6 ?_;refine PD 7 ?_;refine FD 8 2 rJ aO ?_;refine LX 9 Y3 (.int .i64 (used)) ?_ (hc:=by exact rfl);refine AL 10 ?_;refine CR QM (C1 d D (((rs.length:Nat):Int)+1) used hD (by omega) (by omega)) (SM [1]) λvR HR hR=>?_
 rcases hR with⟨hst,rfl,rfl⟩| ⟨b,all,u,hst,rfl,rfl⟩
 have hss:=Scan.stop hsc hst;refine EN (PD 11 ?_);refine PD 12 ?_;refine PD 13 ?_;refine PD 14 ?_;refine PD 15 ?_;refine PD 16 ?_;refine PD 17 ?_;refine DN (ad J7 (aa λ_ J8=>sr λ_ J9=>PS ?_));refine PS ?_;refine nx J9 (CY (aW (aA (TE.miss (by decide) (aA (bq (ad J6 (aa λ_ J10=>sr λ_ J11=>P2 ?_))))))));refine FA 2 rJ aO ?_;refine LA 1 Y3 ?_;refine PS ?_;refine nx J11 (am ?_)
 refine bG (α:=(Int)×(DS)) (λ⟨at',D'⟩=>used≤at'∧at'≤2048∧ki (2048-used).toNat used D=ki (2048-at').toNat at' D'∧D'.Ok∧D'.ws.length≤D.ws.length+(at'-used).toNat) (λ⟨at',D'⟩=>[(0,(.pointer (some ⟨d,0,none⟩))),(5,(.pointer (some ⟨b17,0,none⟩))),(6,vr),(10,(.int .i64 (at')))]) (λ⟨at',D'⟩=>[aj b17 [(.pointer (some ⟨d,0,none⟩)),(.int .i64 (((rs.length:Nat):Int))),(.int .i64 (used))] 171,dk d (D'),na 47 5 vr (rs)]) (λ⟨at',D'⟩=>(2048-at').toNat) (used,D)
  ⟨by omega,by omega,rfl,hD,by omega⟩ SB
  (λ_ s=>ak [1,0,0] rfl s) (λ⟨at',D'⟩ hinv=>?_)
 obtain⟨ha1,ha2,hwi,hD',hws⟩:=hinv;refine aa λ_ J12=>sr λ_ J13=>P2 ?_
 refine ap ?_ ?_<;>intro h59;refine nx J13 (CY (qx J12 (aa λ_ J14=>am (aa λ_ J15=>sr λ_ J16=>P2 ?_))));refine CR NK (BX d (D') at' hD' (by omega)) (SM [1]) λvR HR hR=>?_
 obtain⟨hv,rfl⟩:=hR;subst hv;refine BV ((dX zs).toArray) ?_;refine tp (PV.eqlBy (a:=((D').read at')) (b:=zs) (m:=2) OL OJ rfl OM OO ON (mR hD' _) (by decide) rfl rfl rfl) ?_;refine ap ?_ ?_<;>intro h66;refine nx J16 (CY (aW (aA (bq (ad J14 (ac (PS ?_)))))));refine AD ?_;refine PS ?_;refine au ?_
 exact aL ((at'+1,D'):(Int)×(DS)) ⟨by omega,by omega,by rw[hwi];exact Hh (by omega) h66,hD',by omega⟩ (by show(2048- (at'+1)).toNat< (2048-at').toNat;omega)
  SB
  (λ_ s=>ak [1,0,0] rfl s)
 refine nx J16 (CN (qx J15 (sr λ_ J17=>P2 ?_)));refine CQ O2 (Em d (D') at' (.slice none 0 0) ([]) hD' (by omega)) ID (λ_ _ _=> .inl (.inl ⟨rfl,rfl⟩)) λvR HR hR=>?_
 obtain⟨hv,rfl⟩:=hR;subst hv;refine PS ?_;refine nx J17 (sr λ_ J18=>P2 ?_);refine ap ?_ ?_<;>intro h71;refine nx J18 (CY (sr λ_ J19=>P4 ?_));refine nx J19 (ah (aI (ae (ae (aI (ae (WK [0] (oc rfl rfl rfl rfl ?_))))))));rw[Fx hss (hwi.trans (Hi (by omega) h66 h71)) h71];exact .inl ⟨h71,rfl,rfl⟩;refine nx J18 (CN (aR (af (ad J14 (ac (PS ?_))))));refine AD ?_;refine PS ?_;refine au ?_
 exact aL ((at'+1,(D'.write at' []).2):(Int)×(DS)) ⟨by omega,by omega,by rw[hwi];exact Lw (by omega) h66 (by simpa using h71),DS.write_ok hD' _ _,by have:=DS.write_ws (D:=D') (at':=at') (bs:=[]);omega⟩ (by show(2048- (at'+1)).toNat< (2048-at').toNat;omega)
  SB
  (λ_ s=>ak [1,0,0] rfl s)
 refine nx J13 (CN (aW (aA (aA (bq (ad J10 (aa λ_ J20=>sr λ_ J21=>PS ?_)))))));refine CR O1 (G2 d (D') hD') (SM [1]) λvR HR hR=>?_
 obtain⟨hv,rfl⟩:=hR;subst hv;refine PS ?_;refine nx J21 (sr λ_ J22=>P2 ?_);refine ap ?_ ?_<;>intro h76;refine nx J22 (CY (sr λ_ J23=>P4 ?_));refine nx J23 (ah (ae (WK [0] (oc rfl rfl rfl rfl ?_))));rw[Fw hss (hwi.trans (Co (by omega))) h76];exact .inl ⟨h76,rfl,rfl⟩;refine nx J22 (CN (qx J20 (sr λ_ J24=>?_)))
 iterate 5 refine PS ?_
 refine nx J24 (ah (WK [1,1,0] (oc rfl rfl rfl rfl ?_)));have h76':D'.sync.1=0:=by omega
 rw[GK hss (hwi.trans (Co (by omega))) h76'];exact .inr ⟨rfl,b17,vr,rfl,rfl⟩;have hro:=pw hI hD (by omega) hst;have hfa:=(mg (mR hD _) hst).1;obtain⟨f',rfl,hsn⟩:=Scan.next hI hD hsc hst;refine TL.subLen 0 rfl rfl (λhul hu=>EN (PD 11 ?_));refine PD 12 ?_;refine PD 13 ?_;refine PD 14 ?_;refine PD 15 ?_;refine PD 16 ?_;refine PD 17 ?_;refine DN (ad J7 (aa λ_ J25=>sr λ_ J26=>PS ?_));refine PS ?_;refine nx J26 (CN (qx J25 (sr λ_ J27=>P2 ?_)));refine aM (cells:=#[u]) (ab rfl) rfl rfl rfl wE Iz rfl rfl rfl (uh hu (by simp)) (λb37=>?_);change TL _ _ _ _ _ _ _ _ _ [aj b37 [u] 47,ik u (b) 5,dk d (D),aj b17 [(.pointer (some ⟨d,0,none⟩)),(.int .i64 (((rs.length:Nat):Int))),(.int .i64 (used))] 171,na 47 5 vr (rs)];refine ci (λ_ s=>aD [4] rfl s) (No (λus38=>bX (k:=0) (m:=1) (news:=[u]) (nn':=(rs).length+1) (xs':=us38++[u]) (ab rfl) rfl rfl rfl wE Iz rfl rfl rfl rfl rfl rfl (λ_ _=>gn rfl (RO 2) rfl) (List.forall_mem_cons.2 ⟨hu,λ_ h=>by cases h⟩) (by simp only[maxLen];omega) (by omega) rfl rfl (λv38 ov38=>?_)));change TL _ _ _ _ _ _ _ _ _ [own v38 ((rs).length+1) (us38++[u]) 47 1,eV us38 (rs) 5,aj b37 [u] 47,ik u (b) 5,dk d (D),aj b17 [(.pointer (some ⟨d,0,none⟩)),(.int .i64 (((rs.length:Nat):Int))),(.int .i64 (used))] 171]
 refine ci (H':=[own v38 ((rs).length+1) (us38++[u]) 47 1,eV us38 (rs) 5,ik u (b) 5,aj b37 [u] 47,dk d (D),aj b17 [(.pointer (some ⟨d,0,none⟩)),(.int .i64 (((rs.length:Nat):Int))),(.int .i64 (used))] 171]) (λ_ s=>aD [0,0,1] rfl s) (ci (λ_ s=>vH s) (PS ?_));refine nx J27 (sr λ_ J28=>P2 ?_);refine FA 1 rJ aO ?_;refine LA 3 Y3 ?_;refine tp (nd (v':=(.int .i64 ((((rs++[b]).length:Nat):Int)))) (bA rfl rfl rfl (bH (by omega) (by omega))) (congrArg (Value.int .i64) (by simp))) ?_;refine PS ?_;refine FA 1 rJ aO ?_;refine S0 3 aO ?_;refine nx J28 (ac (P2 ?_));refine FA 2 rJ aO ?_;refine LA 3 Y3 ?_;refine PS ?_;refine AD ?_;refine PS ?_;refine FA 2 rJ aO ?_;refine S0 3 aO ?_;refine au (af ?_)
 exact aL ((f',rs++[b],used+all,v38):(Nat)×(List (List UInt8))×(Int)×(Value)) ⟨hsn,ov38⟩ (Nat.lt_succ_self _)
  SB
  (λ_ s=>ak [3,2,0] rfl s)
end Go.Proofs.YtkhjnolhhidecaaGreatDoor
end

section
namespace Wal
open Go Leg Codec Api Dsk
theorem Dd(s ws:gj)(j:Int): ∀k,kY (DZ s ws k) j=jj s ws j k
 |0=>rfl
 |k+1=>by
  rw[DZ,jj,Ju,Dd s ws j k]
  by_cases h:j=(lq ws k).1
  · rw[if_pos h,if_pos h.symm]
  · rw[if_neg h,if_neg (λq=>h q.symm)]
theorem Jg{ws x:gj}{k:Nat}(h:k<ws.length):lq (ws++x) k=lq ws k:=by simp[lq,List.getD_eq_getElem?_getD,List.getElem?_append_left h]
theorem xJ{s ws x:gj}{j:Int}: ∀k,k≤ws.length→jj s (ws++x) j k=jj s ws j k
 |0,_=>rfl
 |k+1,h=>by rw[jj,jj,Jg (by omega),xJ k (by omega)]
theorem HY(s ws:gj)(p:Int×jz)(j:Int):jj s (ws++[p]) j (ws++[p]).length=if j=p.1 then p.2 else jj s ws j ws.length:=by
 rw[ag,av,az,bm,jj,xJ _ (aK _)];have:lq (ws++[p]) ws.length=p:=by simp[lq,List.getD_eq_getElem?_getD]
 rw[this]
 by_cases h:j=p.1
 · rw[if_pos h,if_pos h.symm]
 · rw[if_neg h,if_neg (λq=>h q.symm)]
def Bw(D:DS)(at':Int)(bs:List UInt8):DS:= {D with ws:=D.ws++[(at',eY bs)],lf:=if D.ar=true then D.lf-1 else D.lf,dn:=false}
theorem r9{D:DS}{at':Int}{bs:List UInt8}(h1:0≤at'∧at'<2048)(h2:bs.length≤64)(h3:D.dn=false)(h4:D.ar=false∨0<D.lf):D.write at' bs=(0,Bw D at' bs):=by
 rw[DS.write,if_neg (by omega),if_neg]
 · rfl
 · rintro (h| ⟨h,h5⟩)
   · rw[h3]at h;cases h
   · rcases h4 with h4|h4
     · rw[h4]at h;cases h
     · omega
theorem wW{D:DS}{at':Int}{bs:List UInt8}(h1:0≤at'∧at'<2048)(h2:bs.length≤64)(h4:D.ar=true∧D.lf=0):D.write at' bs=(4,{D with dn:=true}):=by
 rw[DS.write,if_neg (by omega),if_pos (.inr h4)]
theorem H4(D:DS)(at':Int)(bs:List UInt8)(j:Int):(Bw D at' bs).read j=if j=at' then eY bs else D.read j:=HY _ _ _ _
theorem Bu{D:DS}(h:D.Ok){at':Int}{bs:List UInt8}(h2:bs.length≤64)(h4:D.ar=false∨0<D.lf):(Bw D at' bs).Ok:=by
 refine⟨h.s,h.ws.add _ (dT h2),?_⟩;have:=h.lf;show 0≤(if D.ar=true then D.lf-1 else D.lf)∧(if D.ar=true then D.lf-1 else D.lf)≤9223372036854775807;split
 · rename_i h5
   rcases h4 with h4|h4
   · rw[h4]at h5;cases h5
   · omega
 · exact this
theorem Bv{D:DS}(h:Wal.DS.In D){at':Int}{bs:List UInt8}(h1:0≤at'∧at'<2048):Wal.DS.In (Bw D at' bs):=⟨h.1,λp hp=>by
 rcases fw.1 hp with hp|hp
 · exact h.2 p hp
 · simp only[hX]at hp;subst hp;exact h1⟩
theorem In.put{s:gj}(h:In s){k:Int}{v:jz}(h1:0≤k∧k<2048):In (oW s k v):=by
 induction s with
 |nil=>intro p hp;simp only[oW,hX]at hp;subst hp;exact h1
 |cons p s ih=>
  obtain⟨a,b⟩:=p;intro q hq;simp only[oW]at hq;split at hq
  · rcases bU.1 hq with rfl|hq
    · exact h (a,b) (by simp)
    · exact h q (by simp[hq])
  · rcases bU.1 hq with rfl|hq
    · exact h (a,b) (by simp)
    · exact ih (λq hq=>h q (by simp[hq])) q hq
theorem In.lay{s ws:gj}(h:In s)(hw:In ws): ∀k,k≤ws.length→In (DZ s ws k)
 |0,_=>h
 |k+1,hk=>by
  have:=hw (lq ws k) (by rw[w5 (by omega)];exact ez _);exact(In.lay h hw k (by omega)).put this
theorem In.crash{mask torn:Int}{c:Nat}{s ws:gj}(h:In s)(hw:In ws): ∀k,k≤ws.length→In (n4 mask torn c s ws k)
 |0,_=>h
 |k+1,hk=>by
  have h1:=hw (lq ws k) (by rw[w5 (by omega)];exact ez _);have ih:=In.crash (mask:=mask) (torn:=torn) (c:=c) h hw k (by omega);simp only[n4,nE];split
  · exact ih.put h1
  · split
    · exact ih.put h1
    · exact ih
theorem In.nil:In []:=λ_ h=>absurd h (by simp)
abbrev RY:= @In.nil
structure Calm(D:DS):Prop where
 ok:D.Ok
 inn:Wal.DS.In D
 ar:D.ar=false
 dn:D.dn=false
theorem Calm.crash{D:DS}(h:D.Ok)(hi:Wal.DS.In D)(mask torn n:Int):Calm (D.crash mask torn n):=⟨DS.crash_ok h _ _ _,⟨hi.1.crash hi.2 _ (aK _),RY⟩,rfl,rfl⟩
theorem zI{D:DS}(h:D.dn=false)(j:Int):D.sync.2.read j=D.read j:=by
 unfold DS.sync;rw[if_neg (by simp[h])];exact Dd _ _ _ _
theorem rq{D:DS}(h:D.dn=false):D.sync.1=0∧D.sync.2.ws=[]∧D.sync.2.dn=false∧D.sync.2.ar=D.ar∧D.sync.2.lf=D.lf:=by
 unfold DS.sync;rw[if_neg (by simp[h])];exact⟨rfl,rfl,h,rfl,rfl⟩
theorem A9{D:DS}(h:Wal.DS.In D):Wal.DS.In D.sync.2:=by
 unfold DS.sync;split
 · exact h
 · exact⟨h.1.lay h.2 _ (aK _),RY⟩
theorem Calm.sync{D:DS}(h:Calm D):Calm D.sync.2:=by
 obtain⟨_,_,h3,h4,_⟩:=rq h.dn;exact⟨DS.sync_ok h.ok,A9 h.inn,h4.trans h.ar,h3⟩
theorem Calm.put{D:DS}(h:Calm D){at':Int}{bs:List UInt8}(h1:0≤at'∧at'<2048)(h2:bs.length≤64):Calm (Bw D at' bs):=⟨Bu h.ok h2 (.inl h.ar),Bv h.inn h1,h.ar,rfl⟩
theorem JP:eY []=zs:=rfl
theorem uF: ∀(n:Nat) (at':Int) (D:DS),Calm D→0≤at'→at'+n≤2048→∃D',ki n at' D=(0,D')∧Calm D'∧∀j,D'.read j=if at'≤j∧j<at'+n then zs else D.read j
 |0,at',D,h,_,_=>⟨D,rfl,h,λj=>by rw[if_neg (by omega)]⟩
 |n+1,at',D,h,h0,h1=>by
  by_cases hz:D.read at'=zs
  · obtain⟨D',e,c,r⟩:=uF n (at'+1) D h (by omega) (by omega)
    refine⟨D',by rw[ki,if_pos hz,e],c,λj=>?_⟩;rw[r j]
    by_cases q:j=at'
    · subst q;rw[if_neg (by omega),if_pos (by omega),hz]
    · by_cases q2:at'+1≤j∧j<at'+1+n
      · rw[if_pos q2,if_pos (by omega)]
      · rw[if_neg q2,if_neg (by omega)]
  · have hw:=r9 (D:=D) (at':=at') (bs:=[]) (by omega) (by simp) h.dn (.inl h.ar)
    obtain⟨D',e,c,r⟩:=uF n (at'+1) (Bw D at' []) (h.put (by omega) (by simp)) (by omega) (by omega);refine⟨D',by rw[ki,if_neg hz,hw,if_pos rfl,e],c,λj=>?_⟩;rw[r j,H4,JP]
    by_cases q:j=at'
    · subst q;rw[if_neg (by omega),if_pos rfl,if_pos (by omega)]
    · rw[if_neg q]
      by_cases q2:at'+1≤j∧j<at'+1+n
      · rw[if_pos q2,if_pos (by omega)]
      · rw[if_neg q2,if_neg (by omega)]
theorem HK{D:DS}(h:Calm D):0≤(gJ D.read jO 0 0).2∧(gJ D.read jO 0 0).2≤2048∧((gJ D.read jO 0 0).1.length:Int)≤(gJ D.read jO 0 0).2:=by
 have key: ∀f rs used,Scan D f rs used→∃rs' used',gJ D.read jO 0 0=(rs',used')∧0≤used'∧used'≤2048∧(rs'.length:Int)≤used':=by
  intro f
  induction f with
  |zero=>
   intro rs used hs;cases hst:gD D.read ((rs.length:Int)+1) used with
   |none=>exact⟨rs,used,hs.stop hst,hs.2.1,hs.2.2.1,hs.2.2.2.2⟩
   |some p=>obtain⟨b,all⟩:=p;obtain⟨f',e,_⟩:=Scan.next h.inn h.ok hs hst;omega
  |succ f ih=>
   intro rs used hs;cases hst:gD D.read ((rs.length:Int)+1) used with
   |none=>exact⟨rs,used,hs.stop hst,hs.2.1,hs.2.2.1,hs.2.2.2.2⟩
   |some p=>
    obtain⟨b,all⟩:=p;obtain⟨f',e,hs'⟩:=Scan.next h.inn h.ok hs hst;obtain rfl:f=f':=by omega
    exact ih _ _ hs'
 obtain⟨rs,used,e,h1,h2,h3⟩:=key _ _ _ (Scan.start D);rw[e];exact⟨h1,h2,h3⟩
theorem Ii{D:DS}(h:Calm D): ∃D',bY D=⟨0,(gJ D.read jO 0 0).1,(gJ D.read jO 0 0).2,D'⟩∧Calm D'∧D'.ws=[]∧∀j,D'.read j=if(gJ D.read jO 0 0).2≤j∧j<2048 then zs else D.read j:=by
 obtain⟨h1,h2,_⟩:=HK h;generalize hr:gJ D.read jO 0 0=r at*;obtain⟨rs,used⟩:=r;simp only at h1 h2 ⊢;obtain⟨D',e,c,rd⟩:=uF (2048-used).toNat used D h h1 (by omega);obtain⟨s1,s2,_⟩:=rq c.dn;refine⟨D'.sync.2,GK hr e s1,c.sync,s2,λj=>?_⟩;rw[zI c.dn,rd j]
 by_cases q:used≤j∧j<2048
 · rw[if_pos q,if_pos (by omega)]
 · rw[if_neg q,if_neg (by omega)]
def jv:Nat→List (List UInt8)→List jz
 |_,[]=>[]
 |n,b::ls=>cq ((n+1:Nat):Int) b++jv (n+1) ls
def fN(ls:List (List UInt8)):Nat:=(jv 0 ls).length
theorem pK: ∀(a:List (List UInt8)) (n:Nat) (b:List (List UInt8)),jv n (a++b)=jv n a++jv (n+a.length) b
 | [],n,b=>by simp[jv]
 |x::a,n,b=>by
  simp only[kP,jv,pK a (n+1) b,aG,av];rw[show n+1+a.length=n+(a.length+1)by omega]
theorem Aw: ∀(ls:List (List UInt8)) (n m:Nat),(jv n ls).length=(jv m ls).length
 | [],_,_=>rfl
 |b::ls,n,m=>by simp only[jv,ag,dY,Aw ls (n+1) (m+1)]
theorem zN(ls:List (List UInt8))(b:List UInt8):fN (ls++[b])=fN ls+br b.length:=by
 simp[fN,pK,jv,dY]
theorem Db: ∀ls:List (List UInt8),ls.length≤fN ls
 | []=>aK _
 |b::ls=>by
  have h1:=Db ls;have h2:=qI b.length;have h3:=Aw ls 1 0;simp only[fN,jv,ag,dY,av,h3]at*;omega
theorem Bk{number:Int}{b:List UInt8}{k:Nat}(h:k< (cq number b).length):(cq number b)[k]=qC number k (br b.length) (hY b k):=by simp[cq]
theorem tE(number:Int)(b:List UInt8): ∀s∈cq number b,s.length=64:=λs hs=>by
 obtain⟨i,_,rfl⟩:=gl.1 hs;exact HI (uU b i)
theorem xQ{number:Int}{b:List UInt8}{k:Nat}(h:k< (cq number b).length)(h0:0≤number)(h1:number<4294967296)(hb:b.length≤3000):fS (cq number b)[k] number k=some (hY b k,((br b.length:Nat):Int)):=by
 rw[Bk h];rw[dY]at h;exact DD (uU b k) h0 h1 h (by have:=pA hb;omega)
theorem Am{rd:Int→jz}{number at':Int}{b:List UInt8}(h0:0≤number)(h1:number<4294967296)(hb:b.length≤3000): ∀k,k≤br b.length→(∀j (h:j< (cq number b).length),j<k→rd (at'+j)=(cq number b)[j])→
 lL rd number at' ((br b.length:Nat):Int) k=some ((List.range k).map (hY b)).flatten
 |0,_,_=>rfl
 |k+1,hk,h=>by
  have ih:=Am h0 h1 hb k (by omega) (λj hj hj2=>h j hj (by omega));have hl:k< (cq number b).length:=by rw[dY];omega
  rw[x7 ih (by rw[h k hl (by omega)];exact xQ hl h0 h1 hb)];simp[cO]
theorem C0{rd:Int→jz}{number at':Int}{b:List UInt8}(h0:0≤number)(h1:number<4294967296)(hb:b.length≤3000)(h: ∀j (h:j< (cq number b).length),rd (at'+j)=(cq number b)[j]):gD rd number at'=some (b,((br b.length:Nat):Int)):=by
 have hl:0< (cq number b).length:=by rw[dY];exact qI _
 have hp:fS (rd at') number 0=some (hY b 0,((br b.length:Nat):Int)):=by
  have e:=h 0 hl;rw[show at'+((0:Nat):Int)=at' by omega]at e;rw[e];exact xQ hl h0 h1 hb
 refine tA hp ?_;rw[Ll,Am h0 h1 hb _ (aK _) (λj hj _=>h j hj),Ia b _ (y1 _)]
def Shows(rd:Int→jz)(at':Int)(l:List jz):Prop:=∀j (h:j<l.length),rd (at'+j)=l[j]
theorem Shows.left{rd:Int→jz}{at':Int}{a b:List jz}(h:Shows rd at' (a++b)):Shows rd at' a:=λj hj=>by
 rw[h j (by rw[ag];omega),Ry hj]
theorem Shows.right{rd:Int→jz}{at':Int}{a b:List jz}(h:Shows rd at' (a++b)):Shows rd (at'+a.length) b:=λj hj=>by
 have:=h (a.length+j) (by rw[ag];omega);rw[show at'+((a.length+j:Nat):Int)=at'+a.length+j by omega]at this;rw[this,Qu (by omega)];congr 1;omega
theorem Dm{rd:Int→jz}: ∀(ls:List (List UInt8)) (n:Nat) (at':Int) (f:Nat),(∀b∈ls,b.length≤3000)→n+ls.length<4294967296→Shows rd at' (jv n ls)→
 gJ rd (ls.length+f) n at'=(ls++(gJ rd f ((n+ls.length:Nat):Int) (at'+(jv n ls).length)).1,(gJ rd f ((n+ls.length:Nat):Int) (at'+(jv n ls).length)).2)
 | [],n,at',f,_,_,_=>by simp[jv]
 |b::ls,n,at',f,hl,hn,h=>by
  simp only[jv]at h ⊢;simp only[av]at hn ⊢;have hs:=C0 (rd:=rd) (number:=((n+1:Nat):Int)) (at':=at') (by omega) (by omega) (hl b (by simp)) h.left;have ih:=Dm (rd:=rd) ls (n+1) (at'+(cq ((n+1:Nat):Int) b).length) f (λx hx=>hl x (by simp[hx])) (by omega) h.right;rw[dY]at ih;rw[show ls.length+1+f=(ls.length+f)+1 by omega,GF (b:=b) (all:=((br b.length:Nat):Int)) (by rw[←hs];congr 1)];rw[show((n:Nat):Int)+1=((n+1:Nat):Int)by omega,ih];rw[ag,dY,show n+1+ls.length=n+(ls.length+1)by omega,show at'+((br b.length+(jv (n+1) ls).length:Nat):Int)=at'+((br b.length:Nat):Int)+(((jv (n+1) ls).length:Nat):Int)by omega];simp
structure LogD(D:DS)(ls:List (List UInt8)):Prop where
 ok:D.Ok
 inn:Wal.DS.In D
 ws:D.ws=[]
 short: ∀b∈ls,b.length≤3000
 room:fN ls≤2048
 shows:Shows D.read 0 (jv 0 ls)
 zero: ∀j,((fN ls:Nat):Int)≤j→D.read j=zs
theorem LogD.len{D:DS}{ls:List (List UInt8)}(h:LogD D ls):ls.length≤2048:=by have:=Db ls;have:=h.room;omega
theorem Hy{rd:Int→jz}{number at':Int}(h:(rd at').getD 63 0≠1):gD rd number at'=none:=rO (sz h)
theorem Nr:zs.getD 63 0≠1:=by decide
theorem LogD.scan{D:DS}{ls:List (List UInt8)}(h:LogD D ls):gJ D.read jO 0 0=(ls,((fN ls:Nat):Int)):=by
 have hl:=h.len;obtain⟨f,hf⟩: ∃f,jO=ls.length+f:=⟨jO-ls.length,by rw[ua];omega⟩;have:=Dm (rd:=D.read) ls 0 0 f h.short (by omega) h.shows;rw[←hf]at this;rw[show((0:Nat):Int)=0 from rfl]at this;have hz:=h.zero _ (Int.le_refl _);simp only[fN]at hz;rw[this,Int.zero_add,zR (Hy (by rw[hz];exact Nr))];simp[fN]
theorem LogD.new:LogD DS.new []:=⟨DS.new_ok,⟨RY,RY⟩,rfl,λ_ h=>absurd h (by simp),by decide,λj h=>absurd h (by simp[jv]),λj _=>rfl⟩
theorem LogD.open{D:DS}{ls:List (List UInt8)}(h:LogD D ls)(ha:D.ar=false)(hd:D.dn=false): ∃D',bY D=⟨0,ls,((fN ls:Nat):Int),D'⟩∧LogD D' ls∧D'.ar=false∧D'.dn=false:=by
 obtain⟨D',e,c,hw,hr⟩:=Ii (D:=D) ⟨h.ok,h.inn,ha,hd⟩;rw[h.scan]at e hr
 have hrd: ∀j,D'.read j=D.read j:=λj=>by
  rw[hr j];split
  · rename_i q;rw[h.zero j q.1]
  · rfl
 exact⟨D',e,⟨c.ok,c.inn,hw,h.short,h.room,λj hj=>by rw[hrd];exact h.shows j hj,λj hj=>by rw[hrd];exact h.zero j hj⟩,c.ar,c.dn⟩
def wq:Int→List jz→gj
 |_,[]=>[]
 |at',s::ss=>(at',s)::wq (at'+1) ss
theorem Ci: ∀(ss:List jz) (at':Int),(wq at' ss).length=ss.length
 | [],_=>rfl
 |s::ss,at'=>by simp[wq,Ci ss]
theorem Cu: ∀(ss:List jz) (at':Int) (k:Nat) (h:k<ss.length),lq (wq at' ss) k=(at'+k,ss[k])
 |s::ss,at',0,_=>by simp[wq,lq]
 |s::ss,at',k+1,h=>by
  have ih:=Cu ss (at'+1) k (by simpa using h);simp only[lq,wq,List.getD_cons_succ]at ih ⊢;rw[ih];simp only[RX,Prod.mk.injEq,and_true];omega
theorem Ib{s:jz}(h:s.length=64):eY s=s:=by simp[eY,h]
theorem vz: ∀(ss:List jz) (at':Int) (D:DS),D.Ok→Wal.DS.In D→D.dn=false→0≤at'→at'+ss.length≤2048→(∀s∈ss,s.length=64)→
 ∃(m:Nat) (D':DS),m≤ss.length∧gQ ss at' D=((if m=ss.length then 0 else 4),D')∧D'.Ok∧Wal.DS.In D'∧D'.s=D.s∧D'.ws=D.ws++wq at' (ss.take m)∧D'.dn=decide (m<ss.length)∧D'.ar=D.ar∧(D.ar=false→m=ss.length)
 | [],at',D,h,hi,hd,_,_,_=>⟨0,D,aK _,rfl,h,hi,rfl,by simp[wq],by simp[hd],rfl,λ_=>rfl⟩
 |s::ss,at',D,h,hi,hd,h0,h1,hs=>by
  simp only[av]at h1;have hs1:=hs s (by simp)
  by_cases hc:D.ar=true∧D.lf=0
  · have hw:=wW (D:=D) (at':=at') (bs:=s) (by omega) (by omega) hc
    refine⟨0,{D with dn:=true},aP _,?_,⟨h.s,h.ws,h.lf⟩,hi,rfl,by simp[wq],by simp,rfl,λq=>by rw[q]at hc;cases hc.1⟩;rw[gQ,hw];simp
  · have h4:D.ar=false∨0<D.lf:=by
     have:=h.lf;cases q:D.ar
     · exact .inl rfl
     · right
       have:D.lf≠0:=λe=>hc ⟨q,e⟩
       omega
    have hw:=r9 (D:=D) (at':=at') (bs:=s) (by omega) (by omega) hd h4;obtain⟨m,D',a1,a2,a3,a4,a5,a6,a7,a8,a9⟩:=vz ss (at'+1) (Bw D at' s) (Bu h (by omega) h4) (Bv hi (by omega)) rfl (by omega) (by omega) (λx hx=>hs x (by simp[hx]));refine⟨m+1,D',by simp;omega,?_,a3,a4,a5.trans rfl,?_,by rw[a7];simp,a8.trans rfl,λq=>by rw[a9 q];rfl⟩
    · rw[gQ,hw]
      simp only[if_true,a2,av,Nat.add_right_cancel_iff]
    · rw[a6]
      simp only[Bw,List.take_succ_cons,wq,Ib hs1,aG,kP,ba]
theorem Shows.append{rd:Int→jz}{at':Int}{a b:List jz}(h:Shows rd at' a)(g:Shows rd (at'+a.length) b):Shows rd at' (a++b):=λj hj=>by
 by_cases q:j<a.length
 · rw[Ry q];exact h j q
 · rw[Qu (by omega),←g (j-a.length) (by rw[ag]at hj;omega)]
   congr 1;omega
theorem zX(s:gj)(l:List jz)(at' j:Int): ∀k,k≤l.length→jj s (wq at' l) j k=if at'≤j∧j<at'+k then l.getD (j-at').toNat zs else kY s j
 |0,_=>by rw[if_neg (by omega)];rfl
 |k+1,hk=>by
  rw[jj,Cu l at' k (by omega),zX s l at' j k (by omega)]
  by_cases q:at'+k=j
  · rw[if_pos q,if_pos (by omega),show(j-at').toNat=k by omega]
    simp[List.getD_eq_getElem?_getD,show k<l.length by omega]
  · rw[if_neg q]
    by_cases q2:at'≤j∧j<at'+k
    · rw[if_pos q2,if_pos (by omega)]
    · rw[if_neg q2,if_neg (by omega)]
structure Half(D:DS)(ls:List (List UInt8))(bs:List UInt8):Prop where
 ok:D.Ok
 inn:Wal.DS.In D
 short: ∀b∈ls,b.length≤3000
 short':bs.length≤3000
 room:fN ls+br bs.length≤2048
 shows:Shows (kY D.s) 0 (jv 0 ls)
 zero: ∀j,((fN ls:Nat):Int)≤j→kY D.s j=zs
 ws: ∃m,m≤br bs.length∧D.ws=wq ((fN ls:Nat):Int) ((cq ((ls.length+1:Nat):Int) bs).take m)
theorem LogD.rds{D:DS}{ls:List (List UInt8)}(h:LogD D ls)(j:Int):D.read j=kY D.s j:=by rw[DS.read,h.ws];rfl
theorem JK{D:DS}{ls:List (List UInt8)}{bs:List UInt8}(h:LogD D ls)(hd:D.dn=false)(hb:bs.length≤3000):
 (2048<fN ls+br bs.length∧mz D ls.length ((fN ls:Nat):Int) bs=⟨3,ls.length,((fN ls:Nat):Int),D⟩)∨
 (fN ls+br bs.length≤2048∧∃D',mz D ls.length ((fN ls:Nat):Int) bs=⟨0,ls.length+1,((fN (ls++[bs]):Nat):Int),D'⟩∧LogD D' (ls++[bs])∧D'.dn=false∧D'.ar=D.ar)∨
 (D.ar=true∧∃D',mz D ls.length ((fN ls:Nat):Int) bs=⟨4,ls.length,((fN ls:Nat):Int),D'⟩∧Half D' ls bs):=by
 have hl:=h.len;have hp:=pA hb
 by_cases hr:2048<fN ls+br bs.length
 · exact .inl ⟨hr,Dx (by omega) (by omega)⟩
 · right
   have hss:(cq ((ls.length+1:Nat):Int) bs).length=br bs.length:=dY _ _;obtain⟨m,D',a1,a2,a3,a4,a5,a6,a7,a8,a9⟩:=vz (cq ((ls.length+1:Nat):Int) bs) ((fN ls:Nat):Int) D h.ok h.inn hd (by omega) (by rw[hss];omega) (tE _ _);rw[hss]at a1 a2 a7 a9;rw[h.ws,ba]at a6
   by_cases hm:m=br bs.length
   · left
     subst hm;rw[if_pos rfl]at a2;have hdn:D'.dn=false:=by rw[a7];simp
     obtain⟨s1,s2,s3,s4,s5⟩:=rq hdn;rw[aC (by rw[hss];exact aK _)]at a6
     have hrd: ∀j,D'.sync.2.read j=if((fN ls:Nat):Int)≤j∧j< ((fN ls:Nat):Int)+br bs.length then(cq ((ls.length+1:Nat):Int) bs).getD (j- ((fN ls:Nat):Int)).toNat zs else D.read j:=λj=>by
      rw[zI hdn,DS.read,a6,Ci,zX _ _ _ _ _ (aK _),hss,a5,h.rds]
     have hsz:=zN ls bs;refine⟨by omega,D'.sync.2,?_,⟨DS.sync_ok a3,A9 a4,s2,λb hb'=>?_,by omega,?_,λj hj=>?_⟩,s3,s4.trans a8⟩
     · rw[put_ok (by omega) (by omega) a2 s1,hsz]
       simp only[PutR.mk.injEq,true_and,and_true];omega
     · rcases fw.1 hb' with hb'|hb'
       · exact h.short b hb'
       · simp only[hX]at hb';subst hb';exact hb
     · rw[pK]
       refine Shows.append (λj hj=>?_) λj hj=>?_
       · rw[hrd,if_neg (by simp only[fN];omega)];exact h.shows j hj
       · simp only[jv,aY,bm]at hj ⊢
         rw[hrd,if_pos (by simp only[fN];rw[hss]at hj;omega),show(0+(((jv 0 ls).length:Nat):Int)+(j:Int)- ((fN ls:Nat):Int)).toNat=j by simp only[fN];omega];rw[List.getD_eq_getElem?_getD,List.getElem?_eq_getElem hj];rfl
     · rw[hrd,if_neg (by omega)]
       exact h.zero j (by omega)
   · right
     have har:D.ar=true:=by
      cases q:D.ar
      · exact absurd (a9 q) hm
      · rfl
     rw[if_neg hm]at a2;refine⟨har,D',Ab (by omega) (by omega) a2 (by decide),⟨a3,a4,h.short,hb,by omega,λj hj=>?_,λj hj=>?_,m,a1,a6⟩⟩
     · rw[a5,←h.rds];exact h.shows j hj
     · rw[a5,←h.rds];exact h.zero j hj
end Wal
end

section
namespace Go.Proofs.YtkhjnolhhidecaaGreatDoor
open Go Leg Codec Api
theorem EX(wb b off cap:Nat)(v:Value)(bs:List UInt8)(l:List Int)(cs:List Value)(T:TypeId)(z:Nat×Nat)(hlen:bs.length+10*l.length≤140737488355328)(hb: ∀j,j<l.length→cs[off+j]?=some (.int .i64 (l.getD j 0))):
 DT 165 #[(.pointer (some ⟨wb,0,none⟩)),(.slice (some ⟨b,off,none⟩) (l.length) (cap))] (λF=>F b=some (.cells cs.toArray T z)) [aj wb [v] 239,cH v (bs) 5] (qZ 239 5 wb (bs++bh l)):=by
 refine BD 45 Tryz.func165 rfl rfl rfl λw0 F hF=>sr λ_ J1=>PS ?_
 refine nx J1 (aa λ_ J2=>sr λ_ J3=>PS ?_);refine tp (q8 rfl eh rfl) ?_;refine PS ?_;refine nx J3 (am ?_)
 refine bG (α:=(Nat)×(Value)×(List UInt8)) (λ⟨k,u,laid⟩=>k≤l.length∧laid++bh (l.drop k)=bs++bh l) (λ⟨k,u,laid⟩=>[(0,(.pointer (some ⟨wb,0,none⟩))),(4,(.pointer none)),(8,(.slice (some ⟨b,off,none⟩) (l.length) (cap))),(9,(.int .i64 (((l.length:Nat):Int)))),(10,(.int .i64 ((k:Nat))))]) (λ⟨k,u,laid⟩=>[aj wb [u] 239,cH u (laid) 5]) (λ⟨k,u,laid⟩=>l.length-k) (0,v,bs)
  ⟨by omega,rfl⟩ SB
  (λ_ s=>s) (λ⟨k,u,laid⟩ hinv=>?_)
 obtain⟨hk,hL⟩:=hinv;refine sr λ_ J4=>PS ?_
 refine ap ?_ ?_<;>intro h11;refine nx J4 (aa λ_ J5=>CY (qx J5 (aa λ_ J6=>am (sr λ_ J7=>tp (kh (r:=off+k) rfl eh aO rfl rfl (by first|omega|decide) (by first|omega|decide) (by omega)) ?_))));refine tp (fL (v:=(.int .i64 ((l.getD k 0)))) rfl Y3 rfl rfl (Rd.ro hF) (hb k (by omega))) ?_;refine PS ?_;refine nx J7 (sr λ_ J8=>PS ?_);refine tp (cD (r:=((((l.getD k 0%18446744073709551616).toNat:Nat)):Int)) rfl Y3 Tryz.underlying255 rfl (AT _)) ?_;refine PS ?_;refine nx J8 (aa λ_ J9=>am ?_)
 refine bG (α:=(Nat)×(Value)×(List UInt8)) (λ⟨m,u2,laid2⟩=>laid2++(wy m++bh (l.drop (k+1)))=bs++bh l) (λ⟨m,u2,laid2⟩=>[(0,(.pointer (some ⟨wb,0,none⟩))),(4,(.pointer none)),(7,(.int .u64 ((m:Nat)))),(8,(.slice (some ⟨b,off,none⟩) (l.length) (cap))),(9,(.int .i64 (((l.length:Nat):Int)))),(10,(.int .i64 ((k:Nat))))]) (λ⟨m,u2,laid2⟩=>[aj wb [u2] 239,cH u2 (laid2) 5]) (λ⟨m,u2,laid2⟩=>m) ((l.getD k 0%18446744073709551616).toNat,u,laid)
  (by rw[←hL,IJ (l:=l) (k:=k) (by omega)];rfl) SB
  (λ_ s=>s) (λ⟨m,u2,laid2⟩ hinv=>?_)
 have hM:=hinv;refine aa λ_ J10=>sr λ_ J11=>P2 ?_
 refine ap ?_ ?_<;>intro h17;refine nx J11 (CY (qx J10 (am (sr λ_ J12=>P3 ?_))));refine FA 0 La lF ?_;refine LA 0 fO ?_;refine PS ?_;refine tp (cD (r:=(IntKind.u8.wrap ((m:Nat):Int))) rfl Tryz.underlying255 Y5 rfl rfl) ?_;refine tp (He (r:=(((UInt8.ofNat (m%128+128)).toNat:Nat):Int)) rfl rfl rfl (OU m)) ?_;refine aM (cells:=#[(.int .u8 ((((UInt8.ofNat (m%128+128)).toNat:Nat):Int)))]) (ab rfl) rfl rfl rfl fO uD rfl rfl rfl (by as_aux_lemma=>kernel_rfl) (λb26=>bX (k:=2) (news:=dX ([(UInt8.ofNat (m%128+128))])) (nn':=(laid2++[(UInt8.ofNat (m%128+128))]:List UInt8).length) (xs':=dX (laid2++[(UInt8.ofNat (m%128+128))])) (ab rfl) rfl rfl rfl fO uD rfl rfl rfl rfl rfl rfl (λ_ _=>gn rfl (RO 0) rfl) (ff [(UInt8.ofNat (m%128+128))]) (by have:=congrArg List.length hM;have:=aZ l;have:=qS m;simp only[ag,maxLen]at*;omega) (by have:=congrArg List.length hM;have:=aZ l;have:=qS m;simp only[ag]at*;omega) (by simp) (gE _ _).symm (λv27 ov27=>PS ?_));refine FA 0 La lF ?_;refine bK (i:=1) (ab rfl) rfl rfl rfl rfl ov27 lF rfl rfl (lb rfl) rfl rfl (nx J12 (ac (PS ?_)));refine tp (iF (r:=((m / 128:Nat):Int)) rfl rfl rfl (by omega) (QC m)) ?_;refine PS ?_;refine au (af ?_)
 exact aL ((m / 128,v27,laid2++[(UInt8.ofNat (m%128+128))]):(Nat)×(Value)×(List UInt8)) (by rw[←hM,ui (by omega)];simp) (by show m / 128<m;omega)
  SB
  (λ_ s=>ak [1,1] rfl s)
 refine nx J11 (CN (aW (aA (aA (bq (ad J9 (ac (P3 ?_))))))));refine FA 0 La lF ?_;refine LA 0 fO ?_;refine PS ?_;refine tp (cD (r:=(((UInt8.ofNat m).toNat:Nat):Int)) rfl Tryz.underlying255 Y5 rfl (MJ (by omega))) ?_;refine aM (cells:=#[(.int .u8 ((((UInt8.ofNat m).toNat:Nat):Int)))]) (ab rfl) rfl rfl rfl fO uD rfl rfl rfl (by as_aux_lemma=>kernel_rfl) (λb39=>bX (k:=2) (news:=dX ([(UInt8.ofNat m)])) (nn':=(laid2++[(UInt8.ofNat m)]:List UInt8).length) (xs':=dX (laid2++[(UInt8.ofNat m)])) (ab rfl) rfl rfl rfl fO uD rfl rfl rfl rfl rfl rfl (λ_ _=>gn rfl (RO 0) rfl) (ff [(UInt8.ofNat m)]) (by have:=congrArg List.length hM;have:=aZ l;have:=qS m;simp only[ag,maxLen]at*;omega) (by have:=congrArg List.length hM;have:=aZ l;have:=qS m;simp only[ag]at*;omega) (by simp) (gE _ _).symm (λv40 ov40=>PS ?_));refine FA 0 La lF ?_;refine bK (i:=1) (ab rfl) rfl rfl rfl rfl ov40 lF rfl rfl (lb rfl) rfl rfl (au (af (ad J6 (ac (AD ?_)))));refine PS ?_;refine au ?_
 exact aL ((k+1,v40,laid2++[(UInt8.ofNat m)]):(Nat)×(Value)×(List UInt8)) ⟨by omega,by rw[←hM,rA (by omega)];simp⟩ (by show _-_<_-_;omega)
  SB
  (λ_ s=>ak [1,1] rfl s)
 refine nx J4 (aa λ_ J13=>CN (aW (aA (aA (bq (ad J2 (sr λ_ J14=>P2 ?_)))))));refine nx J14 (ah (WK [0,0] (aw rfl rfl ?_)));obtain rfl:laid=bs++bh l:=by rw[←hL,dV (by omega)];simp[bh]
 exact⟨u,rfl,rfl⟩
theorem Jb(wb:Nat)(v:Value)(bs:List UInt8):
 DT 165 #[(.pointer (some ⟨wb,0,none⟩)),(.slice none 0 0)] T0 [aj wb [v] 239,cH v (bs) 5] (qZ 239 5 wb (bs++bh [])):=by
 refine BD 45 Tryz.func165 rfl rfl rfl λw0 F hF=>sr λ_ J1=>PS ?_
 refine nx J1 (aa λ_ J2=>sr λ_ J3=>PS ?_);refine tp (q8 rfl eh rfl) ?_;refine PS ?_;refine nx J3 (am ?_)
 refine bG (α:=Unit) (λ_u=>True) (λ_u=>[(0,(.pointer (some ⟨wb,0,none⟩))),(4,(.pointer none)),(8,(.slice none 0 0)),(9,(.int .i64 0)),(10,(.int .i64 0))]) (λ_u=>[aj wb [v] 239,cH v (bs) 5]) (λ_u=>0) ()
  trivial SB
  (λ_ s=>s) (λ_u hinv=>?_)
 obtain _:=hinv;refine sr λ_ J4=>PS ?_
 refine nx J4 (aa λ_ J5=>CN (aW (aA (aA (bq (ad J2 (sr λ_ J6=>P2 ?_)))))));refine nx J6 (ah (aw rfl rfl ?_));exact⟨v,rfl,by rw[jl,aY]⟩
theorem ej(wb:Nat)(v:Value)(bs:List UInt8)(x:Value)(l:List Int)(hlen:bs.length+10*l.length≤140737488355328):DT 165 #[(.pointer (some ⟨wb,0,none⟩)),x] (Rz x l) [aj wb [v] 239,cH v bs 5] (qZ 239 5 wb (bs++bh l)):=by
 refine Leg.Does.of λF hF=>?_
 rcases id hF with⟨rfl,rfl⟩| ⟨b,off,cap,cs,T,z,rfl,h3,h4⟩
 · exact⟨_,trivial,Jb wb v bs⟩
 · exact⟨_,h3,EX wb b off cap v bs l cs T z hlen h4⟩
theorem eM(wb:Nat)(v:Value)(bs:List UInt8)(hlen:bs.length≤140737488355328):
 DT 170 #[(.pointer (some ⟨wb,0,none⟩))] T0 [aj wb [v] 239,cH v (bs) 5] (dG (λx H=>∃u,x=u∧H=[aj wb [v] 239,cH v bs 5,cH u bs 5])):=by
 refine Leg.Does.body (vs:=[(.pointer (some ⟨wb,0,none⟩))]) (n:=9) Tryz.func170 rfl rfl rfl (λw0 F hF=>?_);refine sr λ_ J1=>?_
 refine qh ?_;refine nx J1 ?_;refine sr λ_ J2=>?_
 refine EJ (ab rfl) rfl rfl rfl fO kx (λv3=>?_);change TL _ _ _ _ _ _ _ _ _ [cH v3 ([]) 5,aj wb [v] 239,cH v (bs) 5];refine mv ?_;refine tp (gU rfl rfl) ?_;refine tp (bc (r:=0) rfl La rfl lF rfl rfl) ?_;refine tp (fL (v:=v) rfl fO rfl rfl (fC 1 rfl rfl) rfl) ?_;refine bX (k:=0) (news:=dX (bs)) (nn':=(bs:List UInt8).length) (xs':=dX (bs)) (ab rfl) rfl rfl rfl fO uD rfl rfl rfl rfl rfl rfl (λ_ s=>Ld 2 rfl rfl s) (ff _) (by simp only[maxLen,av,az];omega) (by simp only[av,az];omega) (by simp) (ba _) (λv8 ov8=>?_);change TL _ _ _ _ _ _ _ _ _ [cH v8 (bs) 5,aj wb [v] 239,cH v (bs) 5];refine qh ?_;refine nx J2 ?_;refine ah ?_;refine aE (dN _) (λ_ s=>ak [1,1,0] rfl s) ?_;refine aw rfl rfl ?_;exact⟨v8,rfl,rfl⟩
theorem Ch(wb:Nat)(v:Value)(bs:List UInt8)(a0 a1 g0 g1 g2 g3 g4:Int)(hlen:bs.length+70≤140737488355328):
 DT 169 #[(.pointer (some ⟨wb,0,none⟩)),(.agg #[(.int .i64 (a0)),(.int .i64 (a1)),(.int .i64 (g0)),(.int .i64 (g1)),(.int .i64 (g2)),(.int .i64 (g3)),(.int .i64 (g4))])] T0 [aj wb [v] 239,cH v (bs) 5] (qZ 239 5 wb (bs++bh [a0,a1,g0,g1,g2,g3,g4])):=by
 refine BD 15 Tryz.func169 rfl rfl rfl λw0 F hF=>sr λ_ J1=>XB λb3=>?_
 refine PS ?_;refine nx J1 (aa λ_ J2=>D1 0 bl ?_);refine PD 0 ?_;refine FD 1 0 eG aO ?_;refine LX 2 Y3 (.int .i64 (a0)) ?_ (hc:=by exact rfl);refine FD 3 1 eG aO ?_;refine LX 4 Y3 (.int .i64 (a1)) ?_ (hc:=by exact rfl);refine FD 7 2 eG fR ?_;refine ta 8 rfl (oE rfl kJ aO rfl) ?_;refine AL 5 ?_;refine aM (cells:=#[(.int .i64 (a0)),(.int .i64 (a1))]) (ab rfl) rfl rfl rfl eh oK rfl rfl rfl (by as_aux_lemma=>kernel_rfl) (λb10=>EN (AL 6 ?_));refine CQ kE (ej wb v (bs) (.slice (some ⟨b10,0,none⟩) (2) (2)) [a0,a1] (by simp only[ag,av,az,aB];first|omega| (have:=aZ [a0,a1];simp only[av,az]at this;omega))) (SM [2,2]) (dW 0 rfl rfl rfl rfl) λvR HR hR=>?_
 obtain⟨u1,rfl,rfl⟩:=hR;refine EN (AL 9 ?_);refine CQ kE (ej wb u1 (bs++bh [a0,a1]) (.slice (some ⟨b3,2,none⟩) (5) (5)) [g0,g1,g2,g3,g4] (by simp only[ag,av,az,aB];first|omega| (have:=aZ [a0,a1];simp only[av,az]at this;omega))) ID (dW 1 rfl rfl rfl rfl) λvR HR hR=>?_
 obtain⟨u2,rfl,rfl⟩:=hR;refine EN (PD 10 ?_);refine DN (ad J2 (ah (WK [0,0] (aw rfl rfl ?_))));exact⟨_,rfl,by rw[aG,←qR];rfl⟩
theorem yN(wb:Nat)(v:Value)(bs:List UInt8)(a0 a1 a2:Int)(hlen:bs.length+30≤140737488355328):
 DT 168 #[(.pointer (some ⟨wb,0,none⟩)),(.agg #[(.int .i64 (a0)),(.int .i64 (a1)),(.int .i64 (a2))])] T0 [aj wb [v] 239,cH v (bs) 5] (qZ 239 5 wb (bs++bh [a0,a1,a2])):=by
 refine BD 14 Tryz.func168 rfl rfl rfl λw0 F hF=>sr λ_ J1=>XB λb3=>?_
 refine PS ?_;refine nx J1 (sr λ_ J2=>PS ?_);refine FA 0 mS aO ?_;refine LA 0 Y3 ?_;refine FA 1 mS aO ?_;refine LA 0 Y3 ?_;refine FA 2 mS aO ?_;refine LA 0 Y3 ?_;refine aM (cells:=#[(.int .i64 (a0)),(.int .i64 (a1)),(.int .i64 (a2))]) (ab rfl) rfl rfl rfl eh oK rfl rfl rfl (by as_aux_lemma=>kernel_rfl) (λb12=>CQ kE (ej wb v (bs) (.slice (some ⟨b12,0,none⟩) (3) (3)) [a0,a1,a2] (by simp only[ag,av,az,aB];first|omega| (have:=aZ [a0,a1];simp only[av,az]at this;omega))) (SM [2,2]) (dW 0 rfl rfl rfl rfl) λvR HR hR=>?_);obtain⟨u1,rfl,rfl⟩:=hR;refine PS ?_;exact nx J2 (ah (WK [0,0] (aw rfl rfl ⟨_,rfl,rfl⟩)))
theorem yO(wb:Nat)(v:Value)(bs:List UInt8)(a0 a1:Int)(hlen:bs.length+20≤140737488355328):
 DT 167 #[(.pointer (some ⟨wb,0,none⟩)),(.agg #[(.int .i64 (a0)),(.int .i64 (a1))])] T0 [aj wb [v] 239,cH v (bs) 5] (qZ 239 5 wb (bs++bh [a0,a1])):=by
 refine BD 12 Tryz.func167 rfl rfl rfl λw0 F hF=>sr λ_ J1=>XB λb3=>?_
 refine PS ?_;refine nx J1 (sr λ_ J2=>PS ?_);refine FA 0 kV aO ?_;refine LA 0 Y3 ?_;refine FA 1 kV aO ?_;refine LA 0 Y3 ?_;refine aM (cells:=#[(.int .i64 (a0)),(.int .i64 (a1))]) (ab rfl) rfl rfl rfl eh oK rfl rfl rfl (by as_aux_lemma=>kernel_rfl) (λb10=>CQ kE (ej wb v (bs) (.slice (some ⟨b10,0,none⟩) (2) (2)) [a0,a1] (by simp only[ag,av,az,aB];first|omega| (have:=aZ [a0,a1];simp only[av,az]at this;omega))) (SM [2,2]) (dW 0 rfl rfl rfl rfl) λvR HR hR=>?_);obtain⟨u1,rfl,rfl⟩:=hR;refine PS ?_;exact nx J2 (ah (WK [0,0] (aw rfl rfl ⟨_,rfl,rfl⟩)))
theorem Cr(wb:Nat)(v:Value)(bs:List UInt8)(a0 a1 g0 g1 g2 g3 g4:Int)(hlen:bs.length+70≤140737488355328):
 DT 179 #[(.pointer (some ⟨wb,0,none⟩)),(.agg #[(.int .i64 (a0)),(.int .i64 (a1)),(.int .i64 (g0)),(.int .i64 (g1)),(.int .i64 (g2)),(.int .i64 (g3)),(.int .i64 (g4))])] T0 [aj wb [v] 239,cH v (bs) 5] (dG (λx H=>∃v',x= .tuple #[]∧H=[aj wb [v'] 239,cH v' (bs++bh [a0,a1,g0,g1,g2,g3,g4]) 5])):=by
 refine BD 14 Tryz.func179 rfl rfl rfl λw0 F hF=>sr λ_ J1=>XB λb3=>?_
 refine nx J1 (D1 0 bl ?_);refine PD 0 ?_;refine FD 1 0 nF aO ?_;refine LX 2 Y3 (.int .i64 (a0)) ?_ (hc:=by exact rfl);refine FD 3 1 nF aO ?_;refine LX 4 Y3 (.int .i64 (a1)) ?_ (hc:=by exact rfl);refine FD 7 2 nF fR ?_;refine ta 8 rfl (oE rfl kJ aO rfl) ?_;refine AL 5 ?_;refine aM (cells:=#[(.int .i64 (a0)),(.int .i64 (a1))]) (ab rfl) rfl rfl rfl eh oK rfl rfl rfl (by as_aux_lemma=>kernel_rfl) (λb9=>EN (AL 6 ?_));refine CQ kE (ej wb v (bs) (.slice (some ⟨b9,0,none⟩) (2) (2)) [a0,a1] (by simp only[ag,av,az,aB];first|omega| (have:=aZ [a0,a1];simp only[av,az]at this;omega))) (SM [2,2]) (dW 0 rfl rfl rfl rfl) λvR HR hR=>?_
 obtain⟨u1,rfl,rfl⟩:=hR;refine EN (AL 9 ?_);refine CQ kE (ej wb u1 (bs++bh [a0,a1]) (.slice (some ⟨b3,2,none⟩) (5) (5)) [g0,g1,g2,g3,g4] (by simp only[ag,av,az,aB];first|omega| (have:=aZ [a0,a1];simp only[av,az]at this;omega))) ID (dW 1 rfl rfl rfl rfl) λvR HR hR=>?_
 obtain⟨u2,rfl,rfl⟩:=hR;refine EN (DN (WK [0,0] (bC rfl ?_)));exact⟨_,rfl,by rw[aG,←qR];rfl⟩
theorem wZ(wb:Nat)(v:Value)(bs:List UInt8)(c:CellT)(hlen:bs.length+70≤140737488355328):DT 179 #[(.pointer (some ⟨wb,0,none⟩)),c.val] T0 [aj wb [v] 239,cH v bs 5] (dG (λx H=>∃v',x= .tuple #[]∧H=[aj wb [v'] 239,cH v' (bs++bh c.flat) 5])):=by
 obtain⟨i,o,g⟩:=c;exact Ly (p:=λg=>Leg.Does Tryz.prog 179 #[(.pointer (some ⟨wb,0,none⟩)),CellT.val ⟨i,o,g⟩] (λ_=>True) [aj wb [v] 239,cH v bs 5] (dG (λx H=>∃v',x= .tuple #[]∧H=[aj wb [v'] 239,cH v' (bs++bh (CellT.flat ⟨i,o,g⟩)) 5]))) (λa b c d e=>Cr wb v bs i o a b c d e hlen) g
theorem rZ(wb:Nat)(v:Value)(bs:List UInt8)(x:ViewT)(hlen:bs.length+70≤140737488355328):DT 169 #[(.pointer (some ⟨wb,0,none⟩)),x.val] T0 [aj wb [v] 239,cH v bs 5] (qZ 239 5 wb (bs++bh x.flat)):=by
 obtain⟨i,o,g⟩:=x;exact Ly (p:=λg=>Leg.Does Tryz.prog 169 #[(.pointer (some ⟨wb,0,none⟩)),ViewT.val ⟨i,o,g⟩] (λ_=>True) [aj wb [v] 239,cH v bs 5] (qZ 239 5 wb (bs++bh (ViewT.flat ⟨i,o,g⟩)))) (λa b c d e=>Ch wb v bs i o a b c d e hlen) g
theorem po(wb:Nat)(v:Value)(bs:List UInt8)(x:ChangeT)(hlen:bs.length+30≤140737488355328):DT 168 #[(.pointer (some ⟨wb,0,none⟩)),x.val] T0 [aj wb [v] 239,cH v bs 5] (qZ 239 5 wb (bs++bh x.flat)):=yN wb v bs x.kind x.who x.heir (by omega)
theorem jZ(wb:Nat)(v:Value)(bs:List UInt8)(x:BallotT)(hlen:bs.length+30≤140737488355328):DT 167 #[(.pointer (some ⟨wb,0,none⟩)),x.val] T0 [aj wb [v] 239,cH v bs 5] (qZ 239 5 wb (bs++bh x.flat)):=yO wb v bs x.round x.who (by omega)
theorem uE(wb:Nat)(v:Value)(bs:List UInt8)(x:RowT)(hlen:bs.length+2000≤140737488355328):
 DT 166 #[(.pointer (some ⟨wb,0,none⟩)),(.agg (ints x.flat).toArray)] T0 [aj wb [v] 239,cH v (bs) 5] (qZ 239 5 wb (bs++iv x)):=by
 refine BD 50 Tryz.func166 rfl rfl rfl λw0 F hF=>sr λ_ J1=>XY (ints x.flat) λb3=>?_
 refine PS ?_;refine nx J1 (sr λ_ J2=>PS ?_);refine FA 0 el aO ?_;refine LT 0 Y3 (.int .i64 (x.version)) ?_ (hc:=by exact RowT.get_version _);refine aM (cells:=#[(.int .i64 (x.version))]) (ab rfl) rfl rfl rfl eh oK rfl rfl rfl (by as_aux_lemma=>kernel_rfl) (λb14=>CQ kE (ej wb v (bs) (.slice (some ⟨b14,0,none⟩) (1) (1)) [x.version] (by have:=congrArg List.length (Eq.refl bs);have:=jc x;simp only[ag,av,az]at*;omega)) (SM [2,2]) (dW 0 rfl rfl rfl rfl) λvR HR hR=>?_);obtain⟨u1,rfl,rfl⟩:=hR;refine nx J2 (aa λ_ J3=>sr λ_ J4=>FA 1 el mp ?_);refine tp (aN (vs:=ints (bS x.cells.toList)) rfl Ce rfl mp rfl (RO 3) (by rw[ints_length,dq];simp) (RowT.get_cells _)) ?_;refine PS ?_;refine nx J4 (am ?_)
 refine bG (α:=(Nat)×(Value)×(List UInt8)) (λ⟨k,u,laid⟩=>k≤4∧laid++(bh (bS (x.cells.toList.drop k))++fJ x 5 0)=bs++iv x) (λ⟨k,u,laid⟩=>[(0,(.pointer (some ⟨wb,0,none⟩))),(3,(.pointer (some ⟨b3,0,none⟩))),(4,(.pointer none)),(17,(.agg (ints (bS x.cells.toList)).toArray)),(18,(.int .i64 ((k:Nat))))]) (λ⟨k,u,laid⟩=>[aj b3 (ints x.flat) 74,aj wb [u] 239,cH u (laid) 5]) (λ⟨k,u,laid⟩=>4-k) (0,u1,bs++bh [x.version])
  ⟨by omega,by simp[iv,bh]⟩ SB
  (λ_ s=>ak [3,0,0] rfl s) (λ⟨k,u,laid⟩ hinv=>?_)
 obtain⟨hk,hL⟩:=hinv;have hE:=hL;rw[show bh (bS (x.cells.toList.drop k))=bh (bS (x.cells.toList.drop k))from rfl]at hE;refine sr λ_ J5=>PS ?_
 refine ap ?_ ?_<;>intro h19;refine nx J5 (aa λ_ J6=>CY (qx J6 (aa λ_ J7=>am (sr λ_ J8=>tp (RH (cs:=ints (bS (x.cells.toList))) (r:=k*7) rfl Ce nF rfl fm rfl rfl (by omega) (by omega) (by omega) (Av (by simp;omega))) ?_))));refine XA Ln λb6=>?_
 refine bW (vs:=ints ((x.cells.toList)[k]'(by simp;omega)).flat) (cs':=ints ((x.cells.toList)[k]'(by simp;omega)).flat) (i:=0) (ab rfl) rfl rfl rfl rfl rfl (by rw[aU];exact fm) (bv _) rfl rfl (by rw[aU];exact aK _) (jC (by rw[aU];rfl)) rfl (nx J8 (ac (PS ?_)));refine tp (aN (vs:=ints ((x.cells.toList)[k]'(by simp;omega)).flat) rfl nF rfl fm rfl (RO 0) (aU _) (by rw[bb,aC (by rw[aU];decide)])) ?_;refine CR MW (wZ wb u (laid) ((x.cells.toList)[k]'(by simp;omega)) (by have:=congrArg List.length hE;have:=jc x;have:=aZ ((x.cells.toList)[k]'(by simp;omega)).flat;rw[bu]at this;simp only[ag]at*;omega)) (SM [2,2]) λvR HR hR=>?_
 obtain⟨u2,rfl,rfl⟩:=hR;refine au (af (ad J7 (ac (AD ?_))));refine PS ?_;refine au ?_
 exact aL ((k+1,u2,laid++bh ((x.cells.toList)[k]'(by simp;omega)).flat):(Nat)×(Value)×(List UInt8)) ⟨by omega,by rw[←hL,l9 (l:=x.cells.toList) (k:=k) (by simp;omega)];simp⟩ (by show _-_<_-_;omega)
  SB
  (λ_ s=>ak [3,0,0] rfl s)
 refine nx J5 (aa λ_ J9=>CN (aW (aA (aA (bq (ad J3 (aa λ_ J10=>sr λ_ J11=>FA 29 el fR ?_)))))));refine tp (aN (vs:=ints x.heir.toList) rfl kJ rfl fR rfl (RO 0) (by rw[ints_length];simp) (RowT.get_heirs _)) ?_;refine PS ?_;refine nx J11 (am ?_)
 refine bG (α:=(Nat)×(Value)×(List UInt8)) (λ⟨i,u,laid⟩=>i≤5∧laid++fJ x (5-i) i=bs++iv x) (λ⟨i,u,laid⟩=>[(0,(.pointer (some ⟨wb,0,none⟩))),(3,(.pointer (some ⟨b3,0,none⟩))),(4,(.pointer none)),(26,(.agg (ints x.heir.toList).toArray)),(27,(.int .i64 ((i:Nat))))]) (λ⟨i,u,laid⟩=>[aj b3 (ints x.flat) 74,aj wb [u] 239,cH u (laid) 5]) (λ⟨i,u,laid⟩=>5-i) (0,u,laid)
  ⟨by omega,by rw[←hL,dV (by simp;omega)];simp[bS,bh]⟩ SB
  (λ_ s=>ak [0,0,0] rfl s) (λ⟨i,u,laid⟩ hinv=>?_)
 obtain⟨hi,hL⟩:=hinv;have hE:=hL;refine sr λ_ J12=>PS ?_
 refine ap ?_ ?_<;>intro h28;refine nx J12 (aa λ_ J13=>CY (qx J13 (aa λ_ J14=>am (sr λ_ J15=>PS ?_))));refine tp (jf (cs:=ints x.heir.toList) (v:= .int .i64 (x.heir[i]'(by omega))) (r:=i) rfl kJ Y3 rfl aO rfl rfl (by omega) (by omega) (by omega) (by rw[ints_get _ _ (by simp;omega)];simp[List.getD_eq_getElem?_getD,show i<5 by omega])) ?_;refine P2 ?_;refine nx J15 (sr λ_ J16=>P2 ?_);refine aM (cells:=#[(.int .i64 (x.heir[i]'(by omega)))]) (ab rfl) rfl rfl rfl eh oK rfl rfl rfl (by as_aux_lemma=>kernel_rfl) (λb33=>CQ kE (ej wb u (laid) (.slice (some ⟨b33,0,none⟩) (1) (1)) [x.heir[i]'(by omega)] (by have:=congrArg List.length hE;have:=jc x;simp only[ag,av,az]at*;omega)) (SM [2,2]) (dW 0 rfl rfl rfl rfl) λvR HR hR=>?_);obtain⟨u2,rfl,rfl⟩:=hR;refine nx J16 (sr λ_ J17=>P2 ?_);refine ap ?_ ?_<;>intro h36;refine nx J17 (CY (sr λ_ J18=>PS ?_));refine FA 34 el CA ?_;refine IX (34+i*28) Nk mp ?_;refine tp (aN (vs:=ints (bS (x.left[i]'(by omega)).toList)) rfl Ce rfl mp rfl (RO 3) (by rw[ints_length,dq];simp) (RowT.get_left _ i (by omega))) ?_;refine PS ?_;refine nx J18 (am ?_)
 refine bG (α:=(Nat)×(Value)×(List UInt8)) (λ⟨k,u3,laid3⟩=>k≤4∧laid3++(bh (bS ((x.left[i]'(by omega)).toList.drop k))++fJ x (5- (i+1)) (i+1))=bs++iv x) (λ⟨k,u3,laid3⟩=>[(0,(.pointer (some ⟨wb,0,none⟩))),(3,(.pointer (some ⟨b3,0,none⟩))),(4,(.pointer none)),(26,(.agg (ints x.heir.toList).toArray)),(27,(.int .i64 ((i:Nat)))),(40,(.agg (ints (bS (x.left[i]'(by omega)).toList)).toArray)),(41,(.int .i64 ((k:Nat))))]) (λ⟨k,u3,laid3⟩=>[aj b3 (ints x.flat) 74,aj wb [u3] 239,cH u3 (laid3) 5]) (λ⟨k,u3,laid3⟩=>4-k) (0,u2,laid++bh [x.heir[i]'(by omega)])
  ⟨by omega,by rw[←hL,rU (i:=i) (by omega),if_pos h36];simp[bh]⟩ SB
  (λ_ s=>ak [3,0,0] rfl s) (λ⟨k,u3,laid3⟩ hinv=>?_)
 obtain⟨hk,hM⟩:=hinv;have hE:=hM;refine sr λ_ J19=>PS ?_
 refine ap ?_ ?_<;>intro h42;refine nx J19 (aa λ_ J20=>CY (qx J20 (aa λ_ J21=>am (sr λ_ J22=>tp (RH (cs:=ints (bS ((x.left[i]'(by omega)).toList))) (r:=k*7) rfl Ce nF rfl fm rfl rfl (by omega) (by omega) (by omega) (Av (by simp;omega))) ?_))));refine XA Ln λb10=>?_
 refine bW (vs:=ints (((x.left[i]'(by omega)).toList)[k]'(by simp;omega)).flat) (cs':=ints (((x.left[i]'(by omega)).toList)[k]'(by simp;omega)).flat) (i:=0) (ab rfl) rfl rfl rfl rfl rfl (by rw[aU];exact fm) (bv _) rfl rfl (by rw[aU];exact aK _) (jC (by rw[aU];rfl)) rfl (nx J22 (ac (PS ?_)));refine tp (aN (vs:=ints (((x.left[i]'(by omega)).toList)[k]'(by simp;omega)).flat) rfl nF rfl fm rfl (RO 0) (aU _) (by rw[bb,aC (by rw[aU];decide)])) ?_;refine CR MW (wZ wb u3 (laid3) (((x.left[i]'(by omega)).toList)[k]'(by simp;omega)) (by have:=congrArg List.length hE;have:=jc x;have:=aZ (((x.left[i]'(by omega)).toList)[k]'(by simp;omega)).flat;rw[bu]at this;simp only[ag]at*;omega)) (SM [2,2]) λvR HR hR=>?_
 obtain⟨u3,rfl,rfl⟩:=hR;refine au (af (ad J21 (ac (AD ?_))));refine PS ?_;refine au ?_
 exact aL ((k+1,u3,laid3++bh (((x.left[i]'(by omega)).toList)[k]'(by simp;omega)).flat):(Nat)×(Value)×(List UInt8)) ⟨by omega,by rw[←hM,l9 (l:=(x.left[i]'(by omega)).toList) (k:=k) (by simp;omega)];simp⟩ (by show _-_<_-_;omega)
  SB
  (λ_ s=>ak [3,0,0] rfl s)
 refine nx J19 (aa λ_ J23=>CN (aW (aA (aA (bq (af (ad J14 (ac (AD ?_)))))))));refine PS ?_;refine au ?_
 exact aL ((i+1,u3,laid3):(Nat)×(Value)×(List UInt8)) ⟨by omega,by rw[←hM,dV (by simp;omega)];simp[bS,bh]⟩ (by show _-_<_-_;omega)
  SB
  (λ_ s=>ak [0,0,0] rfl s)
 refine nx J17 (CN (aR (af (ad J14 (ac (AD ?_))))));refine PS ?_;refine au ?_
 exact aL ((i+1,u2,laid++bh [x.heir[i]'(by omega)]):(Nat)×(Value)×(List UInt8)) ⟨by omega,by rw[←hL,rU (i:=i) (by omega),if_neg h36];simp[bh]⟩ (by show _-_<_-_;omega)
  SB
  (λ_ s=>ak [3,0,0] rfl s)
 refine nx J12 (aa λ_ J24=>CN (aW (aA (aA (bq (ad J10 (sr λ_ J25=>P2 ?_)))))));refine nx J25 (ah (WK [1,1] (aw rfl rfl ?_)));obtain rfl:laid=bs++iv x:=by rw[←hL,show 5-i=0 by omega];simp[fJ]
 exact⟨u,rfl,rfl⟩
theorem Ee(m:MsgT):
 DT 212 #[(.agg (ints m.flat).toArray)] T0 [] (dG (λr' H=>∃u,r'=u∧H=[cH u (cX m) 5])):=by
 refine BD 100 Tryz.func212 rfl rfl rfl λw0 F hF=>sr λ_ J1=>XY (ints m.flat) λb1=>?_
 refine PS ?_;refine nx J1 (sr λ_ J2=>XA OB λb4=>?_);refine TL.ownNil 5 (λon=>?_);clear on;refine PS ?_;refine nx J2 (aa λ_ J3=>sr λ_ J4=>FA 0 bi aO ?_);refine LU 2 Y3 (fk m rfl) ?_;refine nx J4 (am (aa λ_ J5=>fA (α:=Unit) (λ_u=>True) (λ_u=>[(1,(.pointer (some ⟨b1,0,none⟩))),(2,(.slice none 0 0)),(3,(.pointer (some ⟨b4,0,none⟩))),(6,(.int .i64 (m.kind))),(7,(.bool ((eA m.kind))))]) (λ_u=>[cH (.slice none 0 0) ([]) 5,aj b4 [(.slice none 0 0)] 239,aj b1 (ints m.flat) 134]) (λ_u hinv=>?_) (λtl5=>?_)));have _:=hinv;refine ad J5 (TC.cond rfl (λh7=>?_) (λh7=>?_));refine D1 2 bl ?_;refine PD 0 ?_;refine FD 1 0 bi aO ?_;refine LR 2 Y3 (fk m rfl) ?_;refine FD 3 1 bi aO ?_;refine LR 4 Y3 (cC m rfl) ?_;refine FD 7 2 bi bf ?_;refine ta 8 rfl (aN (vs:=ints m.row.flat) rfl el rfl bf rfl (λ_ h=>h.2.1) (ai m.row) (m7 m 0 rfl (by decide) (whole (ai m.row)))) ?_;refine AL 5 ?_;refine aM (cells:=#[(.int .i64 (m.kind)),(.int .i64 (m.whose))]) (ab rfl) rfl rfl rfl eh oK rfl rfl rfl (by as_aux_lemma=>kernel_rfl) (λb16=>EN (AL 6 ?_));refine CQ kE (ej b4 (.slice none 0 0) ([]) (.slice (some ⟨b16,0,none⟩) (2) (2)) [m.kind,m.whose] (by simp)) (SM [2,1]) (dW 0 rfl rfl rfl rfl) λvR HR hR=>?_
 obtain⟨u1,rfl,rfl⟩:=hR;refine EN (AL 9 ?_);refine CR JY (uE b4 u1 (bh [m.kind,m.whose]) m.row (by(have:=aZ [m.kind,m.whose]);simp only[BallotT.flat,ViewT.flat,ChangeT.flat,av,az,aB,ag]at*;omega)) ID λvR HR hR=>?_
 obtain⟨u2,rfl,rfl⟩:=hR;refine EN (DN (af (ad J3 (sr λ_ J6=>PS ?_))));refine CR nW (eM b4 u2 (bh [m.kind,m.whose]++iv m.row) (by(have:=aZ [m.kind,m.whose]);(have:=jc m.row);simp only[BallotT.flat,ViewT.flat,ChangeT.flat,av,az,aB,ag]at*;omega)) ID λvR HR hR=>?_
 obtain⟨_,rfl,rfl⟩:=hR;revert vR;intro u3;refine PS ?_;refine nx J6 (ah (WK [2] (aw rfl rfl ?_)));exact⟨_,rfl,congrArg (λb=>[cH u3 b 5]) (show(bh [m.kind,m.whose]++iv m.row)=cX m by simp[cX,bh, *])⟩;refine sr λ_ J7=>PS ?_
 refine ap ?_ ?_<;>intro h22;refine PS ?_;refine nx J7 (CY (ac (PS ?_)));refine FA 0 bi aO ?_;refine LU 2 Y3 (fk m rfl) ?_;refine FA 176 bi aO ?_;refine LU 2 Y3 (MsgT.at_version m rfl) ?_;refine aM (cells:=#[(.int .i64 (m.kind)),(.int .i64 (m.version))]) (ab rfl) rfl rfl rfl eh oK rfl rfl rfl (by as_aux_lemma=>kernel_rfl) (λb28=>CQ kE (ej b4 (.slice none 0 0) ([]) (.slice (some ⟨b28,0,none⟩) (2) (2)) [m.kind,m.version] (by simp)) (SM [2,1]) (dW 0 rfl rfl rfl rfl) λvR HR hR=>?_);obtain⟨u1,rfl,rfl⟩:=hR;refine au (af (ad J3 (sr λ_ J8=>PS ?_)));refine CR nW (eM b4 u1 (bh [m.kind,m.version]) (by(have:=aZ [m.kind,m.version]);simp only[BallotT.flat,ViewT.flat,ChangeT.flat,av,az,aB,ag]at*;omega)) ID λvR HR hR=>?_
 obtain⟨_,rfl,rfl⟩:=hR;revert vR;intro u2;refine PS ?_;refine nx J8 (ah (WK [2] (aw rfl rfl ?_)));exact⟨_,rfl,congrArg (λb=>[cH u2 b 5]) (show(bh [m.kind,m.version])=cX m by simp[cX,eA,fj,bh, *])⟩;refine PS ?_;refine nx J7 (CN (aa λ_ J9=>fA (α:=Unit) (λ_u=>True) (λ_u=>[(1,(.pointer (some ⟨b1,0,none⟩))),(2,(.slice none 0 0)),(3,(.pointer (some ⟨b4,0,none⟩))),(6,(.int .i64 (m.kind))),(30,(.bool ((fj m.kind))))]) (λ_u=>[cH (.slice none 0 0) ([]) 5,aj b4 [(.slice none 0 0)] 239,aj b1 (ints m.flat) 134]) (λ_u hinv=>?_) (λtl9=>?_)));have _:=hinv;refine ad J9 (TC.cond rfl (λh30=>?_) (λh30=>?_));refine D1 2 bl ?_;refine PD 0 ?_;refine FD 1 0 bi aO ?_;refine LR 2 Y3 (fk m rfl) ?_;refine FD 3 177 bi aO ?_;refine LR 4 Y3 (fc m rfl) ?_;refine FD 7 178 bi cJ ?_;refine ta 8 rfl (aN (vs:=ints m.ballot.flat) rfl kV rfl cJ rfl (λ_ h=>h.2.1) (aq m.ballot) (jB m 0 rfl (by decide) (whole (aq m.ballot)))) ?_;refine AL 5 ?_;refine aM (cells:=#[(.int .i64 (m.kind)),(.int .i64 (m.epoch))]) (ab rfl) rfl rfl rfl eh oK rfl rfl rfl (by as_aux_lemma=>kernel_rfl) (λb38=>EN (AL 6 ?_));refine CQ kE (ej b4 (.slice none 0 0) ([]) (.slice (some ⟨b38,0,none⟩) (2) (2)) [m.kind,m.epoch] (by simp)) (SM [2,1]) (dW 0 rfl rfl rfl rfl) λvR HR hR=>?_
 obtain⟨u1,rfl,rfl⟩:=hR;refine EN (AL 9 ?_);refine CR Ai (jZ b4 u1 (bh [m.kind,m.epoch]) m.ballot (by(have:=aZ [m.kind,m.epoch]);simp only[BallotT.flat,ViewT.flat,ChangeT.flat,av,az,aB,ag]at*;omega)) ID λvR HR hR=>?_
 obtain⟨u2,rfl,rfl⟩:=hR;refine EN (DN (af (ad J3 (sr λ_ J10=>PS ?_))));refine CR nW (eM b4 u2 (bh [m.kind,m.epoch]++bh m.ballot.flat) (by(have:=aZ [m.kind,m.epoch]);(have:=aZ (m.ballot.flat));simp only[BallotT.flat,ViewT.flat,ChangeT.flat,av,az,aB,ag]at*;omega)) ID λvR HR hR=>?_
 obtain⟨_,rfl,rfl⟩:=hR;revert vR;intro u3;refine PS ?_;refine nx J10 (ah (WK [2] (aw rfl rfl ?_)));exact⟨_,rfl,congrArg (λb=>[cH u3 b 5]) (show(bh [m.kind,m.epoch]++bh m.ballot.flat)=cX m by simp[cX,bh, *])⟩;refine sr λ_ J11=>PS ?_
 refine ap ?_ ?_<;>intro h44;refine PS ?_;refine nx J11 (CY (D1 2 bl ?_));refine PD 0 ?_;refine FD 1 0 bi aO ?_;refine LR 2 Y3 (fk m rfl) ?_;refine FD 3 177 bi aO ?_;refine LR 4 Y3 (fc m rfl) ?_;refine FD 7 178 bi cJ ?_;refine ta 8 rfl (aN (vs:=ints m.ballot.flat) rfl kV rfl cJ rfl (λ_ h=>h.2.1) (aq m.ballot) (jB m 0 rfl (by decide) (whole (aq m.ballot)))) ?_;refine FD 10 180 bi cJ ?_;refine ta 11 rfl (aN (vs:=ints m.had.flat) rfl kV rfl cJ rfl (λ_ h=>h.2.1) (aq m.had) (RV m 0 rfl (by decide) (whole (aq m.had)))) ?_;refine FD 13 182 bi fF ?_;refine ta 14 rfl (aN (vs:=ints m.change.flat) rfl mS rfl fF rfl (λ_ h=>h.2.1) (aJ m.change) (oe m 0 rfl (by decide) (whole (aJ m.change)))) ?_;refine AL 5 ?_;refine aM (cells:=#[(.int .i64 (m.kind)),(.int .i64 (m.epoch))]) (ab rfl) rfl rfl rfl eh oK rfl rfl rfl (by as_aux_lemma=>kernel_rfl) (λb50=>EN (AL 6 ?_));refine CQ kE (ej b4 (.slice none 0 0) ([]) (.slice (some ⟨b50,0,none⟩) (2) (2)) [m.kind,m.epoch] (by simp)) (SM [2,1]) (dW 0 rfl rfl rfl rfl) λvR HR hR=>?_
 obtain⟨u1,rfl,rfl⟩:=hR;refine EN (AL 9 ?_);refine CR Ai (jZ b4 u1 (bh [m.kind,m.epoch]) m.ballot (by(have:=aZ [m.kind,m.epoch]);simp only[BallotT.flat,ViewT.flat,ChangeT.flat,av,az,aB,ag]at*;omega)) ID λvR HR hR=>?_
 obtain⟨u2,rfl,rfl⟩:=hR;refine EN (AL 12 ?_);refine CR Ai (jZ b4 u2 (bh [m.kind,m.epoch]++bh m.ballot.flat) m.had (by(have:=aZ [m.kind,m.epoch]);(have:=aZ (m.ballot.flat));simp only[BallotT.flat,ViewT.flat,ChangeT.flat,av,az,aB,ag]at*;omega)) ID λvR HR hR=>?_
 obtain⟨u3,rfl,rfl⟩:=hR;refine EN (AL 15 ?_);refine CR JX (po b4 u3 (bh [m.kind,m.epoch]++bh m.ballot.flat++bh m.had.flat) m.change (by(have:=aZ [m.kind,m.epoch]);(have:=aZ (m.ballot.flat));(have:=aZ (m.had.flat));simp only[BallotT.flat,ViewT.flat,ChangeT.flat,av,az,aB,ag]at*;omega)) ID λvR HR hR=>?_
 obtain⟨u4,rfl,rfl⟩:=hR;refine EN (DN (af (ad J3 (sr λ_ J12=>PS ?_))));refine CR nW (eM b4 u4 (bh [m.kind,m.epoch]++bh m.ballot.flat++bh m.had.flat++bh m.change.flat) (by(have:=aZ [m.kind,m.epoch]);(have:=aZ (m.ballot.flat));(have:=aZ (m.had.flat));(have:=aZ (m.change.flat));simp only[BallotT.flat,ViewT.flat,ChangeT.flat,av,az,aB,ag]at*;omega)) ID λvR HR hR=>?_
 obtain⟨_,rfl,rfl⟩:=hR;revert vR;intro u5;refine PS ?_;refine nx J12 (ah (WK [2] (aw rfl rfl ?_)));exact⟨_,rfl,congrArg (λb=>[cH u5 b 5]) (show(bh [m.kind,m.epoch]++bh m.ballot.flat++bh m.had.flat++bh m.change.flat)=cX m by simp[cX,eA,fj,bh, *])⟩;refine PS ?_;refine nx J11 (CN (sr λ_ J13=>PS ?_));refine ap ?_ ?_<;>intro h62;refine PS ?_;refine nx J13 (CY (D1 2 bl ?_));refine PD 0 ?_;refine FD 1 0 bi aO ?_;refine LR 2 Y3 (fk m rfl) ?_;refine FD 3 177 bi aO ?_;refine LR 4 Y3 (fc m rfl) ?_;refine FD 7 178 bi cJ ?_;refine ta 8 rfl (aN (vs:=ints m.ballot.flat) rfl kV rfl cJ rfl (λ_ h=>h.2.1) (aq m.ballot) (jB m 0 rfl (by decide) (whole (aq m.ballot)))) ?_;refine FD 10 182 bi fF ?_;refine ta 11 rfl (aN (vs:=ints m.change.flat) rfl mS rfl fF rfl (λ_ h=>h.2.1) (aJ m.change) (oe m 0 rfl (by decide) (whole (aJ m.change)))) ?_;refine AL 5 ?_;refine aM (cells:=#[(.int .i64 (m.kind)),(.int .i64 (m.epoch))]) (ab rfl) rfl rfl rfl eh oK rfl rfl rfl (by as_aux_lemma=>kernel_rfl) (λb68=>EN (AL 6 ?_));refine CQ kE (ej b4 (.slice none 0 0) ([]) (.slice (some ⟨b68,0,none⟩) (2) (2)) [m.kind,m.epoch] (by simp)) (SM [2,1]) (dW 0 rfl rfl rfl rfl) λvR HR hR=>?_
 obtain⟨u1,rfl,rfl⟩:=hR;refine EN (AL 9 ?_);refine CR Ai (jZ b4 u1 (bh [m.kind,m.epoch]) m.ballot (by(have:=aZ [m.kind,m.epoch]);simp only[BallotT.flat,ViewT.flat,ChangeT.flat,av,az,aB,ag]at*;omega)) ID λvR HR hR=>?_
 obtain⟨u2,rfl,rfl⟩:=hR;refine EN (AL 12 ?_);refine CR JX (po b4 u2 (bh [m.kind,m.epoch]++bh m.ballot.flat) m.change (by(have:=aZ [m.kind,m.epoch]);(have:=aZ (m.ballot.flat));simp only[BallotT.flat,ViewT.flat,ChangeT.flat,av,az,aB,ag]at*;omega)) ID λvR HR hR=>?_
 obtain⟨u3,rfl,rfl⟩:=hR;refine EN (DN (af (ad J3 (sr λ_ J14=>PS ?_))));refine CR nW (eM b4 u3 (bh [m.kind,m.epoch]++bh m.ballot.flat++bh m.change.flat) (by(have:=aZ [m.kind,m.epoch]);(have:=aZ (m.ballot.flat));(have:=aZ (m.change.flat));simp only[BallotT.flat,ViewT.flat,ChangeT.flat,av,az,aB,ag]at*;omega)) ID λvR HR hR=>?_
 obtain⟨_,rfl,rfl⟩:=hR;revert vR;intro u4;refine PS ?_;refine nx J14 (ah (WK [2] (aw rfl rfl ?_)));exact⟨_,rfl,congrArg (λb=>[cH u4 b 5]) (show(bh [m.kind,m.epoch]++bh m.ballot.flat++bh m.change.flat)=cX m by simp[cX,eA,fj,bh, *])⟩;refine PS ?_;refine nx J13 (CN (sr λ_ J15=>PS ?_));refine ap ?_ ?_<;>intro h77;refine PS ?_;refine nx J15 (CY (D1 2 bl ?_));refine PD 0 ?_;refine FD 1 0 bi aO ?_;refine LR 2 Y3 (fk m rfl) ?_;refine FD 5 185 bi bj ?_;refine ta 6 rfl (aN (vs:=ints m.view.flat) rfl eG rfl bj rfl (λ_ h=>h.2.1) (an m.view) (wJ m 0 rfl (by decide) (whole (an m.view)))) ?_;refine AL 3 ?_;refine aM (cells:=#[(.int .i64 (m.kind))]) (ab rfl) rfl rfl rfl eh oK rfl rfl rfl (by as_aux_lemma=>kernel_rfl) (λb81=>EN (AL 4 ?_));refine CQ kE (ej b4 (.slice none 0 0) ([]) (.slice (some ⟨b81,0,none⟩) (1) (1)) [m.kind] (by simp)) (SM [2,1]) (dW 0 rfl rfl rfl rfl) λvR HR hR=>?_
 obtain⟨u1,rfl,rfl⟩:=hR;refine EN (AL 7 ?_);refine CR JW (rZ b4 u1 (bh [m.kind]) m.view (by(have:=aZ [m.kind]);simp only[BallotT.flat,ViewT.flat,ChangeT.flat,av,az,aB,ag]at*;omega)) ID λvR HR hR=>?_
 obtain⟨u2,rfl,rfl⟩:=hR;refine EN (DN (af (ad J3 (sr λ_ J16=>PS ?_))));refine CR nW (eM b4 u2 (bh [m.kind]++bh m.view.flat) (by(have:=aZ [m.kind]);(have:=aZ (m.view.flat));simp only[BallotT.flat,ViewT.flat,ChangeT.flat,av,az,aB,ag]at*;omega)) ID λvR HR hR=>?_
 obtain⟨_,rfl,rfl⟩:=hR;revert vR;intro u3;refine PS ?_;refine nx J16 (ah (WK [2] (aw rfl rfl ?_)));exact⟨_,rfl,congrArg (λb=>[cH u3 b 5]) (show(bh [m.kind]++bh m.view.flat)=cX m by simp[cX,eA,fj,bh, *])⟩;refine PS ?_;refine nx J15 (CN (sr λ_ J17=>PS ?_));refine ap ?_ ?_<;>intro h87;refine PS ?_;refine nx J17 (CY (D1 2 bl ?_));refine PD 0 ?_;refine FD 1 0 bi aO ?_;refine LR 2 Y3 (fk m rfl) ?_;refine FD 3 1 bi aO ?_;refine LR 4 Y3 (cC m rfl) ?_;refine FD 7 185 bi bj ?_;refine ta 8 rfl (aN (vs:=ints m.view.flat) rfl eG rfl bj rfl (λ_ h=>h.2.1) (an m.view) (wJ m 0 rfl (by decide) (whole (an m.view)))) ?_;refine AL 5 ?_;refine aM (cells:=#[(.int .i64 (m.kind)),(.int .i64 (m.whose))]) (ab rfl) rfl rfl rfl eh oK rfl rfl rfl (by as_aux_lemma=>kernel_rfl) (λb93=>EN (AL 6 ?_));refine CQ kE (ej b4 (.slice none 0 0) ([]) (.slice (some ⟨b93,0,none⟩) (2) (2)) [m.kind,m.whose] (by simp)) (SM [2,1]) (dW 0 rfl rfl rfl rfl) λvR HR hR=>?_
 obtain⟨u1,rfl,rfl⟩:=hR;refine EN (AL 9 ?_);refine CR JW (rZ b4 u1 (bh [m.kind,m.whose]) m.view (by(have:=aZ [m.kind,m.whose]);simp only[BallotT.flat,ViewT.flat,ChangeT.flat,av,az,aB,ag]at*;omega)) ID λvR HR hR=>?_
 obtain⟨u2,rfl,rfl⟩:=hR;refine EN (DN (af (ad J3 (sr λ_ J18=>PS ?_))));refine CR nW (eM b4 u2 (bh [m.kind,m.whose]++bh m.view.flat) (by(have:=aZ [m.kind,m.whose]);(have:=aZ (m.view.flat));simp only[BallotT.flat,ViewT.flat,ChangeT.flat,av,az,aB,ag]at*;omega)) ID λvR HR hR=>?_
 obtain⟨_,rfl,rfl⟩:=hR;revert vR;intro u3;refine PS ?_;refine nx J18 (ah (WK [2] (aw rfl rfl ?_)));exact⟨_,rfl,congrArg (λb=>[cH u3 b 5]) (show(bh [m.kind,m.whose]++bh m.view.flat)=cX m by simp[cX,eA,fj,bh, *])⟩;refine PS ?_;refine nx J17 (CN (aR (af (ad J3 (sr λ_ J19=>PS ?_)))));refine CR nW (eM b4 (.slice none 0 0) ([]) (by simp)) (SM [1,0]) λvR HR hR=>?_
 obtain⟨_,rfl,rfl⟩:=hR;revert vR;intro u1;refine PS ?_;refine nx J19 (ah (WK [2] (aw rfl rfl ?_)));exact⟨_,rfl,congrArg (λb=>[cH u1 b 5]) (show([]:List UInt8)=cX m by simp[cX,bh, *])⟩;refine sr λ_ J20=>P2 ?_
 refine ap ?_ ?_<;>intro h30;refine nx J20 (CY (aR ?_))
 exact aE
  (aX (aX (aX (aX (bM rfl (by simp[fj, *]) SB)))))
  (λ_ s=>s)
  (tl9 (():Unit) trivial)
 refine nx J20 (CN (ac (PS ?_)));refine ap ?_ ?_<;>intro h32;refine PS ?_;refine au ?_
 exact aE
  (aX (aX (aX (aX (bM rfl (by simp[fj, *]) SB)))))
  (λ_ s=>s)
  (tl9 (():Unit) trivial)
 refine PS ?_;refine au ?_
 exact aE
  (aX (aX (aX (aX (bM rfl (by simp[fj, *]) SB)))))
  (λ_ s=>s)
  (tl9 (():Unit) trivial)
 refine sr λ_ J21=>P2 ?_
 refine ap ?_ ?_<;>intro h7;refine nx J21 (CY (aR ?_))
 exact aE
  (aX (aX (aX (aX (bM rfl (by simp[eA, *]) SB)))))
  (λ_ s=>s)
  (tl5 (():Unit) trivial)
 refine nx J21 (CN (sr λ_ J22=>P2 ?_));refine ap ?_ ?_<;>intro h7;refine nx J22 (CY (aR ?_))
 exact aE
  (aX (aX (aX (aX (bM rfl (by simp[eA, *]) SB)))))
  (λ_ s=>s)
  (tl5 (():Unit) trivial)
 refine nx J22 (CN (ac (PS ?_)));refine ap ?_ ?_<;>intro h10;refine PS ?_;refine au ?_
 exact aE
  (aX (aX (aX (aX (bM rfl (by simp[eA, *]) SB)))))
  (λ_ s=>s)
  (tl5 (():Unit) trivial)
 refine PS ?_;refine au ?_
 exact aE
  (aX (aX (aX (aX (bM rfl (by simp[eA, *]) SB)))))
  (λ_ s=>s)
  (tl5 (():Unit) trivial)
theorem Du(m:RecT):
 DT 147 #[(.agg (ints m.flat).toArray)] T0 [] (dG (λr' H=>∃u,r'=u∧H=[cH u (la m) 5])):=by
 refine BD 77 Tryz.func147 rfl rfl rfl λw0 F hF=>sr λ_ J1=>XY (ints m.flat) λb1=>?_
 refine PS ?_;refine nx J1 (sr λ_ J2=>XA OB λb4=>?_);refine TL.ownNil 5 (λon=>?_);clear on;refine PS ?_;refine nx J2 (aa λ_ J3=>sr λ_ J4=>FA 0 eH aO ?_);refine LU 2 Y3 (lv m rfl) ?_;refine nx J4 (am (sr λ_ J5=>PS ?_));refine ap ?_ ?_<;>intro h8;refine PS ?_;refine nx J5 (CY (D1 2 bl ?_));refine PD 0 ?_;refine FD 1 0 eH aO ?_;refine LR 2 Y3 (lv m rfl) ?_;refine FD 5 2 eH bf ?_;refine ta 6 rfl (aN (vs:=ints m.row.flat) rfl el rfl bf rfl (λ_ h=>h.2.1) (ai m.row) (sU m 0 rfl (by decide) (whole (ai m.row)))) ?_;refine AL 3 ?_;refine aM (cells:=#[(.int .i64 (m.kind))]) (ab rfl) rfl rfl rfl eh oK rfl rfl rfl (by as_aux_lemma=>kernel_rfl) (λb12=>EN (AL 4 ?_));refine CQ kE (ej b4 (.slice none 0 0) ([]) (.slice (some ⟨b12,0,none⟩) (1) (1)) [m.kind] (by simp)) (SM [2,1]) (dW 0 rfl rfl rfl rfl) λvR HR hR=>?_
 obtain⟨u1,rfl,rfl⟩:=hR;refine EN (AL 7 ?_);refine CR JY (uE b4 u1 (bh [m.kind]) m.row (by(have:=aZ [m.kind]);simp only[BallotT.flat,ViewT.flat,ChangeT.flat,av,az,aB,ag]at*;omega)) ID λvR HR hR=>?_
 obtain⟨u2,rfl,rfl⟩:=hR;refine EN (DN (af (ad J3 (sr λ_ J6=>PS ?_))));refine CR nW (eM b4 u2 (bh [m.kind]++iv m.row) (by(have:=aZ [m.kind]);(have:=jc m.row);simp only[BallotT.flat,ViewT.flat,ChangeT.flat,av,az,aB,ag]at*;omega)) ID λvR HR hR=>?_
 obtain⟨_,rfl,rfl⟩:=hR;revert vR;intro u3;refine PS ?_;refine nx J6 (ah (WK [2] (aw rfl rfl ?_)));exact⟨_,rfl,congrArg (λb=>[cH u3 b 5]) (show(bh [m.kind]++iv m.row)=la m by simp[la,eA,fj,bh, *])⟩;refine PS ?_;refine nx J5 (CN (sr λ_ J7=>PS ?_));refine ap ?_ ?_<;>intro h18;refine PS ?_;refine nx J7 (CY (D1 2 bl ?_));refine PD 0 ?_;refine FD 1 0 eH aO ?_;refine LR 2 Y3 (lv m rfl) ?_;refine FD 3 1 eH aO ?_;refine LR 4 Y3 (Hd m rfl) ?_;refine FD 7 2 eH bf ?_;refine ta 8 rfl (aN (vs:=ints m.row.flat) rfl el rfl bf rfl (λ_ h=>h.2.1) (ai m.row) (sU m 0 rfl (by decide) (whole (ai m.row)))) ?_;refine AL 5 ?_;refine aM (cells:=#[(.int .i64 (m.kind)),(.int .i64 (m.whose))]) (ab rfl) rfl rfl rfl eh oK rfl rfl rfl (by as_aux_lemma=>kernel_rfl) (λb24=>EN (AL 6 ?_));refine CQ kE (ej b4 (.slice none 0 0) ([]) (.slice (some ⟨b24,0,none⟩) (2) (2)) [m.kind,m.whose] (by simp)) (SM [2,1]) (dW 0 rfl rfl rfl rfl) λvR HR hR=>?_
 obtain⟨u1,rfl,rfl⟩:=hR;refine EN (AL 9 ?_);refine CR JY (uE b4 u1 (bh [m.kind,m.whose]) m.row (by(have:=aZ [m.kind,m.whose]);simp only[BallotT.flat,ViewT.flat,ChangeT.flat,av,az,aB,ag]at*;omega)) ID λvR HR hR=>?_
 obtain⟨u2,rfl,rfl⟩:=hR;refine EN (DN (af (ad J3 (sr λ_ J8=>PS ?_))));refine CR nW (eM b4 u2 (bh [m.kind,m.whose]++iv m.row) (by(have:=aZ [m.kind,m.whose]);(have:=jc m.row);simp only[BallotT.flat,ViewT.flat,ChangeT.flat,av,az,aB,ag]at*;omega)) ID λvR HR hR=>?_
 obtain⟨_,rfl,rfl⟩:=hR;revert vR;intro u3;refine PS ?_;refine nx J8 (ah (WK [2] (aw rfl rfl ?_)));exact⟨_,rfl,congrArg (λb=>[cH u3 b 5]) (show(bh [m.kind,m.whose]++iv m.row)=la m by simp[la,eA,fj,bh, *])⟩;refine PS ?_;refine nx J7 (CN (sr λ_ J9=>PS ?_));refine ap ?_ ?_<;>intro h30;refine PS ?_;refine nx J9 (CY (ac (PS ?_)));refine FA 0 eH aO ?_;refine LU 2 Y3 (lv m rfl) ?_;refine FA 1 eH aO ?_;refine LU 2 Y3 (Hd m rfl) ?_;refine aM (cells:=#[(.int .i64 (m.kind)),(.int .i64 (m.whose))]) (ab rfl) rfl rfl rfl eh oK rfl rfl rfl (by as_aux_lemma=>kernel_rfl) (λb36=>CQ kE (ej b4 (.slice none 0 0) ([]) (.slice (some ⟨b36,0,none⟩) (2) (2)) [m.kind,m.whose] (by simp)) (SM [2,1]) (dW 0 rfl rfl rfl rfl) λvR HR hR=>?_);obtain⟨u1,rfl,rfl⟩:=hR;refine au (af (ad J3 (sr λ_ J10=>PS ?_)));refine CR nW (eM b4 u1 (bh [m.kind,m.whose]) (by(have:=aZ [m.kind,m.whose]);simp only[BallotT.flat,ViewT.flat,ChangeT.flat,av,az,aB,ag]at*;omega)) ID λvR HR hR=>?_
 obtain⟨_,rfl,rfl⟩:=hR;revert vR;intro u2;refine PS ?_;refine nx J10 (ah (WK [2] (aw rfl rfl ?_)));exact⟨_,rfl,congrArg (λb=>[cH u2 b 5]) (show(bh [m.kind,m.whose])=la m by simp[la,eA,fj,bh, *])⟩;refine PS ?_;refine nx J9 (CN (sr λ_ J11=>PS ?_));refine ap ?_ ?_<;>intro h39;refine PS ?_;refine nx J11 (CY (D1 2 bl ?_));refine PD 0 ?_;refine FD 1 0 eH aO ?_;refine LR 2 Y3 (lv m rfl) ?_;refine FD 3 176 eH aO ?_;refine LR 4 Y3 (RecT.at_epoch m rfl) ?_;refine FD 7 177 eH cJ ?_;refine ta 8 rfl (aN (vs:=ints m.ballot.flat) rfl kV rfl cJ rfl (λ_ h=>h.2.1) (aq m.ballot) (rK m 0 rfl (by decide) (whole (aq m.ballot)))) ?_;refine AL 5 ?_;refine aM (cells:=#[(.int .i64 (m.kind)),(.int .i64 (m.epoch))]) (ab rfl) rfl rfl rfl eh oK rfl rfl rfl (by as_aux_lemma=>kernel_rfl) (λb45=>EN (AL 6 ?_));refine CQ kE (ej b4 (.slice none 0 0) ([]) (.slice (some ⟨b45,0,none⟩) (2) (2)) [m.kind,m.epoch] (by simp)) (SM [2,1]) (dW 0 rfl rfl rfl rfl) λvR HR hR=>?_
 obtain⟨u1,rfl,rfl⟩:=hR;refine EN (AL 9 ?_);refine CR Ai (jZ b4 u1 (bh [m.kind,m.epoch]) m.ballot (by(have:=aZ [m.kind,m.epoch]);simp only[BallotT.flat,ViewT.flat,ChangeT.flat,av,az,aB,ag]at*;omega)) ID λvR HR hR=>?_
 obtain⟨u2,rfl,rfl⟩:=hR;refine EN (DN (af (ad J3 (sr λ_ J12=>PS ?_))));refine CR nW (eM b4 u2 (bh [m.kind,m.epoch]++bh m.ballot.flat) (by(have:=aZ [m.kind,m.epoch]);(have:=aZ (m.ballot.flat));simp only[BallotT.flat,ViewT.flat,ChangeT.flat,av,az,aB,ag]at*;omega)) ID λvR HR hR=>?_
 obtain⟨_,rfl,rfl⟩:=hR;revert vR;intro u3;refine PS ?_;refine nx J12 (ah (WK [2] (aw rfl rfl ?_)));exact⟨_,rfl,congrArg (λb=>[cH u3 b 5]) (show(bh [m.kind,m.epoch]++bh m.ballot.flat)=la m by simp[la,eA,fj,bh, *])⟩;refine PS ?_;refine nx J11 (CN (sr λ_ J13=>PS ?_));refine ap ?_ ?_<;>intro h51;refine PS ?_;refine nx J13 (CY (D1 2 bl ?_));refine PD 0 ?_;refine FD 1 0 eH aO ?_;refine LR 2 Y3 (lv m rfl) ?_;refine FD 3 176 eH aO ?_;refine LR 4 Y3 (RecT.at_epoch m rfl) ?_;refine FD 7 177 eH cJ ?_;refine ta 8 rfl (aN (vs:=ints m.ballot.flat) rfl kV rfl cJ rfl (λ_ h=>h.2.1) (aq m.ballot) (rK m 0 rfl (by decide) (whole (aq m.ballot)))) ?_;refine FD 10 179 eH fF ?_;refine ta 11 rfl (aN (vs:=ints m.change.flat) rfl mS rfl fF rfl (λ_ h=>h.2.1) (aJ m.change) (Oo m 0 rfl (by decide) (whole (aJ m.change)))) ?_;refine AL 5 ?_;refine aM (cells:=#[(.int .i64 (m.kind)),(.int .i64 (m.epoch))]) (ab rfl) rfl rfl rfl eh oK rfl rfl rfl (by as_aux_lemma=>kernel_rfl) (λb57=>EN (AL 6 ?_));refine CQ kE (ej b4 (.slice none 0 0) ([]) (.slice (some ⟨b57,0,none⟩) (2) (2)) [m.kind,m.epoch] (by simp)) (SM [2,1]) (dW 0 rfl rfl rfl rfl) λvR HR hR=>?_
 obtain⟨u1,rfl,rfl⟩:=hR;refine EN (AL 9 ?_);refine CR Ai (jZ b4 u1 (bh [m.kind,m.epoch]) m.ballot (by(have:=aZ [m.kind,m.epoch]);simp only[BallotT.flat,ViewT.flat,ChangeT.flat,av,az,aB,ag]at*;omega)) ID λvR HR hR=>?_
 obtain⟨u2,rfl,rfl⟩:=hR;refine EN (AL 12 ?_);refine CR JX (po b4 u2 (bh [m.kind,m.epoch]++bh m.ballot.flat) m.change (by(have:=aZ [m.kind,m.epoch]);(have:=aZ (m.ballot.flat));simp only[BallotT.flat,ViewT.flat,ChangeT.flat,av,az,aB,ag]at*;omega)) ID λvR HR hR=>?_
 obtain⟨u3,rfl,rfl⟩:=hR;refine EN (DN (af (ad J3 (sr λ_ J14=>PS ?_))));refine CR nW (eM b4 u3 (bh [m.kind,m.epoch]++bh m.ballot.flat++bh m.change.flat) (by(have:=aZ [m.kind,m.epoch]);(have:=aZ (m.ballot.flat));(have:=aZ (m.change.flat));simp only[BallotT.flat,ViewT.flat,ChangeT.flat,av,az,aB,ag]at*;omega)) ID λvR HR hR=>?_
 obtain⟨_,rfl,rfl⟩:=hR;revert vR;intro u4;refine PS ?_;refine nx J14 (ah (WK [2] (aw rfl rfl ?_)));exact⟨_,rfl,congrArg (λb=>[cH u4 b 5]) (show(bh [m.kind,m.epoch]++bh m.ballot.flat++bh m.change.flat)=la m by simp[la,eA,fj,bh, *])⟩;refine PS ?_;refine nx J13 (CN (sr λ_ J15=>PS ?_));refine ap ?_ ?_<;>intro h66;refine PS ?_;refine nx J15 (CY (D1 2 bl ?_));refine PD 0 ?_;refine FD 1 0 eH aO ?_;refine LR 2 Y3 (lv m rfl) ?_;refine FD 5 182 eH bj ?_;refine ta 6 rfl (aN (vs:=ints m.view.flat) rfl eG rfl bj rfl (λ_ h=>h.2.1) (an m.view) (Rt m 0 rfl (by decide) (whole (an m.view)))) ?_;refine AL 3 ?_;refine aM (cells:=#[(.int .i64 (m.kind))]) (ab rfl) rfl rfl rfl eh oK rfl rfl rfl (by as_aux_lemma=>kernel_rfl) (λb70=>EN (AL 4 ?_));refine CQ kE (ej b4 (.slice none 0 0) ([]) (.slice (some ⟨b70,0,none⟩) (1) (1)) [m.kind] (by simp)) (SM [2,1]) (dW 0 rfl rfl rfl rfl) λvR HR hR=>?_
 obtain⟨u1,rfl,rfl⟩:=hR;refine EN (AL 7 ?_);refine CR JW (rZ b4 u1 (bh [m.kind]) m.view (by(have:=aZ [m.kind]);simp only[BallotT.flat,ViewT.flat,ChangeT.flat,av,az,aB,ag]at*;omega)) ID λvR HR hR=>?_
 obtain⟨u2,rfl,rfl⟩:=hR;refine EN (DN (af (ad J3 (sr λ_ J16=>PS ?_))));refine CR nW (eM b4 u2 (bh [m.kind]++bh m.view.flat) (by(have:=aZ [m.kind]);(have:=aZ (m.view.flat));simp only[BallotT.flat,ViewT.flat,ChangeT.flat,av,az,aB,ag]at*;omega)) ID λvR HR hR=>?_
 obtain⟨_,rfl,rfl⟩:=hR;revert vR;intro u3;refine PS ?_;refine nx J16 (ah (WK [2] (aw rfl rfl ?_)));exact⟨_,rfl,congrArg (λb=>[cH u3 b 5]) (show(bh [m.kind]++bh m.view.flat)=la m by simp[la,eA,fj,bh, *])⟩;refine PS ?_;refine nx J15 (CN (aR (af (ad J3 (sr λ_ J17=>PS ?_)))));refine CR nW (eM b4 (.slice none 0 0) ([]) (by simp)) (SM [1,0]) λvR HR hR=>?_
 obtain⟨_,rfl,rfl⟩:=hR;revert vR;intro u1;refine PS ?_;refine nx J17 (ah (WK [2] (aw rfl rfl ?_)));exact⟨_,rfl,congrArg (λb=>[cH u1 b 5]) (show([]:List UInt8)=la m by simp[la,eA,fj,bh, *])⟩
open Dsk Wal
theorem rj(who:Int)(hm:cI who=true):DT 110 #[.int .i64 who] T0 [] (dG (λr' H=>∃u,r'=u∧H=[own u 2 [.int .i64 ((who+1)%5), .int .i64 ((who+2)%5)] 3 1])):=by
 have:=qn who;rw[show iD who=[(who+1)%5,(who+2)%5]by rw[iD,if_pos hm]]at this;exact this
theorem Fs(r:Nat)(x:RepT)(op err val:Int)(rs:List ReplyT)(hrs:rs.length≤1000000):
 DT 52 #[(.pointer (some ⟨r,0,none⟩)),(.int .i64 (op)),(.int .i64 (err)),(.int .i64 (val))] T0 [aj r (RepT.cells x) 95,own x.replies ((rs).length) (ints (List.flatMap ReplyT.flat (rs))) 45 3] (dG (λ_ H=>∃v',v'.oneCell'=true∧H=[aj r (RepT.cells {x with replies:=v'}) 95,own v' (rs++[ReplyT.mk op err val]).length (ints (List.flatMap ReplyT.flat (rs++[ReplyT.mk op err val]))) 45 3])):=by
 refine BD 21 Tryz.func52 rfl rfl rfl λw0 F hF=>ac (P3 ?_)
 refine FA 1942 dx yU ?_;refine LT 0 I6 x.replies ?_ (hc:=by exact RepT.at_replies x rfl);refine P3 ?_;refine tp (zu (cs:=ints (ReplyT.mk op err val).flat) (segs:=[[Value.int .i64 0],[Value.int .i64 0],[Value.int .i64 0]]) (res:=[[Value.int .i64 op],[Value.int .i64 err],[Value.int .i64 val]]) (parts:=[(0,[Value.int .i64 op]),(1,[Value.int .i64 err]),(2,[Value.int .i64 val])]) rfl rfl Tryz.underlying45 (by kernel_rfl) (by kernel_rfl) rfl (fI rfl rfl (fI rfl rfl (fI rfl rfl my))) (ReplyT.eq (ReplyT.mk op err val)).symm) ?_;refine aM (cells:=(ints (ReplyT.mk op err val).flat).toArray) (ab rfl) rfl rfl rfl I6 IA rfl rfl rfl (kc (ReplyT.len (ReplyT.mk op err val)) (by simp)) (λb17=>?_);change TL _ _ _ _ _ _ _ _ _ [aj b17 (ints (ReplyT.mk op err val).flat) 45,aj r (RepT.cells x) 95,own x.replies ((rs).length) (ints (List.flatMap ReplyT.flat (rs))) 45 3];refine bX (k:=2) (news:=ints (ReplyT.mk op err val).flat) (nn':=(rs++[ReplyT.mk op err val]).length) (xs':=ints (List.flatMap ReplyT.flat (rs++[ReplyT.mk op err val]))) (ab rfl) rfl rfl rfl I6 IA rfl rfl rfl rfl rfl rfl (λ_ _=>gn (ReplyT.len _) (RO 0) (by rw[bb,gC])) (bv _) (by simp only[maxLen];omega) (by omega) (by simp) (by simp[ints]) (λv18 ov18=>PS ?_);refine FA 1942 dx yU ?_;exact bK (i:=1) (ab rfl) rfl rfl rfl rfl ov18 yU rfl rfl (LB (di _)) (RepT.set_replies x rfl _) rfl (au (WK [1,1] (bC rfl ⟨_,ov18,rfl⟩)))
theorem Bt(r:Nat)(x:RepT)(who key:Int):
 DT 15 #[(.pointer (some ⟨r,0,none⟩)),(.int .i64 (who)),(.int .i64 (key))] T0 [aj r (RepT.cells x) 95] (RI (.int .i64 (dE x.book who key)) [aj r (RepT.cells x) 95]):=by
 refine BD 13 Tryz.func15 rfl rfl rfl λw0 F hF=>sr λ_ J1=>PS ?_
 refine nx J1 (sr λ_ J2=>P2 ?_);refine FA 1068 dx Cz ?_;refine P2 ?_;refine CE NZ (mZ r 1068 95 (λu=>RepT.cells {x with book:=u}) (gL x) x.book who key) ID ?_;refine PS ?_;exact nx J2 (ah (WK [0] (aw rfl rfl ⟨rfl,rfl⟩)))
theorem HZ(r:Nat)(x:RepT):
 DT 126 #[(.pointer (some ⟨r,0,none⟩))] T0 [aj r (RepT.cells x) 95] (RI (.agg (ints x.own.flat).toArray) [aj r (RepT.cells x) 95]):=by
 refine BD 7 Tryz.func126 rfl rfl rfl λw0 F hF=>sr λ_ J1=>XZ vw (ints RowT.zero.flat) λb2=>?_
 refine nx J1 (sr λ_ J2=>P2 ?_);refine FA 9 dx bf ?_;refine LV 1 el bf ai EL (y:=x.own) ?_;refine SW 0 bf ai ?_;refine nx J2 (ah (RC 0 [1] el bf (ai _) ?_));exact⟨rfl,rfl⟩
theorem Fu(r:Nat)(x:RepT):
 DT 125 #[(.pointer (some ⟨r,0,none⟩))] T0 [aj r (RepT.cells x) 95] (RI (.agg (ints x.view.flat).toArray) [aj r (RepT.cells x) 95]):=by
 refine BD 7 Tryz.func125 rfl rfl rfl λw0 F hF=>sr λ_ J1=>XZ sV (ints ViewT.zero.flat) λb2=>?_
 refine nx J1 (sr λ_ J2=>P2 ?_);refine FA 2 dx bj ?_;refine LV 1 eG bj an dh (y:=x.view) ?_;refine SW 0 bj an ?_;refine nx J2 (ah (RC 0 [1] eG bj (an _) ?_));exact⟨rfl,rfl⟩
theorem xM(r:Nat)(x:RepT)(who:Int):
 DT 33 #[(.pointer (some ⟨r,0,none⟩)),(.int .i64 (who))] T0 [aj r (RepT.cells x) 95] (RI (.tuple #[.agg (ints (mirRow x.mirror who).flat).toArray, .bool (fg x.mirror who)]) [aj r (RepT.cells x) 95]):=by
 refine BD 16 Tryz.func33 rfl rfl rfl λw0 F hF=>sr λ_ J1=>XZ vw (ints RowT.zero.flat) λb4=>?_
 refine PS ?_;refine nx J1 (aa λ_ J2=>D0 bl ?_);refine PD 0 ?_;refine PD 1 ?_;refine FD 2 183 dx uM ?_;refine PD 3 ?_;refine PD 5 ?_;refine PD 6 ?_;refine FD 7 183 dx uM ?_;refine PD 8 ?_;refine AL 4 ?_;refine CE JV (mD r 183 95 (λu=>RepT.cells {x with mirror:=u}) (ey x) x.mirror who) (SM [1]) ?_;refine EN (AL 9 ?_);refine CE NO (nY r 183 95 (λu=>RepT.cells {x with mirror:=u}) (ey x) x.mirror who) ID ?_;refine EN (AL 10 ?_);refine SW 1 bf ai ?_;refine EN (PD 11 ?_);refine DN (ad J2 (ah (RT 1 [0] el bf (ai _) ?_)));exact⟨rfl,rfl⟩
theorem Bp(r:Nat)(x:RepT)(rs:List ReplyT)(hrs:rs.length≤1000000):
 DT 37 #[(.pointer (some ⟨r,0,none⟩))] T0 [aj r (RepT.cells x) 95,own x.replies ((rs).length) (ints (List.flatMap ReplyT.flat (rs))) 45 3] (dG (λr' H=>∃u,r'=u∧H=[aj r (RepT.cells x) 95,own x.replies rs.length (ints (List.flatMap ReplyT.flat rs)) 45 3,own u rs.length (ints (List.flatMap ReplyT.flat rs)) 45 3])):=by
 refine BD 8 Tryz.func37 rfl rfl rfl λw0 F hF=>sr λ_ J1=>I2 45 3 (λ_=>PS ?_)
 refine nx J1 (sr λ_ J2=>P2 ?_);refine FA 1942 dx yU ?_;refine LT 1 I6 x.replies ?_ (hc:=by exact RepT.at_replies x rfl);refine bX (k:=0) (news:=ints (List.flatMap ReplyT.flat rs)) (nn':=rs.length) (xs':=ints (List.flatMap ReplyT.flat rs)) (ab rfl) rfl rfl rfl I6 IA rfl rfl rfl rfl rfl rfl (λ_ s=>Ld 2 rfl rfl s) (bv _) (by simp only[maxLen];omega) (by omega) (by simp) (by simp) (λv7 ov7=>PS ?_);exact nx J2 (ah (WK [1,1,0] (aw rfl rfl ⟨_,rfl,rfl⟩)))
end Go.Proofs.YtkhjnolhhidecaaGreatDoor
end

section
namespace Api
open Go Leg Codec Dsk Wal
def kZ(w:Int)(x:RowT):RecT:= {RecT.zero with kind:=1,whose:=w,row:=x}
def j7(w:Int):RecT:= {RecT.zero with kind:=2,whose:=w}
def j0(v:ViewT):RecT:= {RecT.zero with kind:=5,view:=v}
def pJ(v:Int):MsgT:= {MsgT.zero with kind:=1,version:=v}
def eW(w:Int)(x:RowT):MsgT:= {MsgT.zero with kind:=9,whose:=w,row:=x}
section
variable {x:RepT} {from' w:Int} {y:RowT} {recs:List (List UInt8)}
end
section
variable {x:RepT} {from' w:Int} {v:ViewT} {recs:List (List UInt8)}
end
end Api
end

section
namespace Go.Proofs.YtkhjnolhhidecaaGreatDoor
open Go Leg Codec Api Dsk Wal
theorem H7(r:Nat)(x:RepT)(o:OpT):
 DT 51 #[(.pointer (some ⟨r,0,none⟩)),(.agg (ints o.flat).toArray)] T0 [aj r (RepT.cells x) 95] (RI (.tuple #[.agg (ints (kD x o).1.flat).toArray, .int .i64 (kD x o).2.1, .int .i64 (kD x o).2.2]) [aj r (RepT.cells x) 95]):=by
 refine BD 121 Tryz.func51 rfl rfl rfl λw0 F hF=>sr λ_ J1=>XY (ints o.flat) λb3=>?_
 refine XZ vw (ints RowT.zero.flat) λb4=>?_
 refine P2 ?_;refine nx J1 (aa λ_ J2=>aa λ_ J3=>D1 2 bl ?_);refine PD 0 ?_;refine PD 1 ?_;refine FD 2 2 dx bj ?_;refine ta 3 rfl (aN (vs:=ints x.view.flat) rfl eG rfl bj rfl (λ_ h=>h.2.1) (an x.view) (gH x 0 rfl (by decide) (whole (an x.view)))) ?_;refine PD 4 ?_;refine PD 5 ?_;refine FD 6 0 dx aO ?_;refine LR 7 Y3 (cT x rfl) ?_;refine AL 8 ?_;refine CE qK (dU x.view x.id) ID ?_;refine bg ?_ ?_<;>intro h17;refine EN (PD 9 ?_);refine DN (ad J3 (CN (qx J2 (aa λ_ J4=>sr λ_ J5=>FA 3 eZ aO ?_))));refine LU 1 Y3 (ol o rfl) ?_;refine PS ?_;refine ap ?_ ?_<;>intro h22;have hkb:nr o.key=false:=decide_eq_false (by omega);refine PS ?_
 iterate 3 refine UT ?_
 refine PS ?_;refine nx J5 (CY (sr λ_ J6=>BV ((ints RowT.zero.flat).toArray) ?_));refine SW 0 bf ai ?_;refine P2 ?_;refine nx J6 (ah (ae (RU 0 [2] el bf (ai _) ?_)));exact⟨by simp[kD,fT, *],rfl⟩;refine PS ?_;refine FA 3 eZ aO ?_;refine LU 1 Y3 (ol o rfl) ?_;refine PS ?_;refine ap ?_ ?_<;>intro h26;have hkb:nr o.key=false:=decide_eq_false (by omega);refine PS ?_;refine nx J5 (CY (sr λ_ J7=>BV ((ints RowT.zero.flat).toArray) ?_));refine SW 0 bf ai ?_;refine P2 ?_;refine nx J7 (ah (ae (RU 0 [2] el bf (ai _) ?_)));exact⟨by simp[kD,fT, *],rfl⟩;have hkb:nr o.key=true:=decide_eq_true (by omega);refine PS ?_;refine nx J5 (CN (qx J4 (aa λ_ J8=>sr λ_ J9=>FA 0 eZ aO ?_)));refine LU 1 Y3 (cN o rfl) ?_;refine PS ?_;refine ap ?_ ?_<;>intro h31;refine nx J9 (CY (aa λ_ J10=>D1 1 bl ?_));refine ta 0 rfl (kM (cells:=(ints RowT.zero.flat).toArray) rfl rfl (by as_aux_lemma=>kernel_rfl)) ?_;refine PD 1 ?_;refine PD 2 ?_;refine FD 3 1068 dx Cz ?_;refine FD 4 3 eZ aO ?_;refine LR 5 Y3 (ol o rfl) ?_;refine AL 6 ?_;refine CE N0 (n6 r 1068 95 (λu=>RepT.cells {x with book:=u}) (gL x) x.book o.key) (SM [2]) ?_;refine EN (AL 7 ?_);refine SW 1 bf ai ?_;refine EN (PD 8 ?_);refine PD 9 ?_;refine DN (ad J10 (ah (ae (RU 1 [0] el bf (ai _) ?_))));exact⟨by simp[kD,fT, *],rfl⟩;refine nx J9 (CN (qx J8 (aa λ_ J11=>sr λ_ J12=>P2 ?_)));refine FA 1938 dx lT ?_;refine LU 2 Y4 (zo x rfl) ?_;refine bg ?_ ?_<;>intro h42
 refine nx J12 (CY (sr λ_ J13=>BV ((ints RowT.zero.flat).toArray) ?_));refine SW 0 bf ai ?_;refine P2 ?_;refine nx J13 (ah (ae (RU 0 [2] el bf (ai _) ?_)));exact⟨by simp[kD,fT, *],rfl⟩;refine nx J12 (CN (qx J11 (sr λ_ J14=>XZ vw (ints RowT.zero.flat) λb7=>?_)));refine nx J14 (sr λ_ J15=>PS ?_);refine nx J15 (aa λ_ J16=>sr λ_ J17=>FA 0 eZ aO ?_);refine LU 2 Y3 (cN o rfl) ?_;refine nx J17 (am (sr λ_ J18=>PS ?_));refine ap ?_ ?_<;>intro h47;refine PS ?_;refine nx J18 (CY (D2 3 2 bl ?_));refine PD 0 ?_;refine PD 1 ?_;refine FD 2 9 dx bf ?_;refine ta 3 rfl (aN (vs:=ints x.own.flat) rfl el rfl bf rfl (λ_ h=>h.2.1) (ai x.own) (zm x 0 rfl (by decide) (whole (ai x.own)))) ?_;refine FD 4 3 eZ aO ?_;refine LR 5 Y3 (ol o rfl) ?_;refine FD 6 4 eZ aO ?_;refine LR 7 Y3 (rc o rfl) ?_;refine AL 8 ?_;refine CE QJ (Dq x.own o.key o.n) ID ?_;refine EN (PD 9 ?_);refine PD 10 ?_;refine PD 11 ?_;refine AL 12 ?_;refine SW 0 bf ai ?_;refine EN (PD 13 ?_);refine DN (af (ad J16 (aa λ_ J19=>sr λ_ J20=>P2 ?_)));refine ap ?_ ?_<;>intro h98;refine nx J20 (CY (sr λ_ J21=>BV ((ints RowT.zero.flat).toArray) ?_));refine PS ?_;refine SW 1 bf ai ?_;refine P2 ?_;refine nx J21 (ah (ae (RU 1 [3] el bf (ai _) ?_)));exact⟨by simp[kD,fT, *],rfl⟩;refine nx J20 (CN (qx J19 (aa λ_ J22=>aa λ_ J23=>D2 2 3 bl ?_)));refine FD 0 0 eZ aO ?_;refine LR 1 Y3 (cN o rfl) ?_;refine PD 2 ?_;refine kg ?_ ?_<;>intro h103
 · exact absurd h47 h103
 refine PD 3 ?_;refine NT 4 ?_;refine NT 5 ?_;refine NT 6 ?_;refine NT 7 ?_;refine NT 8 ?_;refine NT 9 ?_;refine NT 10 ?_;refine NT 11 ?_;refine NT 12 ?_;refine NT 13 ?_;refine NT 14 ?_;refine NT 15 ?_;refine NT 16 ?_;refine PD 17 ?_;refine DN (ad J23 (CN (qx J22 (sr λ_ J24=>LW 0 el bf ai ?_))));refine SW 1 bf ai ?_;refine P2 ?_;refine nx J24 (ah (RU 1 [3] el bf (ai _) ?_));exact⟨by simp[kD,fT, *],rfl⟩;refine PS ?_;refine nx J18 (CN (sr λ_ J25=>PS ?_));refine ap ?_ ?_<;>intro h61;refine PS ?_;refine nx J25 (CY (D2 3 2 bl ?_));refine PD 0 ?_;refine PD 1 ?_;refine FD 2 9 dx bf ?_;refine ta 3 rfl (aN (vs:=ints x.own.flat) rfl el rfl bf rfl (λ_ h=>h.2.1) (ai x.own) (zm x 0 rfl (by decide) (whole (ai x.own)))) ?_;refine FD 4 3 eZ aO ?_;refine LR 5 Y3 (ol o rfl) ?_;refine FD 6 4 eZ aO ?_;refine LR 7 Y3 (rc o rfl) ?_;refine AL 8 ?_;refine CE QI (Dr x.own o.key o.n) ID ?_;refine EN (PD 9 ?_);refine PD 10 ?_;refine PD 11 ?_;refine AL 12 ?_;refine SW 0 bf ai ?_;refine EN (PD 13 ?_);refine DN (af (ad J16 (aa λ_ J26=>sr λ_ J27=>P2 ?_)));refine ap ?_ ?_<;>intro h98;refine nx J27 (CY (sr λ_ J28=>BV ((ints RowT.zero.flat).toArray) ?_));refine PS ?_;refine SW 1 bf ai ?_;refine P2 ?_;refine nx J28 (ah (ae (RU 1 [3] el bf (ai _) ?_)));exact⟨by simp[kD,fT, *],rfl⟩;refine nx J27 (CN (qx J26 (aa λ_ J29=>aa λ_ J30=>D2 2 3 bl ?_)));refine FD 0 0 eZ aO ?_;refine LR 1 Y3 (cN o rfl) ?_;refine PD 2 ?_;refine kg ?_ ?_<;>intro h103;refine PD 3 ?_
 refine PD 4 ?_;refine PD 5 ?_;refine FD 6 1068 dx Cz ?_;refine PD 7 ?_;refine PD 8 ?_;refine FD 9 0 dx aO ?_;refine LR 10 Y3 (cT x rfl) ?_;refine FD 11 3 eZ aO ?_;refine LR 12 Y3 (ol o rfl) ?_;refine FD 14 4 eZ aO ?_;refine LR 15 Y3 (rc o rfl) ?_;refine AL 13 ?_;refine CE NZ (mZ r 1068 95 (λu=>RepT.cells {x with book:=u}) (gL x) x.book x.id o.key) (SM [3]) ?_;refine EN (PD 16 ?_);refine kg ?_ ?_<;>intro h117;refine PD 17 ?_;refine DN (ad J30 (CY (sr λ_ J31=>BV ((ints RowT.zero.flat).toArray) ?_)));refine SW 2 bf ai ?_;refine P2 ?_;refine nx J31 (ah (ae (RU 2 [0] el bf (ai _) ?_)));exact⟨by simp[kD,fT, *],rfl⟩;refine PD 17 ?_;refine DN (ad J30 (CN (qx J29 (sr λ_ J32=>LW 1 el bf ai ?_))));refine SW 2 bf ai ?_;refine P2 ?_;refine nx J32 (ah (RU 2 [0] el bf (ai _) ?_));exact⟨by simp[kD,fT, *],rfl⟩
 · exact absurd h47 h103
 refine PS ?_;refine nx J25 (CN (sr λ_ J33=>PS ?_));refine ap ?_ ?_<;>intro h75;refine PS ?_;refine nx J33 (CY (aa λ_ J34=>D2 2 3 bl ?_));refine FD 0 2 eZ aO ?_;refine LR 1 Y3 (iG o rfl) ?_;refine PD 2 ?_;refine PD 3 ?_;refine FD 4 0 dx aO ?_;refine LR 5 Y3 (cT x rfl) ?_;refine PD 6 ?_;refine kg ?_ ?_<;>intro h82;refine DN (ad J34 (CY (D2 3 2 bl ?_)));refine PD 0 ?_;refine PD 1 ?_;refine FD 2 9 dx bf ?_;refine ta 3 rfl (aN (vs:=ints x.own.flat) rfl el rfl bf rfl (λ_ h=>h.2.1) (ai x.own) (zm x 0 rfl (by decide) (whole (ai x.own)))) ?_;refine FD 4 3 eZ aO ?_;refine LR 5 Y3 (ol o rfl) ?_;refine FD 6 4 eZ aO ?_;refine LR 7 Y3 (rc o rfl) ?_;refine FD 8 2 eZ aO ?_;refine LR 9 Y3 (iG o rfl) ?_;refine AL 10 ?_;refine CE QH (Bm x.own o.key o.n o.to') ID ?_;refine EN (PD 11 ?_);refine PD 12 ?_;refine PD 13 ?_;refine AL 14 ?_;refine SW 0 bf ai ?_;refine EN (PD 15 ?_);refine DN (af (ad J16 (aa λ_ J35=>sr λ_ J36=>P2 ?_)));refine ap ?_ ?_<;>intro h98;refine nx J36 (CY (sr λ_ J37=>BV ((ints RowT.zero.flat).toArray) ?_));refine PS ?_;refine SW 1 bf ai ?_;refine P2 ?_;refine nx J37 (ah (ae (RU 1 [3] el bf (ai _) ?_)));exact⟨by simp[kD,fT, *],rfl⟩;refine nx J36 (CN (qx J35 (aa λ_ J38=>aa λ_ J39=>D2 2 3 bl ?_)));refine FD 0 0 eZ aO ?_;refine LR 1 Y3 (cN o rfl) ?_;refine PD 2 ?_;refine kg ?_ ?_<;>intro h103;refine PD 3 ?_;refine PD 4 ?_;refine PD 5 ?_;refine FD 6 1068 dx Cz ?_;refine PD 7 ?_;refine PD 8 ?_;refine FD 9 0 dx aO ?_
 refine LR 10 Y3 (cT x rfl) ?_;refine FD 11 3 eZ aO ?_;refine LR 12 Y3 (ol o rfl) ?_;refine FD 14 4 eZ aO ?_;refine LR 15 Y3 (rc o rfl) ?_;refine AL 13 ?_;refine CE NZ (mZ r 1068 95 (λu=>RepT.cells {x with book:=u}) (gL x) x.book x.id o.key) (SM [3]) ?_;refine EN (PD 16 ?_);refine kg ?_ ?_<;>intro h117;refine PD 17 ?_;refine DN (ad J39 (CY (sr λ_ J40=>BV ((ints RowT.zero.flat).toArray) ?_)));refine SW 2 bf ai ?_;refine P2 ?_;refine nx J40 (ah (ae (RU 2 [0] el bf (ai _) ?_)));exact⟨by simp[kD,fT, *],rfl⟩;refine PD 17 ?_;refine DN (ad J39 (CN (qx J38 (sr λ_ J41=>LW 1 el bf ai ?_))));refine SW 2 bf ai ?_;refine P2 ?_;refine nx J41 (ah (RU 2 [0] el bf (ai _) ?_));exact⟨by simp[kD,fT, *],rfl⟩
 · exact absurd h47 h103
 refine DN (ad J34 (CN (aR (af (ad J16 (aa λ_ J42=>sr λ_ J43=>P2 ?_))))));refine nx J43 (CY (sr λ_ J44=>BV ((ints RowT.zero.flat).toArray) ?_));refine PS ?_;refine SW 1 bf ai ?_;refine P2 ?_;refine nx J44 (ah (ae (RU 1 [3] el bf (ai _) ?_)));exact⟨by simp[kD,fT, *],rfl⟩;refine PS ?_;refine nx J33 (CN (aR (af (ad J16 (aa λ_ J45=>sr λ_ J46=>P2 ?_)))));refine nx J46 (CY (sr λ_ J47=>BV ((ints RowT.zero.flat).toArray) ?_));refine PS ?_;refine SW 1 bf ai ?_;refine P2 ?_;refine nx J47 (ah (ae (RU 1 [3] el bf (ai _) ?_)));exact⟨by simp[kD,fT, *],rfl⟩;refine EN (PD 9 ?_);refine DN (ad J3 (CY (sr λ_ J48=>BV ((ints RowT.zero.flat).toArray) ?_)));refine SW 0 bf ai ?_;refine P2 ?_;refine nx J48 (ah (ae (RU 0 [2] el bf (ai _) ?_)));exact⟨by simp[kD,fT, *],rfl⟩
theorem FT(x:Value)(l:List Int)(v:Int)(hl:l.length≤1000000):
    DT 172 #[x,(.int .i64 (v))] (IsI .i64 x l) [] (dG (λr' H=>∃n:Int,r'= .int .i64 n∧(decide (n≥0)=true↔v∈l)∧H=[])):=by
 refine BD 19 Tryz.func172 rfl rfl rfl λw0 F hF=>sr λ_ J1=>PS ?_
 refine nx J1 (aa λ_ J2=>sr λ_ J3=>PS ?_);refine tp (dO rfl eh rfl hF.len) ?_;refine PS ?_;refine nx J3 (am ?_)
 refine bG (α:=(Nat)) (λk=>k≤l.length∧∀(j:Nat),j<k→l.getD j 0≠v) (λk=>[(0,x),(1,(.int .i64 (v))),(7,(.int .i64 (((l.length:Nat):Int)))),(8,(.int .i64 (((k:Nat):Int))))]) (λk=>[]) (λk=>l.length-k) 0
     ⟨aP _,λj h=>absurd h (by omega)⟩ SB
     (λ_ s=>s) (λk hinv=>?_)
 obtain⟨hk,hv⟩:=hinv;refine sr λ_ J4=>PS ?_
 refine ap ?_ ?_<;>intro h9;obtain⟨b_a,off_a,cap_a,cs_a,T_a,z_a,hv_a,hb_a,hcs_a,hcp_a⟩:=IsI.at hF (j:=k) (by omega);refine nx J4 (aa λ_ J5=>CY (qx J5 (aa λ_ J6=>am (sr λ_ J7=>P2 ?_))));refine nx J7 (sr λ_ J8=>P3 ?_);refine tp (bn (r:=off_a+k) hv_a rfl eh aO rfl rfl (by omega) (by omega) (by omega)) ?_;refine tp (cm (v:=(.int .i64 ((l.getD k 0)))) rfl Y3 rfl rfl (jW hb_a (λ_ h=>fD h)) hcs_a) ?_;refine PS ?_;refine ap ?_ ?_<;>intro h16;refine nx J8 (CY (sr λ_ J9=>P2 ?_));refine nx J9 (ah (aI (ae (ae (aI (ae (WK [] (aw rfl rfl ?_))))))));exact⟨((k:Nat):Int),rfl,by rw[decide_eq_true_iff];exact⟨λ_=>by rw[h16,List.getD_eq_getElem?_getD,List.getElem?_eq_getElem (by omega)];exact ez _,λ_=>by omega⟩,rfl⟩;refine nx J8 (CN (aR (af (ad J6 (ac (AD ?_))))));refine PS ?_;refine au ?_
 exact aL ((k+1):(Nat)) ⟨by omega,λj hj=>by
        by_cases q:j=k
        · subst q;exact λe=>h16 e.symm
        · exact hv j (by omega)⟩ (by show l.length- (k+1)<l.length-k;omega)
   SB
   (λ_ s=>s)
 refine nx J4 (aa λ_ J10=>CN (aW (aA (aA (bq (ad J2 (sr λ_ J11=>PS ?_)))))));refine nx J11 (ah (WK [] (aw rfl rfl ?_)))
 exact⟨-1,rfl,by
      rw[decide_eq_true_iff];constructor
      · intro h;omega
      · intro h
        obtain⟨j,hj,e⟩:=gP h;have:=hv j (by omega);rw[List.getD_eq_getElem?_getD,List.getElem?_eq_getElem hj]at this
        exact absurd e this,rfl⟩
theorem rW(x:Value)(l:List Int)(v:Int)(hl:l.length≤1000000):
 DT 149 #[x,(.int .i64 (v))] (IsI .i64 x l) [] (RI (.bool (decide (v∈l))) []):=by
 refine BD 9 Tryz.func149 rfl rfl rfl λw0 F hF=>sr λ_ J1=>PS ?_
 refine nx J1 (sr λ_ J2=>P2 ?_);refine CQ Pl (FT x l v hl) ID (λ_ d _=>IsI.more hF d) λvR HR hR=>?_
 obtain⟨n,rfl,hn,rfl⟩:=hR;refine P2 ?_;refine nx J2 (ah (WK [] (aw rfl rfl ?_)));exact⟨congrArg Value.bool (by rw[Ot,hn,decide_eq_true_iff]),rfl⟩
end Go.Proofs.YtkhjnolhhidecaaGreatDoor
end

section
namespace Api
open Go Leg Codec
theorem yk: ∀(a b:List CellT),a.length=b.length→bS a=bS b→a=b
 | [],[],_,_=>rfl
 | [],_::_,h,_=>by cases h
 |_::_,[],h,_=>by cases h
 |x::a,y::b,h,e=>by
  simp only[bS,cS]at e;obtain⟨h1,h2⟩:=List.append_inj e (by simp[CellT.flat]);rw[IG h1,yk a b (by simpa using h) h2]
theorem IF{v w:Vector CellT 4}(h:bS v.toList=bS w.toList):v=w:=Vector.toList_inj.1 (yk _ _ (by simp) h)
theorem zB{n:Int}(h:(Lit.int .i64 n).wf=true): -9223372036854775808≤n∧n<9223372036854775808:=by
 have m1:IntKind.i64.min= -9223372036854775808:=by decide
 have m2:IntKind.i64.max=9223372036854775807:=by decide
 simp only[Lit.wf,m1,m2,ao,decide_eq_true_eq]at h;omega
theorem EC: ∀(l:List Int) (s:Int),(oO l s).2=0→∀n∈l,DH n=true
 | [],_,_,n,hn=>by cases hn
 |a::l,s,h,n,hn=>by
  rw[oO]at h
  by_cases h1:DH a=true
  · rw[if_pos h1]at h
    by_cases h2:a>1099511627776-s
    · rw[if_pos h2]at h;cases h
    · rw[if_neg h2]at h
      rcases bU.1 hn with rfl|hn
      · exact h1
      · exact EC l _ h n hn
  · rw[if_neg h1]at h;cases h
theorem uZ{n:Int}(h:DH n=true):rY n:=by
 have:0≤n∧n≤1099511627776:=of_decide_eq_true h;exact⟨this.1,by omega⟩
theorem TameC.of{c:CellT}(h:Lp c=true):TameC c:=by
 unfold Lp at h;rw[ao,ao,decide_eq_true_iff]at h;refine⟨uZ h.1.1,uZ h.1.2,λj hj=>uZ (EC _ _ h.2 _ ?_)⟩;rw[←Vector.getElem_toList (h:=by simpa using hj)];exact ez _
theorem Ah{v:Vector CellT 4}(h:y3 v=true)(k:Nat)(hk:k<4):TameC v[k]:=TameC.of (of_decide_eq_true h k hk)
theorem TameR.of{x:RowT}(hw:WF x.flat)(h:gh x=true):TameR x:=by
 unfold gh at h;rw[ao,ao,decide_eq_true_iff,decide_eq_true_iff]at h;obtain⟨⟨h1,h2⟩,h3⟩:=h
 have hh: ∀(j:Nat) (hj:j<5),(0:Int)≤x.heir[j]∧y3 x.left[j]=true∧(x.heir[j]=(0:Int)→bS x.left[j].toList=bS RowT.zero.left[0].toList):=λj hj=>by
  have:=h3 j hj;unfold BO at this;rw[ao,ao,decide_eq_true_iff,decide_eq_true_iff]at this;exact⟨this.1.1,this.1.2,this.2⟩
 refine⟨⟨h1,(zB (hw _ (by simp[RowT.flat]))).2⟩,λk hk=>Ah h2 k hk,λj hj=>⟨(hh j hj).1,(zB (hw _ ?_)).2⟩,λj k hj hk=>Ah (hh j hj).2.1 k hk,λj hj e=>IF ((hh j hj).2.2 e)⟩;have:x.heir[j]∈x.heir.toList:=by rw[←Vector.getElem_toList (h:=by simpa using hj)];exact ez _
 simp[RowT.flat,this]
theorem sY{n:Int}{l:List Int}(h:0≤n∧n<9223372036854775808)(hl:WF l):WF (n::l):=λm hm=>by
 rcases bU.1 hm with rfl|hm
 · exact sX h
 · exact hl m hm
theorem mT{a b:List Int}(ha:WF a)(hb:WF b):WF (a++b):=λm hm=>by
 rcases fw.1 hm with hm|hm
 · exact ha m hm
 · exact hb m hm
theorem Jd:WF []:=λ_ h=>by cases h
theorem OkB.wf{b:BallotT}(h:OkB b):WF b.flat:=sY h.1 (sY ⟨h.2.1,by have:=h.2.2;omega⟩ Jd)
theorem OkC.wf{c:ChangeT}(h:OkC c):WF c.flat:=sY ⟨h.1.1,by have:=h.1.2;omega⟩ (sY ⟨h.2.1.1,by have:=h.2.1.2;omega⟩ (sY ⟨h.2.2.1,by have:=h.2.2.2;omega⟩ Jd))
theorem Qr:Nm 0:=⟨by decide,by decide⟩
theorem IL{m:MsgT}(h:OkM m):cX (tR m)=cX m:=by
 have hk:=h.kind;unfold tR;split
 · rename_i c;simp only[cX,c,if_true]
 split
 · rename_i c0 c;simp only[cX,if_neg c0,if_pos c]
 split
 · rename_i c0 c1 c;simp only[cX,if_neg c0,if_neg c1,if_pos c]
 split
 · rename_i c0 c1 c2 c;simp only[cX,if_neg c0,if_neg c1,if_neg c2,if_pos c]
 split
 · rename_i c0 c1 c2 c3 c;simp only[cX,if_neg c0,if_neg c1,if_neg c2,if_neg c3,if_pos c]
 split
 · rename_i c0 c1 c2 c3 c4 c;simp only[cX,if_neg c0,if_neg c1,if_neg c2,if_neg c3,if_neg c4,if_pos c]
 · rename_i c0 c1 c2 c3 c4 c5;simp only[cX,if_neg c0,if_neg c1,if_neg c2,if_neg c3,if_neg c4,if_neg c5]
theorem Mw{m:MsgT}(h:OkM m)(ho:ES m=true):cL (cX (tR m))=some ((tR m,true),[]):=by
 have:=Mp h [];rw[ho,aY]at this;rw[IL h];exact this
theorem KE{m:MsgT}(h:OkM m)(ho:ES m=true):jx (cX (tR m))=(tR m,0):=by unfold jx;rw[Mw h ho]
theorem uj(m:MsgT):(cX m).length≤3000:=by
 have h1:=jc m.row;have h2:=aZ m.ballot.flat;have h3:=aZ m.had.flat;have h4:=aZ m.change.flat;have h5:=aZ m.view.flat;have h6:=aZ [m.kind,m.whose];have h7:=aZ [m.kind,m.version];have h8:=aZ [m.kind,m.epoch];have h9:=aZ [m.kind];simp only[BallotT.flat,ChangeT.flat,ViewT.flat,av,az,aB]at h2 h3 h4 h5 h6 h7 h8 h9;unfold cX;split
 · simp only[ag];omega
 split
 · omega
 split
 · simp only[ag,BallotT.flat];omega
 split
 · simp only[ag,BallotT.flat,ChangeT.flat];omega
 split
 · simp only[ag,BallotT.flat,ChangeT.flat];omega
 split
 · simp only[ag,ViewT.flat];omega
 split
 · simp only[ag,ViewT.flat];omega
 · simp
theorem Dt:gh RowT.zero=true:=by decide+kernel
theorem L8{m:RecT}{bs r:List UInt8}(h:dK bs=some ((m,true),r)):gh m.row=true:=by
 obtain⟨k,r1,_,h⟩:=bp h;split at h
 · obtain⟨_,_,_,h⟩:=bp h
   obtain⟨e,_⟩:=gy h;injection e with e1 e2;subst e1;exact e2
 split at h
 · obtain⟨_,_,_,h⟩:=bp h
   obtain⟨_,_,_,h⟩:=bp h;obtain⟨e,_⟩:=gy h;injection e with e1 e2;subst e1;exact e2
 have fin: ∀{m':RecT} {g:Bool} {b r:List UInt8},pr (m',g) b=some ((m,true),r)→m'.row= .zero→gh m.row=true:=λh e=>by
  obtain⟨e',_⟩:=gy h;injection e' with e1 e2;subst e1;rw[e];exact Dt
 split at h
 · obtain⟨_,_,_,h⟩:=bp h;exact fin h rfl
 split at h
 · obtain⟨_,_,_,h⟩:=bp h;obtain⟨_,_,_,h⟩:=bp h;exact fin h rfl
 split at h
 · obtain⟨_,_,_,h⟩:=bp h;obtain⟨_,_,_,h⟩:=bp h;obtain⟨_,_,_,h⟩:=bp h;exact fin h rfl
 split at h
 · obtain⟨_,_,_,h⟩:=bp h;exact fin h rfl
 · exact fin h rfl
theorem KC(bs:List UInt8):(∃m,pa bs=(m,0)∧bs=la m∧gh m.row=true∧WF m.row.flat)∨pa bs=(.zero,1):=by
 unfold pa;split
 · rename_i m h
   obtain⟨h1,_,_,_,h5⟩:=JH h;rw[aY]at h1;exact .inl ⟨m,rfl,h1,L8 h,h5.wf⟩
 · exact .inr rfl
end Api
end

section
namespace Go.Proofs.YtkhjnolhhidecaaGreatDoor
open Go Leg Codec Api
theorem xK(ob:Nat)(ok:Bool):DoesD Tryz.prog 132 #[(.pointer (some ⟨ob,0,none⟩))] (.returning) (λ_=>True) [aj ob [(.bool (ok))] 4] (λe u' H=>e= .returned (.tuple #[])∧settle u'= .returning∧H=[aj ob [.bool ok] 4]):=by
 refine DoesD.recover2 (vs:=[(.pointer (some ⟨ob,0,none⟩))]) (n:=15) (u':= .returning) (rv:= .nilIface) Tryz.func132 rfl rfl rfl rfl rfl rfl rfl rfl rfl rfl rfl (λc0 cs hu=>by cases c0;simp only at hu;subst hu;rfl) (λw0 F c0 cs hF=>?_);refine aa (λK1 hK1=>?_);refine aa (λK2 hK2=>?_);refine ac ?_;refine mK (ab rfl) rfl rfl (ky rfl rfl) ?_;refine mK (ab rfl) rfl rfl (PV.nilNil rfl Tryz.underlying20 rfl) ?_;refine au ?_;refine ad hK2 ?_;clear hK2;refine oj rfl ?_;refine ah ?_;refine ae ?_;clear hK1;refine aE (dN _) (λ_ s=>ak [0] rfl s) ?_;refine TE.retS0 rfl ?_;refine⟨rfl,rfl,?_⟩;rfl
theorem Bs(ob:Nat)(ok:Bool):DoesD Tryz.prog 132 #[(.pointer (some ⟨ob,0,none⟩))] (.panicking jb) (λ_=>True) [aj ob [(.bool (ok))] 4] (λe u' H=>e= .returned (.tuple #[])∧settle u'= .returning∧H=[aj ob [.bool false] 4]):=by
 refine DoesD.recover2 (vs:=[(.pointer (some ⟨ob,0,none⟩))]) (n:=15) (u':= .panicking [{v:=(.iface 218 (.agg #[])),recovered:=true}]) (rv:=(.iface 218 (.agg #[]))) Tryz.func132 rfl rfl rfl rfl rfl rfl rfl rfl rfl rfl rfl (λc0 cs hu=>by cases c0;simp only at hu;subst hu;rfl) (λw0 F c0 cs hF=>?_);refine aa (λK1 hK1=>?_);refine aa (λK2 hK2=>?_);refine ac ?_;refine mK (ab rfl) rfl rfl (ky rfl rfl) ?_;refine mK (ab rfl) rfl rfl (PV.ifaceNil rfl Tryz.underlying20 rfl) ?_;refine au ?_;refine ad hK2 ?_;clear hK2;refine Hb rfl ?_;refine aR ?_;refine ad hK1 ?_;clear hK1;refine aa (λK3 hK3=>?_);refine aa (λK4 hK4=>?_);refine ac ?_;refine mK (ab rfl) rfl rfl (ky rfl rfl) ?_;refine mK (ab rfl) rfl rfl (PV.assert rfl I0 rfl rfl) ?_;refine mK (ab rfl) rfl rfl (ky rfl rfl) ?_;refine mK (ab rfl) rfl rfl (mN (vs:=[.agg #[], .bool true]) rfl rfl rfl) ?_;refine mK (ab rfl) rfl rfl (mN (vs:=[.agg #[], .bool true]) rfl rfl rfl) ?_;refine q7 (ab rfl) rfl rfl rfl Qw (λb2=>?_);change TL _ _ _ _ _ _ _ _ _ [aj b2 [] 218,aj ob [(.bool (ok))] 4];refine bW (vs:=[]) (i:=0) (H':=[aj b2 [] 218,aj ob [(.bool (ok))] 4]) (ab rfl) rfl rfl rfl rfl rfl OG (by simp[Value.oneCell']) rfl rfl (Ls rfl) rfl rfl ?_;refine mK (ab rfl) rfl rfl (RJ rfl rfl) ?_;refine au ?_;refine ad hK4 ?_;clear hK4;refine aa (λK5 hK5=>?_);refine ac ?_;refine mK (ab rfl) rfl rfl (ky rfl rfl) ?_;refine mK (ab rfl) rfl rfl (pg (r:=false) rfl rfl rfl) ?_;refine au ?_
 refine ad hK5 ?_;clear hK5;refine Hb rfl ?_;refine aR ?_;refine ad hK3 ?_;clear hK3;refine ac ?_;refine bK (i:=1) (H':=[aj b2 [] 218,aj ob [(.bool false)] 4]) (ab rfl) rfl rfl rfl rfl rfl lT rfl rfl (lb rfl) rfl rfl ?_;refine au ?_;refine aE (dN _) (λ_ s=>ak [1] rfl s) ?_;refine TE.endS0 rfl ?_;refine⟨rfl,rfl,?_⟩;exact rfl
theorem HV{fid:Nat}{caps:List Value}{x:Value}{bs:List UInt8}{C G:HP}{A:List UInt8→HP}{R:Hl→Prop}(hR: ∀F,R F→IsB x bs F)(hmono: ∀F g,R F→Dj g F→R (jn g F))(hN:Named Tryz.prog fid)
 (hc: ∀rb,DT fid ([Value.pointer (some ⟨rb,0,none⟩)]++caps).toArray R [aj rb [x] 216,C] (wG (λ_ H=>∃x' r,H=[aj rb [x'] 216,A r]∧Tail x bs x' r) (λc H=>c=jb∧∃x',H=[aj rb [x'] 216,G]))):
 DT 88 #[x, .func (.func fid) #[] caps.toArray] R [C] (dG (λv H=>(∃r,v= .bool (decide (r=[]))∧H=[A r])∨(v= .bool false∧H=[G]))):=by
 refine Leg.Does.bodyD (vs:=[x, .func (.func fid) #[] caps.toArray]) (n:=21) Tryz.func88 rfl rfl rfl (λw0 F hF=>sr λ_ J1=>XA z4 λb4=>?_);refine nx J1 (sr λ_ J2=>PS ?_);refine tp (PV.buildOne rfl Cc Qx rfl lF rfl (hR _ hF).one) ?_;refine XB λb8=>?_
 refine PS ?_;refine nx J2 (sr λ_ J3=>tp (RG rfl rfl) ?_);refine TL.deferFn (ab rfl) rfl rfl rfl (nx J3 (aa λ_ J4=>sr λ_ J5=>PS ?_));refine tp (PV.funcNeqNil rfl Tryz.underlying181 rfl) ?_;refine nx J5 (CY (ac (P2 ?_)));refine TL.callPv (ab rfl) rfl rfl rfl rfl hN rfl (hc b8) (λ_ s=>aD [0,1] rfl s) (Oq hmono hF) (λcP HP hP=>?_) (λvR HR hR'=>?_);obtain⟨rfl,x',rfl⟩:=hP;refine ay ?_;intro a w fr sm m;refine sH (b:=b4) (e:=4) (A:=[aj b4 [(.bool false)] 4]) (B:=[aj b8 [x'] 216,G]) (H':=[G]) fr sm m (by simp) Kf (Bs b4 _) (λ_ s=>aD [2] rfl s) (λ_ _ _=>trivial) rfl rfl Y4 rfl (λH1 h1=>?_);subst h1;refine⟨[.bool false], .bool false,fC 0 rfl rfl,rfl,λ_ s=>ak [2] rfl s,?_⟩;exact .inr ⟨rfl,rfl⟩;obtain⟨x',r,rfl,htl⟩:=hR';have hB:=htl F (hR _ hF);rcases hB with⟨rfl,rfl⟩| ⟨b,off,cap,cs,T,z,rfl,hB1,hB2,hB3,hB4⟩
 refine nx J4 (sr λ_ J6=>P2 ?_);refine FA 0 Cc lF ?_;refine LA 0 fO ?_;refine tp (q8 rfl fO rfl) ?_;refine PS ?_;refine S0 2 lT ?_;refine nx J6 (ah ?_);intro a w fr sm m;refine sH (b:=b4) (e:=4) (A:=[aj b4 [(.bool true)] 4]) (B:=[aj b8 [(.slice none 0 0)] 216,(A [])]) (H':=[(A [])]) fr sm m (by simp) Kf (xK b4 _) (λ_ s=>aD [2] rfl s) (λ_ _ _=>trivial) rfl rfl Y4 rfl (λH1 h1=>?_);subst h1;refine⟨[.bool true], .bool true,fC 0 rfl rfl,rfl,λ_ s=>ak [2] rfl s,?_⟩;exact .inl ⟨[],rfl,rfl⟩;refine nx J4 (sr λ_ J7=>P2 ?_);refine FA 0 Cc lF ?_;refine LA 0 fO ?_;refine tp (q8 rfl fO rfl) ?_;refine PS ?_;refine S0 2 lT ?_;refine nx J7 (ah ?_);intro a w fr sm m;refine sH (b:=b4) (e:=4) (A:=[aj b4 [(.bool (decide (((r.length:Nat):Int)=0)))] 4]) (B:=[aj b8 [(.slice (some ⟨b,off,none⟩) (r.length) (cap))] 216,(A r)]) (H':=[(A r)]) fr sm m (by simp) Kf (xK b4 _) (λ_ s=>aD [2] rfl s) (λ_ _ _=>trivial) rfl rfl Y4 rfl (λH1 h1=>?_);subst h1;refine⟨[.bool (decide (((r.length:Nat):Int)=0))], .bool (decide (((r.length:Nat):Int)=0)),fC 0 rfl rfl,rfl,λ_ s=>ak [2] rfl s,?_⟩;exact .inl ⟨r,by congr 1;rw[decide_eq_decide];cases r<;>simp<;>omega,rfl⟩
theorem zY{fid:Nat}{caps:List Value}{x:Value}{bs:List UInt8}{α β:Type}{C:List HP}{A:α→List HP}{G:β→List HP}{φ:α→List UInt8→Prop}{ψ:β→Prop}{R:Hl→Prop}(hR: ∀F,R F→IsB x bs F)(hmono: ∀F g,R F→Dj g F→R (jn g F))(hN:Named Tryz.prog fid)
 (hc: ∀rb,DT fid ([Value.pointer (some ⟨rb,0,none⟩)]++caps).toArray R (aj rb [x] 216::C) (wG (λ_ H=>∃x' r a,H=aj rb [x'] 216::A a∧Tail x bs x' r∧φ a r) (λc H=>c=jb∧∃x' b,H=aj rb [x'] 216::G b∧ψ b))):
 DT 88 #[x, .func (.func fid) #[] caps.toArray] R C (dG (λv H=>(∃r a,v= .bool (decide (r=[]))∧H=A a∧φ a r)∨(∃b,v= .bool false∧H=G b∧ψ b))):=by
 have h1:=HV (C:=all C) (G:=λh=>∃b,ψ b∧bR (G b) h) (A:=λr h=>∃a,φ a r∧bR (A a) h) hR hmono hN λrb=>
  (hc rb).conv (post':=wG (λ_ H=>∃x' r,H=[aj rb [x'] 216,λh=>∃a,φ a r∧bR (A a) h]∧Tail x bs x' r) (λc H=>c=jb∧∃x',H=[aj rb [x'] 216,λh=>∃b,ψ b∧bR (G b) h]))
   (λh s=>xx s λ_=>MM)
   (λe H F w hp m=>by
    cases e with
    |returned v=>
     obtain⟨x',r,a,rfl,ht,hf⟩:=hp;exact⟨[aj rb [x'] 216,λh=>∃a,φ a r∧bR (A a) h],m.mono λh s=>xx s λh s=>sv ⟨a,hf,s⟩,x',r,rfl,ht⟩
    |panicked c=>
     obtain⟨hc,x',b,rfl,hf⟩:=hp;exact⟨[aj rb [x'] 216,λh=>∃b,ψ b∧bR (G b) h],m.mono λh s=>xx s λh s=>sv ⟨b,hf,s⟩,hc,x',rfl⟩
    |outgrown=>exact hp.elim)
 refine h1.conv (λh s=>L3 s) λe H F w hp m=>?_
 cases e with
 |returned v=>
  rcases hp with⟨r,hv,rfl⟩| ⟨hv,rfl⟩
  · obtain⟨h,d,e,g1,g2,d',rfl,⟨a,hf,s⟩,_⟩:=m
    exact⟨A a,⟨_,d,e,mq _ s d'⟩, .inl ⟨r,a,hv,rfl,hf⟩⟩
  · obtain⟨h,d,e,g1,g2,d',rfl,⟨b,hf,s⟩,_⟩:=m
    exact⟨G b,⟨_,d,e,mq _ s d'⟩, .inr ⟨b,hv,rfl,hf⟩⟩
 |panicked c=>exact hp.elim
 |outgrown=>exact hp.elim
end Go.Proofs.YtkhjnolhhidecaaGreatDoor
end
