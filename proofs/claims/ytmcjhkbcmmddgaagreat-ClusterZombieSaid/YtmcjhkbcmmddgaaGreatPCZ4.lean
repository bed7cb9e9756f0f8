/-
  Joined texts:what a statement's proof reaches.
-/
import Derived.Test.YtmcjhkbcmmddgaaGreatPCZ3
set_option maxHeartbeats 8000000
set_option maxRecDepth 100000
set_option linter.unusedSimpArgs false
set_option linter.unusedVariables false
section
namespace Go.Proofs.YtmcjhkbcmmddgaaGreat
open Go Leg Codec Api Dsk Wal
theorem GI(x:Value)(ps:List (List UInt8)):
 DT 80 #[x] (PK x ps) [] (RI (.int .u32 (gG ps.flatten)) []):=by
 refine BD 39 Tryz.func80 rfl rfl rfl λw0 F hF=>sr λ_ J1=>PS ?_
 refine nx J1 (sr λ_ J2=>PS ?_);refine nx J2 (aa λ_ J3=>sr λ_ J4=>PS ?_);refine tp (eA rfl vW rfl hF.len) ?_;refine PS ?_;refine nx J4 (aq ?_)
 refine bD (α:=(Nat)) (λk=>k≤ps.length) (λk=>[(2,(.int .u32 0)),(3,(.int .u32 (fM 4294967295 (ps.take k).flatten))),(8,x),(9,(.int .i64 (((ps.length:Nat):Int)))),(10,(.int .i64 (((k:Nat):Int))))]) (λk=>[]) (λk=>ps.length-k) 0
  (aO _) SB
  (λ_ s=>s) (λk hinv=>?_)
 obtain hk:=hinv;refine sr λ_ J5=>PS ?_
 refine ap ?_ ?_<;>intro h11;obtain⟨b_a,off_a,cap_a,cs_a,T_a,z_a,us_a,hv_a,hc_a,hb_a,hl_a,hs_a,hE_a⟩:=IsL.at hF (j:=k) (by omega);obtain⟨u_a,rfl,hu_a⟩:=hE_a;refine nx J5 (aa λ_ J6=>CY (qx J6 (aa λ_ J7=>aq (sr λ_ J8=>tp (bT (r:=off_a+k) hv_a rfl vW ow rfl rfl (by omega) (by omega) (by omega)) ?_))));refine tp (cZ (v:=u_a) rfl ia rfl rfl (KK hb_a (λ_ h=>fE h)) (by have:=Cr (j:=0) hs_a rfl;simpa using this)) ?_;refine PS ?_;refine nx J8 (sr λ_ J9=>PS ?_);refine tp (eA rfl ia rfl hu_a.len) ?_;refine PS ?_;refine nx J9 (aq ?_)
 refine bD (α:=(Nat)) (λj=>j≤ps[k].length) (λj=>[(2,(.int .u32 0)),(3,(.int .u32 (fM (fM 4294967295 (ps.take k).flatten) (ps[k].take j)))),(8,x),(9,(.int .i64 (((ps.length:Nat):Int)))),(10,(.int .i64 (((k:Nat):Int)))),(14,u_a),(15,(.int .i64 (((ps[k].length:Nat):Int)))),(16,(.int .i64 (((j:Nat):Int))))]) (λj=>[]) (λj=>ps[k].length-j) 0
  (aO _) SB
  (λ_ s=>s) (λj hinv=>?_)
 obtain hj:=hinv;refine sr λ_ J10=>PS ?_
 refine ap ?_ ?_<;>intro h17;obtain⟨b_b,off_b,cap_b,cs_b,T_b,z_b,hv_b,hb_b,hcs_b,hcp_b⟩:=IsW.at hu_a (j:=j) (by omega);have hlt_b:=IsW.lt hu_a;refine nx J10 (aa λ_ J11=>CY (qx J11 (aa λ_ J12=>aq (sr λ_ J13=>tp (bT (r:=off_b+j) hv_b rfl ia lT rfl rfl (by omega) (by omega) (by omega)) ?_))));refine tp (cZ (v:=(.int .u8 (((((ps[k]).getD j 0).toNat:Nat):Int)))) rfl Y5 rfl rfl (KK hb_b (λ_ h=>fE h)) (hcs_b j (by omega))) ?_;refine PS ?_;refine nx J13 (sr λ_ J14=>P2 ?_);refine tp (eL (r:=((((ps[k]).getD j 0).toNat:Nat):Int)) rfl Y5 BX rfl (lc (by omega) (by have:=(ps[k].getD j 0).toNat_lt;omega))) ?_;refine tp (PV.xor (r:=qg .u32 (fM (fM 4294967295 (ps.take k).flatten) (ps[k].take j)) (((((ps[k]).getD j 0).toNat:Nat):Int))) rfl rfl rfl rfl) ?_;refine PS ?_;refine nx J14 (sr λ_ J15=>PS ?_);refine nx J15 (aq ?_)
 refine bD (α:=(Nat)) (λi=>i≤8) (λi=>[(2,(.int .u32 0)),(3,(.int .u32 (m9 (qg .u32 (fM (fM 4294967295 (ps.take k).flatten) (ps[k].take j)) ((((ps[k]).getD j 0).toNat:Nat):Int)) i))),(8,x),(9,(.int .i64 (((ps.length:Nat):Int)))),(10,(.int .i64 (((k:Nat):Int)))),(14,u_a),(15,(.int .i64 (((ps[k].length:Nat):Int)))),(16,(.int .i64 (((j:Nat):Int)))),(24,(.int .i64 (((i:Nat):Int))))]) (λi=>[]) (λi=>8-i) 0
  (aO _) SB
  (λ_ s=>s) (λi hinv=>?_)
 obtain hi:=hinv;refine sr λ_ J16=>PS ?_
 refine ap ?_ ?_<;>intro h25;refine nx J16 (aa λ_ J17=>CY (qx J17 (aa λ_ J18=>aq (sr λ_ J19=>PS ?_))));refine tp (o5 (r:=tS .u32 (m9 (qg .u32 (fM (fM 4294967295 (ps.take k).flatten) (ps[k].take j)) ((((ps[k]).getD j 0).toNat:Nat):Int)) i) 1) rfl rfl rfl rfl) ?_;refine PS ?_;refine ap ?_ ?_<;>intro h28;refine nx J19 (CY (ad (PS ?_)));refine tp (mp (r:=(m9 (qg .u32 (fM (fM 4294967295 (ps.take k).flatten) (ps[k].take j)) ((((ps[k]).getD j 0).toNat:Nat):Int)) i).fdiv 2) rfl rfl rfl (by omega) rfl) ?_;refine tp (PV.xor (r:=qg .u32 ((m9 (qg .u32 (fM (fM 4294967295 (ps.take k).flatten) (ps[k].take j)) ((((ps[k]).getD j 0).toNat:Nat):Int)) i).fdiv 2) 3988292384) rfl rfl rfl rfl) ?_;refine PS ?_;refine aw (af (ac J18 (ad (AD ?_))));refine PS ?_;refine aw ?_
 exact aL ((i+1):(Nat)) (by omega) (by show 8- (i+1)<8-i;omega)
  (aT (bE rfl (congrArg (Value.int .u32) (by rw[m9,F1,if_pos h28])) SB))
  (λ_ s=>s)
 refine nx J19 (CN (ad (PS ?_)));refine tp (mp (r:=(m9 (qg .u32 (fM (fM 4294967295 (ps.take k).flatten) (ps[k].take j)) ((((ps[k]).getD j 0).toNat:Nat):Int)) i).fdiv 2) rfl rfl rfl (by omega) rfl) ?_;refine PS ?_;refine aw (af (ac J18 (ad (AD ?_))));refine PS ?_;refine aw ?_
 exact aL ((i+1):(Nat)) (by omega) (by show 8- (i+1)<8-i;omega)
  (aT (bE rfl (congrArg (Value.int .u32) (by rw[m9,F1,if_neg h28])) SB))
  (λ_ s=>s)
 refine nx J16 (aa λ_ J20=>CN (bh (aC (aC (bC (af (ac J12 (ad (AD ?_)))))))));refine PS ?_;refine aw ?_
 exact aL ((j+1):(Nat)) (by omega) (by show ps[k].length- (j+1)<ps[k].length-j;omega)
  (aT (bE rfl (congrArg (Value.int .u32) (by obtain rfl:i=8:=(by omega);rw[Ea (by omega)];rfl)) SB))
  (λ_ s=>s)
 refine nx J10 (aa λ_ J21=>CN (bh (aC (aC (bC (af (ac J7 (ad (AD ?_)))))))));refine PS ?_;refine aw ?_
 exact aL ((k+1):(Nat)) (by omega) (by show ps.length- (k+1)<ps.length-k;omega)
  (aT (bE rfl (congrArg (Value.int .u32) (by rw[show j=ps[k].length by omega,kG,Eb (by omega)])) SB))
  (λ_ s=>s)
 refine nx J5 (aa λ_ J22=>CN (bh (aC (aC (bC (ac J3 (sr λ_ J23=>PS ?_)))))));refine tp (PV.com (r:=qg .u32 4294967295 (fM 4294967295 (ps.take k).flatten)) rfl rfl rfl) ?_;refine PS ?_;refine nx J23 (aj (WK [] (av rfl rfl ?_)));obtain rfl:k=ps.length:=by omega
 rw[kG];exact⟨rfl,rfl⟩
theorem vc(x:Value)(bs:List UInt8)(hb:bs.length≤1000000000):
 DT 46 #[x] (IsW x bs) [] (dH (λv H=>H=[dZ v (qE bs) 5])):=by
 refine BD 29 Tryz.func46 rfl rfl rfl λw0 F hF=>sr λ_ J1=>PS ?_
 refine nx J1 (sr λ_ J2=>PS ?_);refine aV (cells:=#[x]) (ab rfl) rfl rfl rfl vW It rfl rfl rfl (tH hF.one (by simp)) (λb6=>CF OI (GI (.slice (some ⟨b6,0,none⟩) (1) (1)) [bs]) ID (DI hF 0 rfl rfl) ?_);rw[show [bs].flatten=bs by simp];refine PS ?_;refine nx J2 (sr λ_ J3=>PS ?_);refine tp (eA rfl ia rfl hF.len) ?_;refine AD ?_;refine TL.makeB (0) (bs.length+4) (ab rfl) rfl rfl rfl ia z0 rfl rfl rfl (by omega) (by omega) (by omega) (λb11=>cr (H':=[dZ (.slice (some ⟨b11,0,none⟩) 0 (bs.length+4)) ([]) 5,ah b6 [x] 62]) (λ_ s=>Gv 0 rfl rfl (by omega) (by simp only[maxLen];omega) (by simp[ek]) rfl s) (PS ?_));refine nx J3 (sr λ_ J4=>P2 ?_);refine cL (k:=0) (news:=ek (bs)) (nn':=(bs:List UInt8).length) (xs':=ek (bs)) (ab rfl) rfl rfl rfl ia z0 rfl rfl rfl rfl rfl rfl (λ_ _=>hF.src (λ_ h=>fE h)) (fl _) (by simp only[maxLen,aB];omega) (by simp only[aB];omega) (by simp) (aQ _) (λv14 ov14=>PS ?_);refine nx J4 (sr λ_ J5=>P2 ?_);refine tp (eL (r:=(((r8 (gG bs)).toNat:Nat):Int)) rfl BX Y5 rfl (r8_wrap _)) ?_;refine PS ?_;refine tp (mp (r:=(gG bs).fdiv 256) rfl rfl rfl (by omega) rfl) ?_;refine tp (eL (r:=(((r8 ((gG bs).fdiv 256)).toNat:Nat):Int)) rfl BX Y5 rfl (r8_wrap _)) ?_;refine PS ?_;refine tp (mp (r:=(gG bs).fdiv 65536) rfl rfl rfl (by omega) rfl) ?_;refine tp (eL (r:=(((r8 ((gG bs).fdiv 65536)).toNat:Nat):Int)) rfl BX Y5 rfl (r8_wrap _)) ?_;refine PS ?_
 refine tp (mp (r:=(gG bs).fdiv 16777216) rfl rfl rfl (by omega) rfl) ?_;refine tp (eL (r:=(((r8 ((gG bs).fdiv 16777216)).toNat:Nat):Int)) rfl BX Y5 rfl (r8_wrap _)) ?_;refine aV (cells:=#[(.int .u8 ((((r8 (gG bs)).toNat:Nat):Int))),(.int .u8 ((((r8 ((gG bs).fdiv 256)).toNat:Nat):Int))),(.int .u8 ((((r8 ((gG bs).fdiv 65536)).toNat:Nat):Int))),(.int .u8 ((((r8 ((gG bs).fdiv 16777216)).toNat:Nat):Int)))]) (ab rfl) rfl rfl rfl ia z0 rfl rfl rfl (by as_aux_lemma=>kernel_rfl) (λb27=>cL (k:=1) (news:=ek ([(r8 (gG bs)),(r8 ((gG bs).fdiv 256)),(r8 ((gG bs).fdiv 65536)),(r8 ((gG bs).fdiv 16777216))])) (nn':=(bs++[(r8 (gG bs)),(r8 ((gG bs).fdiv 256)),(r8 ((gG bs).fdiv 65536)),(r8 ((gG bs).fdiv 16777216))]:List UInt8).length) (xs':=ek (bs++[(r8 (gG bs)),(r8 ((gG bs).fdiv 256)),(r8 ((gG bs).fdiv 65536)),(r8 ((gG bs).fdiv 16777216))])) (ab rfl) rfl rfl rfl ia z0 rfl rfl rfl rfl rfl rfl (λ_ _=>j7 rfl (RO 0) rfl) (fl [(r8 (gG bs)),(r8 ((gG bs).fdiv 256)),(r8 ((gG bs).fdiv 65536)),(r8 ((gG bs).fdiv 16777216))]) (by simp only[maxLen];omega) (by omega) (by simp) (jy _ _).symm (λv28 ov28=>PS ?_));exact nx J5 (aj (WK [1] (av rfl rfl rfl)))
theorem Hu(a:Option Addr)(c:Nat)(bs:List UInt8)(hc:bs.length≤c)(hb:bs.length≤1000000000):
 DT 133 #[(.slice a bs.length c)] (IsW (.slice a bs.length c) bs) [] (dH (λv H=>(nt bs=none∧v= .tuple #[.slice none 0 0, .bool false]∧H=[])∨∃t u,nt bs=some t∧v= .tuple #[u, .bool true]∧H=[dZ u t 5])):=by
 refine BD 50 Tryz.func133 rfl rfl rfl λw0 F hF=>sr λ_ J1=>P2 ?_
 refine nx J1 (aa λ_ J2=>sr λ_ J3=>PS ?_);refine tp (eA rfl ia rfl ⟨_,_,rfl⟩) ?_;refine PS ?_;refine ap ?_ ?_<;>intro h9;refine nx J3 (CY (sr λ_ J4=>P2 ?_));refine nx J4 (aj (ae (WK [] (jo rfl rfl rfl ?_))));exact .inl ⟨by rw[nt,if_pos (by omega)],rfl,rfl⟩;have hT:IsW (kB (.slice a bs.length c) 0 (bs.length-4)) (bs.take (bs.length-4)) F:=by have:=hF.cut (lo:=0) (hi:=bs.length-4) (by omega) (by omega);simpa using this
 have hU:IsW (kB (.slice a bs.length c) (bs.length-4) bs.length) (bs.drop (bs.length-4)) F:=by have:=hF.cut (lo:=bs.length-4) (hi:=bs.length) (by omega) (by omega);rwa [kG]at this
 have hq:(bs.drop (bs.length-4)).length=4:=by rw[ej];omega
 obtain⟨b_b,off_b,cap_b,cs_b,T_b,z_b,hv_b,hb_b,hcs_b,hcp_b⟩:=IsW.at hU (j:=0) (by omega);have hlt_b:=IsW.lt hU;refine nx J3 (CN (qx J2 (aa λ_ J5=>D0 dA ?_)));refine PD 0 ?_;refine PD 1 ?_;refine ta 2 rfl (eA rfl ia rfl ⟨_,_,rfl⟩) ?_;refine ta 3 rfl (j8 (r:=(((bs.length-4:Nat):Nat):Int)) rfl rfl rfl (by rw[show(((bs.length:Nat):Int)-4)=((bs.length-4:Nat):Int)by omega];exact bK (by omega) (by omega))) ?_;refine ta 4 rfl (PV.sliceH (hi:=bs.length-4) rfl ia lT rfl rfl rfl (by omega)) ?_;refine PD 5 ?_;refine PD 6 ?_;refine ta 7 rfl (eA rfl ia rfl ⟨_,_,rfl⟩) ?_;refine ta 8 rfl (j8 (r:=(((bs.length-4:Nat):Nat):Int)) rfl rfl rfl (by rw[show(((bs.length:Nat):Int)-4)=((bs.length-4:Nat):Int)by omega];exact bK (by omega) (by omega))) ?_;refine ta 9 rfl (PV.sliceL (lo:=bs.length-4) rfl ia lT rfl rfl rfl (by omega)) ?_;refine PD 10 ?_;refine PD 11 ?_;refine DN (ac J5 (aa λ_ J6=>D0 dA ?_));refine PD 0 ?_;refine ta 1 rfl (bT (r:=off_b) hv_b rfl ia lT rfl rfl (by omega) (by omega) (by omega)) ?_;refine ta 2 rfl (cZ (v:=(.int .u8 ((((((bs.drop (bs.length-4))).getD 0 0).toNat:Nat):Int)))) rfl Y5 rfl rfl (KK hb_b (λ_ h=>h.1)) (hcs_b 0 (by omega))) ?_;refine ta 3 rfl (eL (r:=(((((bs.drop (bs.length-4))).getD 0 0).toNat:Nat):Int)) rfl Y5 BX rfl (lc (by omega) (by have:=UInt8.toNat_lt (n:=(bs.drop (bs.length-4)).getD 0 0);omega))) ?_;refine PD 4 ?_
 refine ta 5 rfl (bT (r:=off_b+1) hv_b rfl ia lT rfl rfl (by omega) (by omega) (by omega)) ?_;refine ta 6 rfl (cZ (v:=(.int .u8 ((((((bs.drop (bs.length-4))).getD 1 0).toNat:Nat):Int)))) rfl Y5 rfl rfl (KK hb_b (λ_ h=>h.1)) (hcs_b 1 (by omega))) ?_;refine ta 7 rfl (eL (r:=(((((bs.drop (bs.length-4))).getD 1 0).toNat:Nat):Int)) rfl Y5 BX rfl (lc (by omega) (by have:=UInt8.toNat_lt (n:=(bs.drop (bs.length-4)).getD 1 0);omega))) ?_;refine ta 8 rfl (yU (r:=IntKind.u32.wrap ((((((bs.drop (bs.length-4))).getD 1 0).toNat:Nat):Int)*2^8)) rfl rfl rfl (by omega) rfl) ?_;refine ta 9 rfl (KM (r:=iP .u32 (((((bs.drop (bs.length-4))).getD 0 0).toNat:Nat):Int) (IntKind.u32.wrap ((((((bs.drop (bs.length-4))).getD 1 0).toNat:Nat):Int)*2^8))) rfl rfl rfl rfl) ?_;refine PD 10 ?_;refine ta 11 rfl (bT (r:=off_b+2) hv_b rfl ia lT rfl rfl (by omega) (by omega) (by omega)) ?_;refine ta 12 rfl (cZ (v:=(.int .u8 ((((((bs.drop (bs.length-4))).getD 2 0).toNat:Nat):Int)))) rfl Y5 rfl rfl (KK hb_b (λ_ h=>h.1)) (hcs_b 2 (by omega))) ?_;refine ta 13 rfl (eL (r:=(((((bs.drop (bs.length-4))).getD 2 0).toNat:Nat):Int)) rfl Y5 BX rfl (lc (by omega) (by have:=UInt8.toNat_lt (n:=(bs.drop (bs.length-4)).getD 2 0);omega))) ?_;refine ta 14 rfl (yU (r:=IntKind.u32.wrap ((((((bs.drop (bs.length-4))).getD 2 0).toNat:Nat):Int)*2^16)) rfl rfl rfl (by omega) rfl) ?_
 refine ta 15 rfl (KM (r:=iP .u32 (iP .u32 (((((bs.drop (bs.length-4))).getD 0 0).toNat:Nat):Int) (IntKind.u32.wrap ((((((bs.drop (bs.length-4))).getD 1 0).toNat:Nat):Int)*2^8))) (IntKind.u32.wrap ((((((bs.drop (bs.length-4))).getD 2 0).toNat:Nat):Int)*2^16))) rfl rfl rfl rfl) ?_;refine PD 16 ?_;refine ta 17 rfl (bT (r:=off_b+3) hv_b rfl ia lT rfl rfl (by omega) (by omega) (by omega)) ?_;refine ta 18 rfl (cZ (v:=(.int .u8 ((((((bs.drop (bs.length-4))).getD 3 0).toNat:Nat):Int)))) rfl Y5 rfl rfl (KK hb_b (λ_ h=>h.1)) (hcs_b 3 (by omega))) ?_;refine ta 19 rfl (eL (r:=(((((bs.drop (bs.length-4))).getD 3 0).toNat:Nat):Int)) rfl Y5 BX rfl (lc (by omega) (by have:=UInt8.toNat_lt (n:=(bs.drop (bs.length-4)).getD 3 0);omega))) ?_;refine ta 20 rfl (yU (r:=IntKind.u32.wrap ((((((bs.drop (bs.length-4))).getD 3 0).toNat:Nat):Int)*2^24)) rfl rfl rfl (by omega) rfl) ?_;refine ta 21 rfl (KM (r:=Kb ((bs.drop (bs.length-4)).getD 0 0) ((bs.drop (bs.length-4)).getD 1 0) ((bs.drop (bs.length-4)).getD 2 0) ((bs.drop (bs.length-4)).getD 3 0)) rfl rfl rfl rfl) ?_;refine PD 22 ?_;refine DN (ac J6 (aa λ_ J7=>sr λ_ J8=>PS ?_));refine aV (cells:=#[(kB (.slice a bs.length c) 0 (bs.length-4))]) (ab rfl) rfl rfl rfl vW It rfl rfl rfl (tH hT.one (by simp)) (λb43=>CF OI (GI (.slice (some ⟨b43,0,none⟩) (1) (1)) [(bs.take (bs.length-4))]) ID (DI hT 0 rfl rfl) ?_)
 rw[show [(bs.take (bs.length-4))].flatten=(bs.take (bs.length-4))by simp];refine P2 ?_;refine ap ?_ ?_<;>intro h46;refine nx J8 (CY (sr λ_ J9=>P2 ?_));refine nx J9 (aj (ae (WK [] (jo rfl rfl rfl ?_))));exact .inl ⟨by rw[nt,if_neg (by omega),if_neg h46],rfl,rfl⟩;refine nx J8 (CN (qx J7 (sr λ_ J10=>Er (ab rfl) rfl rfl rfl ia lT (λv47=>PS ?_))));refine cL (k:=0) (news:=ek ((bs.take (bs.length-4)))) (nn':=((bs.take (bs.length-4)):List UInt8).length) (xs':=ek ((bs.take (bs.length-4)))) (ab rfl) rfl rfl rfl ia z0 rfl rfl rfl rfl rfl rfl (λ_ _=>hT.src (λ_ h=>fE h)) (fl _) (by simp only[maxLen,aB,bR];omega) (by simp only[aB,bR];omega) (by simp) (aQ _) (λv49 ov49=>P2 ?_);refine nx J10 (aj (WK [0] (jo rfl rfl rfl ?_)));exact .inr ⟨_,_,by rw[nt,if_neg (by omega),if_pos (by simpa using h46)],rfl,rfl⟩
theorem zc(x:Value)(bs:List UInt8)(hb:bs.length≤1000000000):DT 133 #[x] (IsW x bs) [] (dH (λv H=>(nt bs=none∧v= .tuple #[.slice none 0 0, .bool false]∧H=[])∨∃t u,nt bs=some t∧v= .tuple #[u, .bool true]∧H=[dZ u t 5])):=λw G h m=>by
 obtain⟨a,c,rfl,hc,_⟩:=h.form;exact Hu a c bs hc hb w G h m
theorem vm(n:Nat)(hn:n≤1000000000000):
 DT 145 #[(.int .i64 (((n:Nat):Int)))] T0 [] (RI (.int .i64 ((bj n:Nat):Int)) []):=by
 refine BD 9 Tryz.func145 rfl rfl rfl λw0 F hF=>sr λ_ J1=>PS ?_
 refine nx J1 (aa λ_ J2=>sr λ_ J3=>P2 ?_);refine ap ?_ ?_<;>intro h4;refine nx J3 (CY (sr λ_ J4=>PS ?_));refine nx J4 (aj (ae (WK [] (av rfl rfl ?_))));obtain rfl:n=0:=by omega
 exact⟨rfl,rfl⟩;refine nx J3 (CN (qx J2 (sr λ_ J5=>PS ?_)));refine tp (j8 rfl rfl rfl (bK (by omega) (by omega))) ?_;refine tp (PV.quo (r:=(((n-1) / 52:Nat):Int)) rfl rfl rfl (by omega) (by rw[show(((n:Nat):Int)-1)=((n-1:Nat):Int)by omega];exact Ni (n-1) 52 (by omega))) ?_;refine AD ?_;refine PS ?_;refine nx J5 (aj (WK [] (av rfl rfl ?_)));rw[bj,if_neg (by omega)];exact⟨by simp,rfl⟩
theorem E9{number:Int}{bs:List UInt8}{k:Nat}:nC number bs (k+1)=nC number bs k++[qE (kd number k (bj bs.length) (hJ bs k))++[1]]:=E8 number bs k
theorem A1(a:Option Addr)(c number:Nat)(bs:List UInt8)(hc:bs.length≤c)(hb:bs.length≤3000):
 DT 147 #[(.int .i64 (((number:Nat):Int))),(.slice a bs.length c)] (IsW (.slice a bs.length c) bs) [] (dH (λv H=>H=[mP 62 5 v (bW ((number:Nat):Int) bs)])):=by
 refine BD 68 Tryz.func147 rfl rfl rfl λw0 F hF=>sr λ_ J1=>PS ?_
 refine nx J1 (sr λ_ J2=>PS ?_);refine tp (eA rfl ia rfl ⟨_,_,rfl⟩) ?_;refine CE MH (vm bs.length (by omega)) ID ?_;refine PS ?_;refine nx J2 (sr λ_ J3=>PS ?_);refine nx J3 (aa λ_ J4=>sr λ_ J5=>P2 ?_);refine nx J5 (aq ?_)
 refine bD (α:=(Nat)×(Value)) (λ⟨k,vr⟩=>k≤bj bs.length∧vr.oneCell'=true) (λ⟨k,vr⟩=>[(0,(.int .i64 (((number:Nat):Int)))),(1,(.slice a bs.length c)),(4,(.slice none 0 0)),(5,(.int .i64 (((bj bs.length:Nat):Int)))),(6,vr),(14,(.int .i64 (((bj bs.length:Nat):Int)))),(15,(.int .i64 (((k:Nat):Int))))]) (λ⟨k,vr⟩=>[mP 62 5 vr (nC ((number:Nat):Int) bs k)]) (λ⟨k,vr⟩=>bj bs.length-k) (0,(.slice none 0 0))
  ⟨aO _,rfl⟩ SB
  (λ_ s=>vf 62 5 s) (λ⟨k,vr⟩ hinv=>?_)
 obtain⟨hk,hvr⟩:=hinv;refine sr λ_ J6=>PS ?_
 refine ap ?_ ?_<;>intro h16;have hkn:=LI (n:=bs.length) (k:=k) (by omega);have hpe:=LJ bs k;have hP:IsW (kB (.slice a bs.length c) (k*52) (min ((k+1)*52) bs.length)) (hJ bs k) F:=by rw[←hpe];exact hF.cut (by omega) (by omega)
 have hpl:=uB bs k;have hpk:=po hb;have hP2:=hP.len;refine nx J6 (aa λ_ J7=>CY (qx J7 (aa λ_ J8=>aq (sr λ_ J9=>P2 ?_))));refine nx J9 (sr λ_ J10=>P2 ?_);refine tp (My (r:=((k*52:Nat):Int)) rfl rfl rfl (by rw[show((k:Nat):Int)*52=((k*52:Nat):Int)by omega];exact bK (by omega) (by omega))) ?_;refine PS ?_;refine AD ?_;refine tp (My (r:=(((k+1)*52:Nat):Int)) rfl rfl rfl (by rw[show(((k:Nat):Int)+1)*52=(((k+1)*52:Nat):Int)by omega];exact bK (by omega) (by omega))) ?_;refine PS ?_;refine tp (eA rfl ia rfl ⟨_,_,rfl⟩) ?_;refine tp (PV.minI rfl rfl rfl) ?_;refine tp (PV.sliceLH (lo:=k*52) (hi:=min ((k+1)*52) bs.length) rfl ia lT rfl rfl rfl rfl (by omega) (by omega) (by omega)) ?_;refine PS ?_;refine nx J10 (sr λ_ J11=>TL.makeB (59) (59) (ab rfl) rfl rfl rfl ia z0 rfl rfl rfl rfl (by omega) (by omega) (λb28=>PS ?_));refine nx J11 (aa λ_ J12=>sr λ_ J13=>PS ?_);refine nx J13 (aq (sE 5 (sr λ_ J14=>PS ?_)));refine nx J14 (aa λ_ J15=>CY (qx J15 (aa λ_ J16=>aq (sr λ_ J17=>P2 ?_))));refine nx J17 (ad (P4 ?_));refine tp (j8 (r:=3) rfl rfl rfl (by decide)) ?_;refine tp (My (r:=24) rfl rfl rfl (by decide)) ?_;refine tp (mp (r:=((number:Nat):Int).fdiv 16777216) rfl rfl rfl (by omega) rfl) ?_;refine tp (eL (r:=(((r8 (((number:Nat):Int).fdiv 16777216)).toNat:Nat):Int)) rfl Y3 Y5 rfl (r8_wrap _)) ?_
 refine tp (j9 (r:=0) rfl ia lT rfl rfl (by first|omega|decide) (by first|omega|decide) rfl) ?_;refine S0 0 lT ?_;refine aw (af (ac J16 (ad (tp (cB (r:=1) rfl rfl rfl (by decide)) ?_))));refine PS ?_;refine aw (eJ (sr λ_ J18=>PS ?_));refine nx J18 (aa λ_ J19=>CY (qx J19 (aa λ_ J20=>aq (sr λ_ J21=>P2 ?_))));refine nx J21 (ad (P4 ?_));refine tp (j8 (r:=2) rfl rfl rfl (by decide)) ?_;refine tp (My (r:=16) rfl rfl rfl (by decide)) ?_;refine tp (mp (r:=((number:Nat):Int).fdiv 65536) rfl rfl rfl (by omega) rfl) ?_;refine tp (eL (r:=(((r8 (((number:Nat):Int).fdiv 65536)).toNat:Nat):Int)) rfl Y3 Y5 rfl (r8_wrap _)) ?_;refine tp (j9 (r:=1) rfl ia lT rfl rfl (by first|omega|decide) (by first|omega|decide) rfl) ?_;refine S0 0 lT ?_;refine aw (af (ac J20 (ad (tp (cB (r:=2) rfl rfl rfl (by decide)) ?_))));refine PS ?_;refine aw (eJ (sr λ_ J22=>PS ?_));refine nx J22 (aa λ_ J23=>CY (qx J23 (aa λ_ J24=>aq (sr λ_ J25=>P2 ?_))));refine nx J25 (ad (P4 ?_));refine tp (j8 (r:=1) rfl rfl rfl (by decide)) ?_;refine tp (My (r:=8) rfl rfl rfl (by decide)) ?_;refine tp (mp (r:=((number:Nat):Int).fdiv 256) rfl rfl rfl (by omega) rfl) ?_;refine tp (eL (r:=(((r8 (((number:Nat):Int).fdiv 256)).toNat:Nat):Int)) rfl Y3 Y5 rfl (r8_wrap _)) ?_;refine tp (j9 (r:=2) rfl ia lT rfl rfl (by first|omega|decide) (by first|omega|decide) rfl) ?_;refine S0 0 lT ?_
 refine aw (af (ac J24 (ad (tp (cB (r:=3) rfl rfl rfl (by decide)) ?_))));refine PS ?_;refine aw (eJ (sr λ_ J26=>PS ?_));refine nx J26 (aa λ_ J27=>CY (qx J27 (aa λ_ J28=>aq (sr λ_ J29=>P2 ?_))));refine nx J29 (ad (P4 ?_));refine tp (j8 (r:=0) rfl rfl rfl (by decide)) ?_;refine tp (My (r:=0) rfl rfl rfl (by decide)) ?_;refine tp (mp (r:=((number:Nat):Int)) rfl rfl rfl (by omega) (Int.fdiv_one _)) ?_;refine tp (eL (r:=(((r8 (((number:Nat):Int))).toNat:Nat):Int)) rfl Y3 Y5 rfl (r8_wrap _)) ?_;refine tp (j9 (r:=3) rfl ia lT rfl rfl (by first|omega|decide) (by first|omega|decide) rfl) ?_;refine S0 0 lT ?_;refine aw (af (ac J28 (ad (tp (cB (r:=4) rfl rfl rfl (by decide)) ?_))));refine PS ?_;refine aw (eJ (sr λ_ J30=>PS ?_));refine nx J30 (aa λ_ J31=>CN (bh (aC (aC (bC (ac J12 (sr λ_ J32=>P4 ?_)))))));refine tp (eL (r:=(((r8 (((k:Nat):Int))).toNat:Nat):Int)) rfl Y3 Y5 rfl (r8_wrap _)) ?_;refine PS ?_;refine tp (eL (r:=(((r8 (((bj bs.length:Nat):Int))).toNat:Nat):Int)) rfl Y3 Y5 rfl (r8_wrap _)) ?_;refine PS ?_;refine tp (eA rfl ia rfl hP2) ?_;refine tp (eL (r:=(((r8 ((((hJ bs k).length:Nat):Int))).toNat:Nat):Int)) rfl Y3 Y5 rfl (r8_wrap _)) ?_;refine tp (j9 (r:=4) rfl ia lT rfl rfl (by first|omega|decide) (by first|omega|decide) rfl) ?_;refine S0 0 lT ?_;refine tp (j9 (r:=5) rfl ia lT rfl rfl (by first|omega|decide) (by first|omega|decide) rfl) ?_;refine S0 0 lT ?_
 refine tp (j9 (r:=6) rfl ia lT rfl rfl (by first|omega|decide) (by first|omega|decide) rfl) ?_;refine S0 0 lT ?_;refine nx J32 (sr λ_ J33=>PS ?_);refine tp (PV.sliceLo (k:=7) (v:=(.slice (some ⟨b28,7,none⟩) (52) (52))) rfl ia lT rfl rfl rfl (by decide) rfl) ?_;refine PS ?_;refine N5 (i:=0) (m:=(hJ bs k).length) (news:=(ek (hJ bs k))) (H':=[ah b28 (ek (kd ((number:Nat):Int) k (bj bs.length) (hJ bs k))) 5,mP 62 5 vr (nC ((number:Nat):Int) bs k)]) (ab rfl) rfl rfl rfl ia lT rfl rfl rfl rfl (λ_ _=>hP.src (λ_ h=>fE h)) (fl _) (by show 7+min (hJ bs k).length 52≤59;omega) (Ht (number:=((number:Nat):Int)) (place:=k) (all:=bj bs.length) hpl) rfl (nx J33 (ad (P2 ?_)));refine CQ OO (vc (.slice (some ⟨b28,0,none⟩) (59) (59)) (kd ((number:Nat):Int) k (bj bs.length) (hJ bs k)) (by rw[jV hpl];decide)) ID (λg d s=>KQ (DH 0 59 (jV hpl) (by decide) rfl rfl g d s)) λvR HR hR=>?_
 subst hR;refine aV (cells:=#[(.int .u8 1)]) (ab rfl) rfl rfl rfl ia z0 rfl rfl rfl (by as_aux_lemma=>kernel_rfl) (λb62=>cL (k:=1) (news:=ek ([1])) (nn':=(qE (kd ((number:Nat):Int) k (bj bs.length) (hJ bs k))++[1]:List UInt8).length) (xs':=ek (qE (kd ((number:Nat):Int) k (bj bs.length) (hJ bs k))++[1])) (ab rfl) rfl rfl rfl ia z0 rfl rfl rfl rfl rfl rfl (λ_ _=>j7 rfl (RO 0) rfl) (fl [1]) (by rw[lv,jV hpl];simp only[maxLen];omega) (by rw[lv,jV hpl];omega) (by simp) (jy _ _).symm (λv63 ov63=>aV (cells:=#[v63]) (ab rfl) rfl rfl rfl vW It rfl rfl rfl (tH ov63 (by simp)) (λb64=>?_)));change TL _ _ _ _ _ _ _ _ _ [ah b64 [v63] 62,ah b62 [(.int .u8 1)] 5,dZ v63 (qE (kd ((number:Nat):Int) k (bj bs.length) (hJ bs k))++[1]) 5,ah b28 (ek (kd ((number:Nat):Int) k (bj bs.length) (hJ bs k))) 5,mP 62 5 vr (nC ((number:Nat):Int) bs k)];refine cr (λ_ s=>az [4] rfl s) (MY (λus65=>cL (k:=0) (m:=1) (news:=[v63]) (nn':=(nC ((number:Nat):Int) bs k).length+1) (xs':=us65++[v63]) (ab rfl) rfl rfl rfl vW It rfl rfl rfl rfl rfl rfl (λ_ _=>j7 rfl (RO 2) rfl) (List.forall_mem_cons.2 ⟨ov63,λ_ h=>by cases h⟩) (by rw[zk];simp only[maxLen];omega) (by rw[zk];omega) rfl rfl (λv65 ov65=>?_)))
 change TL _ _ _ _ _ _ _ _ _ [own v65 ((nC ((number:Nat):Int) bs k).length+1) (us65++[v63]) 62 1,eQ us65 (nC ((number:Nat):Int) bs k) 5,ah b64 [v63] 62,ah b62 [(.int .u8 1)] 5,dZ v63 (qE (kd ((number:Nat):Int) k (bj bs.length) (hJ bs k))++[1]) 5,ah b28 (ek (kd ((number:Nat):Int) k (bj bs.length) (hJ bs k))) 5];refine cr (λ_ s=>AZ 4 rfl rfl s) (cr (H':=[own v65 ((nC ((number:Nat):Int) bs k).length+1) (us65++[v63]) 62 1,eQ us65 (nC ((number:Nat):Int) bs k) 5,ic v63 (qE (kd ((number:Nat):Int) k (bj bs.length) (hJ bs k))++[1]) 5,ah b64 [v63] 62,ah b62 [(.int .u8 1)] 5,ah b28 (ek (kd ((number:Nat):Int) k (bj bs.length) (hJ bs k))) 5]) (λ_ s=>az [0,0,2] rfl s) (cr (λ_ s=>vh s) ?_));rw[←E9];refine PS ?_;refine aw (af (ac J8 (ad (AD ?_))));refine PS ?_;refine aw ?_
 exact aL ((k+1,v65):(Nat)×(Value)) ⟨by omega,ov65⟩ (by show bj bs.length- (k+1)<bj bs.length-k;omega)
  SB
  (λ_ s=>ak [0] rfl s)
 refine nx J6 (aa λ_ J34=>CN (bh (aC (aC (bC (ac J4 (sr λ_ J35=>P2 ?_)))))));refine nx J35 (aj (WK [0] (av rfl rfl ?_)));obtain rfl:k=bj bs.length:=by omega
 exact rfl
theorem A2(x:Value)(number:Nat)(bs:List UInt8)(hb:bs.length≤3000):DT 147 #[.int .i64 ((number:Nat):Int),x] (IsW x bs) [] (dH (λv H=>H=[mP 62 5 v (bW ((number:Nat):Int) bs)])):=λw G h m=>by
 obtain⟨a,c,rfl,hc,_⟩:=h.form;exact A1 a c number bs hc hb w G h m
theorem xo(s:jt)(number place:Int)(hs:s.length=64):
 DT 115 #[(.agg (ek s).toArray),(.int .i64 (number)),(.int .i64 (place))] T0 [] (dH (λv H=>(fK s number place=none∧v= .tuple #[.slice none 0 0, .int .i64 0, .bool false]∧H=[])∨∃b all u,fK s number place=some (b,all)∧v= .tuple #[u, .int .i64 all, .bool true]∧H=[ic u b 5])):=by
 refine Leg.Does.body (n:=74) Tryz.func115 rfl rfl rfl (λw0 F hF=>sr λ_ J1=>XB λb3=>?_);change TL _ _ _ _ _ _ _ _ _ [ah b3 (ek s) 98]
 iterate 3 refine PS ?_
 refine nx J1 (sr λ_ J2=>tp (Ra (k:=63) rfl BZ lT rfl rfl (by omega) (by omega) rfl) ?_);refine CQ MM (zc (.slice (some ⟨b3,0,none⟩) (63) (64)) (s.take 63) (by rw[bR];omega)) (λ_ s=>s) (λg d s'=>KQ (Ir 0 63 (by omega) (by omega) (by decide) (by rw[aD (by rw[aZ];omega)]) hs.symm rfl rfl g d s')) λvR HR hR=>?_
 rcases hR with⟨ht,rfl,rfl⟩| ⟨t,u,ht,rfl,rfl⟩
 refine PS ?_;refine tp (iy (vs:=[(.slice none 0 0),(.bool false)]) rfl rfl rfl) ?_;refine tp (iy (vs:=[(.slice none 0 0),(.bool false)]) rfl rfl rfl) ?_;refine PS ?_;refine PS ?_;refine nx J2 (aa λ_ J3=>sr λ_ J4=>PS ?_);refine tp (nc (r:=true) rfl rfl rfl) ?_;refine PS ?_
 iterate 3 refine UT ?_
 refine PS ?_;refine nx J4 (CY (sr λ_ J5=>?_))
 iterate 3 refine PS ?_
 exact nx J5 (aj (ae (WK [] (nT rfl rfl rfl rfl (.inl ⟨Bg ht,rfl,rfl⟩)))));have htl:=zd ht;rw[bR]at htl;have ht59:t.length=59:=by omega
 refine jh 0 rfl rfl (by omega) (λg cap hv hcap=>PS ?_);refine tp (iy (vs:=[u,(.bool true)]) rfl rfl rfl) ?_;refine tp (iy (vs:=[u,(.bool true)]) rfl rfl rfl) ?_;refine PS ?_;refine PS ?_;refine nx J2 (aa λ_ J6=>sr λ_ J7=>PS ?_);refine tp (nc (r:=false) rfl rfl rfl) ?_;refine PS ?_;refine tq (oo (r:=63) rfl BZ lT rfl rfl (lz rfl) (lz rfl) rfl) ?_;refine tq (ii (v:=(.int .u8 ((((s.getD 63 0).toNat:Nat):Int)))) rfl Y5 rfl rfl (RO 1) (rP (by omega))) ?_;refine PS ?_;refine ap (λh26=>?_) (λh26=>?_);refine PS ?_;refine nx J7 (CY (sr λ_ J8=>?_))
 iterate 3 refine PS ?_
 refine nx J8 (aj (ae (WK [] (nT rfl rfl rfl rfl ?_))));exact .inl ⟨rZ (λh=>h26 (by rw[h];rfl)),rfl,rfl⟩;refine PS ?_;refine nx J7 (CN (qx J6 (sr λ_ J9=>PS ?_)));refine nx J9 (aa λ_ J10=>sr λ_ J11=>PS ?_);refine tp (Ri (PV.sliceH (a:=some ⟨g,0,none⟩) (len:=t.length) (cap:=cap) (hi:=4) rfl ia lT (by rw[←hv];rfl) rfl rfl (by omega)) (Mi (by omega))) ?_;refine tp (tV rfl ia rfl) ?_;refine PS ?_;refine nx J11 (aq ?_)
 refine bD (α:=(Nat)) (λk=>k≤4) (λk=>[(1,(.int .i64 (number))),(2,(.int .i64 (place))),(6,(.slice none 0 0)),(7,(.int .i64 0)),(8,(.bool false)),(9,u),(11,(.int .i64 (IR (t.take k)))),(29,(.slice (some ⟨g,0,none⟩) (4) (cap))),(30,(.int .i64 4)),(31,(.int .i64 (((k:Nat):Int))))]) (λk=>[dZ u (t) 5,ah b3 (ek s) 98]) (λk=>4-k) 0
  (aO _) SB
  (λ_ s=>s) (λk hinv=>?_)
 obtain hk:=hinv;refine sr λ_ J12=>PS ?_
 refine ap (λh32=>?_) (λh32=>?_);refine nx J12 (aa λ_ J13=>CY (qx J13 (aa λ_ J14=>aq (sr λ_ J15=>tp (j9 (r:=k) rfl ia lT rfl rfl (by first|omega|decide) (by first|omega|decide) (by omega)) ?_))));refine tp (cZ (v:=(.int .u8 ((((t.getD k 0).toNat:Nat):Int)))) rfl Y5 rfl rfl (gq 0 rfl hv rfl) (rP (by omega))) ?_;refine PS ?_;refine nx J15 (ad (PS ?_));refine tp (yU (r:=IntKind.i64.wrap ((IR (t.take k))*2^8)) rfl rfl rfl (by omega) rfl) ?_;refine PS ?_;refine tp (eL (r:=(((t.getD k 0).toNat:Nat):Int)) rfl Y5 Y3 rfl (bK (by omega) (by have:=UInt8.toNat_lt (n:=t.getD k 0);omega))) ?_;refine tp (KM (r:=iP .i64 (IntKind.i64.wrap ((IR (t.take k))*2^8)) (((t.getD k 0).toNat:Nat):Int)) rfl rfl rfl rfl) ?_;refine PS ?_;refine aw (af (ac J14 (ad (AD ?_))));refine PS ?_;refine aw ?_
 exact aL ((k+1):(Nat)) (by omega) (by show 4- (k+1)<4-k;omega)
  (aT (aT (aT (aT (aT (aT (bE rfl (congrArg (Value.int .i64) (KA (by omega)).symm) SB)))))))
  (λ_ s=>s)
 refine nx J12 (aa λ_ J16=>CN (bh (aC (aC (bC (ac J10 (aa λ_ J17=>oZ (λw=>Frm F w∧Hx g (ek (t)) w∧True) dA rfl (λ_ s=>⟨fE s,gq 0 rfl hv rfl _ s,trivial⟩) (PD 0 ?_))))))));refine ta 1 rfl (bT (r:=5) hv rfl ia lT rfl rfl (by omega) (by omega) rfl) ?_;refine ta 2 rfl (cZ (v:=(.int .u8 ((((t.getD 5 0).toNat:Nat):Int)))) rfl Y5 rfl rfl (λ_ h=>h.2.1) (rP (by omega))) ?_;refine ta 3 rfl (eL (r:=(((t.getD 5 0).toNat:Nat):Int)) rfl Y5 Y3 rfl (bK (by omega) (by have:=UInt8.toNat_lt (n:=t.getD 5 0);omega))) ?_;refine PD 4 ?_;refine ta 5 rfl (bT (r:=6) hv rfl ia lT rfl rfl (by omega) (by omega) rfl) ?_;refine ta 6 rfl (cZ (v:=(.int .u8 ((((t.getD 6 0).toNat:Nat):Int)))) rfl Y5 rfl rfl (λ_ h=>h.2.1) (rP (by omega))) ?_;refine ta 7 rfl (eL (r:=(((t.getD 6 0).toNat:Nat):Int)) rfl Y5 Y3 rfl (bK (by omega) (by have:=UInt8.toNat_lt (n:=t.getD 6 0);omega))) ?_;refine PD 8 ?_;refine PD 9 ?_;refine DN (ac J17 (aa λ_ J18=>sr λ_ J19=>?_))
 iterate 3 refine PS ?_
 refine ap (λh51=>?_) (λh51=>?_);refine PS ?_
 iterate 6 refine UT ?_
 refine PS ?_;refine PS ?_
 iterate 3 refine UT ?_
 refine PS ?_;refine PS ?_;refine UT ?_;refine UT ?_;refine PS ?_;refine nx J19 (CY (sr λ_ J20=>?_))
 iterate 3 refine PS ?_
 refine nx J20 (aj (ae (WK [] (nT rfl rfl rfl rfl ?_))));exact .inl ⟨mZ ht (.inl (by have:k=4:=(by omega);subst this;exact h51)),rfl,rfl⟩;refine PS ?_;refine PS ?_;refine tq (bT (r:=4) hv rfl ia lT rfl rfl (by omega) (by omega) rfl) ?_;refine tq (cZ (v:=(.int .u8 ((((t.getD 4 0).toNat:Nat):Int)))) rfl Y5 rfl rfl (gq 0 rfl hv rfl) (rP (by omega))) ?_;refine tq (eL (r:=(((t.getD 4 0).toNat:Nat):Int)) rfl Y5 Y3 rfl (bK (by omega) (by have:=UInt8.toNat_lt (n:=t.getD 4 0);omega))) ?_;refine PS ?_;refine PS ?_;refine ap (λh58=>?_) (λh58=>?_);refine PS ?_;refine PS ?_
 iterate 3 refine UT ?_
 refine PS ?_;refine PS ?_;refine UT ?_;refine UT ?_;refine PS ?_;refine nx J19 (CY (sr λ_ J21=>?_))
 iterate 3 refine PS ?_
 exact nx J21 (aj (ae (WK [] (nT rfl rfl rfl rfl (.inl ⟨mZ ht (.inr (.inl h58)),rfl,rfl⟩)))))
 iterate 5 refine PS ?_
 refine ap (λh63=>?_) (λh63=>?_);refine PS ?_;refine PS ?_;refine UT ?_;refine UT ?_;refine PS ?_;refine nx J19 (CY (sr λ_ J22=>?_))
 iterate 3 refine PS ?_
 exact nx J22 (aj (ae (WK [] (nT rfl rfl rfl rfl (.inl ⟨mZ ht (.inr (.inr (.inl h63))),rfl,rfl⟩)))))
 iterate 4 refine PS ?_
 refine ap (λh67=>?_) (λh67=>?_);refine PS ?_;refine nx J19 (CY (sr λ_ J23=>?_))
 iterate 3 refine PS ?_
 exact nx J23 (aj (ae (WK [] (nT rfl rfl rfl rfl (.inl ⟨mZ ht (.inr (.inr (.inr h67))),rfl,rfl⟩)))));refine PS ?_;refine nx J19 (CN (qx J18 (sr λ_ J24=>PS ?_)));refine PS ?_;refine tp (cB (r:=((7+(t.getD 6 0).toNat:Nat):Int)) rfl rfl rfl (by rw[show(7:Int)+(((t.getD 6 0).toNat:Nat):Int)=((7+(t.getD 6 0).toNat:Nat):Int)by omega];have:=UInt8.toNat_lt (n:=t.getD 6 0);exact bK (by omega) (by omega))) ?_;refine tp (Ri (PV.sliceLH (a:=some ⟨g,0,none⟩) (len:=t.length) (cap:=cap) (lo:=7) (hi:=7+(t.getD 6 0).toNat) rfl ia lT (by rw[←hv];rfl) rfl rfl rfl rfl (by omega) (by omega)) (congrArg (λq=>kB q 7 (7+(t.getD 6 0).toNat)) hv.symm)) ?_
 iterate 4 refine PS ?_
 refine nx J24 (aj (aF (H':=[ic (kB u 7 (7+(t.getD 6 0).toNat)) ((t.drop 7).take (t.getD 6 0).toNat) 5]) (dV _) (λ_ s'=>ak [0] rfl (wZ 0 rfl rfl hv (by omega) (by omega) (by omega) (by rw[o8,cq]) s')) (nT rfl rfl rfl rfl ?_)));obtain rfl:k=4:=by omega
 have h1:s.getD 63 0=1:=UInt8.toNat_inj.1 (by have h1':(1:UInt8).toNat=1:=rfl;omega);exact .inr ⟨_,_,_,Dm ht h1 (by omega),rfl,rfl⟩
end Go.Proofs.YtmcjhkbcmmddgaaGreat
end

section
namespace Wal
open Go Leg Codec Api Dsk
theorem uP(i:Nat){us:List Value}{ls:List (List UInt8)}{e k:Nat}{B:List HP}{F:Hl}(hk:k<ls.length)(hi:Nat.blt i B.length=true)(hH:B.getD i (λ_=>True)=eQ us ls e): ∀g,Dj g F→bz B g→IsB (us.getD k undef) ls[k] (jn g F):=λg d s=>by
 obtain⟨h1,h2,d',rfl,a,_⟩:=fm i (lb hi) s;rw[hH]at a;obtain⟨hl,a⟩:=a;obtain⟨u,e1,k1,k2,dk,rfl,a3⟩:=xW us ls e _ hl a k hk;rw[List.getD_eq_getElem?_getD,e1];exact Cq a3 λb o e=>iA (iA (iA e))
theorem In.read{s ws:fN}(h1:In s)(h2:In ws)(at':Int)(h: ¬(0≤at'∧at'<2048)): ∀k,k≤ws.length→jd s ws at' k=zs
 |0,_=>by
  show gE s at'=zs
  induction s with
  |nil=>rfl
  |cons p s ih=>
   obtain⟨a,b⟩:=p;simp only[gE];have hh:=h1 (a,b) (by simp);rw[if_neg (λe=>h (by simp only at hh;omega))];exact ih λq hq=>h1 q (by simp[hq])
 |k+1,hk=>by
  simp only[jd];rw[if_neg,In.read h1 h2 at' h k (by omega)];intro e;rw[wD (by omega)]at e;have hh:=h2 ws[k] (fc _);exact h (by omega)
theorem DS.In.read{D:DS}(h:Wal.DS.In D){at':Int}(h2: ¬(0≤at'∧at'<2048)):D.read at'=zs:=Wal.In.read h.1 h.2 at' h2 _ (aH _)
theorem H6(number place:Int):fK zs number place=none:=rZ (by decide)
theorem xw{rd:Int→jt}{number at' all:Int}: ∀(m:Nat) {b:List UInt8},lx rd number at' all m=some b→∀k,k<m→∃x,fK (rd (at'+k)) number k=some (x,all)
 |0,_,_,k,hk=>by omega
 |m+1,b,h,k,hk=>by
  simp only[lx]at h;split at h
  · cases h
  · rename_i b' hb
    split at h
    · cases h
    · rename_i x same hx
      split at h
      · rename_i hs
        by_cases e:k=m
        · subst e;exact⟨x,by rw[hx,hs]⟩
        · exact xw m hb k (by omega)
      · cases h
theorem lU{rd:Int→jt}{number at' all:Int}{b:List UInt8}(hl:(rd at').length=64)(h:gx rd number at'=some (b,all)):0<all∧all≤255∧∀k:Nat,(k:Int)<all→∃x,fK (rd (at'+k)) number k=some (x,all):=by
 unfold gx at h;split at h
 · cases h
 · rename_i x al hp
   obtain⟨f1,f2,_⟩:=pp hl hp;obtain⟨c,hc,e⟩:=Option.map_eq_some_iff.1 h;injection e with e1 e2
   subst e1;subst e2;exact⟨f1,f2,λk hk=>xw _ hc k (by omega)⟩
theorem pj{D:DS}(hI:Wal.DS.In D)(hD:D.Ok){number at' all:Int}{b:List UInt8}(h0:0≤at')(h:gx D.read number at'=some (b,all)):at'+all≤2048:=by
 obtain⟨f1,f2,f3⟩:=lU (mw hD _) h;obtain⟨x,hx⟩:=f3 (all-1).toNat (by omega)
 by_cases q:at'+all≤2048
 · exact q
 · rw[DS.In.read hI (by omega),H6]at hx;cases hx
theorem zl{rd:Int→jt}{f:Nat}{cnt used:Int}(h:gx rd (cnt+1) used=none):gF rd f cnt used=([],used):=by
 cases f with
 |zero=>rfl
 |succ f=>simp only[gF,h]
theorem Gw{rd:Int→jt}{f:Nat}{cnt used all:Int}{b:List UInt8}(h:gx rd (cnt+1) used=some (b,all)):gF rd (f+1) cnt used=(b::(gF rd f (cnt+1) (used+all)).1,(gF rd f (cnt+1) (used+all)).2):=by simp only[gF,h]
def Scan(D:DS)(f:Nat)(rs:List (List UInt8))(used:Int):Prop:=
 gF D.read jM 0 0=(rs++(gF D.read f rs.length used).1,(gF D.read f rs.length used).2)∧0≤used∧used≤2048∧2049≤(f:Int)+used∧(rs.length:Int)≤used
theorem Scan.start(D:DS):Scan D jM [] 0:=by
 refine⟨?_,by omega,by omega,by rw[tE];omega,by simp⟩;have e:((([]:List (List UInt8)).length:Nat):Int)=0:=rfl;rw[aQ,e]
theorem Scan.next{D:DS}(hI:Wal.DS.In D)(hD:D.Ok){f:Nat}{rs:List (List UInt8)}{used all:Int}{b:List UInt8}(h:Scan D f rs used)(h2:gx D.read ((rs.length:Int)+1) used=some (b,all)): ∃f',f=f'+1∧Scan D f' (rs++[b]) (used+all):=by
 obtain⟨h1,h0,h3,h4,h5⟩:=h;have hr:=pj hI hD h0 h2;have hf:=(lU (mw hD _) h2).1;obtain⟨f',rfl⟩: ∃f',f=f'+1:=⟨f-1,by omega⟩;refine⟨f',rfl,?_,by omega,by omega,by omega,by simp;omega⟩;rw[h1,Gw h2];simp
theorem Scan.stop{D:DS}{f:Nat}{rs:List (List UInt8)}{used:Int}(h:Scan D f rs used)(h2:gx D.read ((rs.length:Int)+1) used=none):gF D.read jM 0 0=(rs,used):=by
 rw[h.1,zl h2];simp
theorem B8{D:DS}{at':Int}(h:2048≤at'):kb (2048-at').toNat at' D=(0,D):=by rw[show(2048-at').toNat=0 by omega];rfl
theorem Hg{D:DS}{at':Int}(h:at'<2048)(h2:D.read at'=zs):kb (2048-at').toNat at' D=kb (2048- (at'+1)).toNat (at'+1) D:=by
 rw[show(2048-at').toNat=(2048- (at'+1)).toNat+1 by omega,kb,if_pos h2]
theorem K8{D:DS}{at':Int}(h:at'<2048)(h2:D.read at'≠zs)(h3:(D.write at' []).1=0):kb (2048-at').toNat at' D=kb (2048- (at'+1)).toNat (at'+1) (D.write at' []).2:=by
 rw[show(2048-at').toNat=(2048- (at'+1)).toNat+1 by omega,kb,if_neg h2,if_pos h3]
theorem Hh{D:DS}{at':Int}(h:at'<2048)(h2:D.read at'≠zs)(h3:(D.write at' []).1≠0):kb (2048-at').toNat at' D=D.write at' []:=by
 rw[show(2048-at').toNat=(2048- (at'+1)).toNat+1 by omega,kb,if_neg h2,if_neg h3]
theorem Fm{D D':DS}{rs:List (List UInt8)}{used e:Int}(h:gF D.read jM 0 0=(rs,used))(h2:kb (2048-used).toNat used D=(e,D'))(h3:e≠0):bN D=⟨e,[],0,D'⟩:=by
 simp only[bN,h,h2];rw[if_pos h3]
theorem Fl{D D':DS}{rs:List (List UInt8)}{used:Int}(h:gF D.read jM 0 0=(rs,used))(h2:kb (2048-used).toNat used D=(0,D'))(h3:D'.sync.1≠0):bN D=⟨D'.sync.1,[],0,D'.sync.2⟩:=by
 simp only[bN,h,h2,ne_eq,not_true_eq_false,if_false];rw[if_pos h3]
theorem GD{D D':DS}{rs:List (List UInt8)}{used:Int}(h:gF D.read jM 0 0=(rs,used))(h2:kb (2048-used).toNat used D=(0,D'))(h3:D'.sync.1=0):bN D=⟨0,rs,used,D'.sync.2⟩:=by
 simp only[bN,h,h2,ne_eq,not_true_eq_false,if_false];rw[if_neg (by simp[h3])]
def gK:List jt→Int→DS→Int×DS
 | [],_,D=>(0,D)
 |s::ss,at',D=>if(D.write at' s).1=0 then gK ss (at'+1) (D.write at' s).2 else D.write at' s
structure PutR where
 err:Int
 cnt:Nat
 used:Int
 D:DS
def l6(D:DS)(cnt:Nat)(used:Int)(bs:List UInt8):PutR:=
 if 3000<bs.length then⟨2,cnt,used,D⟩
 else if(bj bs.length:Int)>2048-used then⟨3,cnt,used,D⟩
 else
  let w:=gK (bW ((cnt+1:Nat):Int) bs) used D
  if w.1≠0 then⟨w.1,cnt,used,w.2⟩else if w.2.sync.1≠0 then⟨w.2.sync.1,cnt,used,w.2.sync.2⟩else⟨0,cnt+1,used+bj bs.length,w.2.sync.2⟩
theorem B5{ss:List jt}{at':Int}{D:DS}{k:Nat}(hk:k<ss.length)(h:(D.write (at'+k) ss[k]).1=0):gK (ss.drop k) (at'+k) D=gK (ss.drop (k+1)) (at'+(k+1:Nat)) (D.write (at'+k) ss[k]).2:=by
 rw[dI hk,gK,if_pos h];congr 1;omega
theorem B6{ss:List jt}{at':Int}{D:DS}{k:Nat}(hk:k<ss.length)(h:(D.write (at'+k) ss[k]).1≠0):gK (ss.drop k) (at'+k) D=D.write (at'+k) ss[k]:=by
 rw[dI hk,gK,if_neg h]
section
variable {D D':DS} {cnt:Nat} {used:Int} {bs:List UInt8}
theorem JA(h:3000<bs.length):l6 D cnt used bs=⟨2,cnt,used,D⟩:=by rw[l6,if_pos h]
theorem Di(h: ¬3000<bs.length)(h2:(bj bs.length:Int)>2048-used):l6 D cnt used bs=⟨3,cnt,used,D⟩:=by rw[l6,if_neg h,if_pos h2]
theorem zx{e:Int}(h: ¬3000<bs.length)(h2: ¬(bj bs.length:Int)>2048-used)(h3:gK (bW ((cnt+1:Nat):Int) bs) used D=(e,D'))(h4:e≠0):l6 D cnt used bs=⟨e,cnt,used,D'⟩:=by
 rw[l6,if_neg h,if_neg h2];simp only[h3];rw[if_pos h4]
theorem HZ(h: ¬3000<bs.length)(h2: ¬(bj bs.length:Int)>2048-used)(h3:gK (bW ((cnt+1:Nat):Int) bs) used D=(0,D'))(h4:D'.sync.1≠0):l6 D cnt used bs=⟨D'.sync.1,cnt,used,D'.sync.2⟩:=by
 rw[l6,if_neg h,if_neg h2];simp only[h3,ne_eq,not_true_eq_false,if_false];rw[if_pos h4]
theorem put_ok(h: ¬3000<bs.length)(h2: ¬(bj bs.length:Int)>2048-used)(h3:gK (bW ((cnt+1:Nat):Int) bs) used D=(0,D'))(h4:D'.sync.1=0):l6 D cnt used bs=⟨0,cnt+1,used+bj bs.length,D'.sync.2⟩:=by
 rw[l6,if_neg h,if_neg h2];simp only[h3,ne_eq,not_true_eq_false,if_false];rw[if_neg (by simp[h4])]
end
end Wal
end

section
namespace Go.Proofs.YtmcjhkbcmmddgaaGreat
open Go Leg Codec Api Dsk Wal
abbrev GT(lg d:Nat)(cnt used:Int):HP:=ah lg [.pointer (some ⟨d,0,none⟩), .int .i64 cnt, .int .i64 used] 162
abbrev P0(v:Value)(ls:List (List UInt8)):HP:=mP 62 5 v ls
theorem CA(d:Nat)(D:DS)(number at':Int)(hD:D.Ok)(hb:D.ws.length≤1000000000)(ha:0≤at'∧at'≤1000000):
 DT 81 #[(.pointer (some ⟨d,0,none⟩)),(.int .i64 (number)),(.int .i64 (at'))] T0 [dk d (D)] (dH (λv H=>(gx D.read number at'=none∧v= .tuple #[.slice none 0 0, .int .i64 0, .bool false]∧H=[dk d D])∨∃b all u,gx D.read number at'=some (b,all)∧v= .tuple #[u, .int .i64 all, .bool true]∧H=[ic u b 5,dk d D])):=by
 refine BD 56 Tryz.func81 rfl rfl rfl λw0 F hF=>sr λ_ J1=>P3 ?_
 refine nx J1 (sr λ_ J2=>P2 ?_);refine CR Ns (BC d (D) at' hD hb) ID λvR HR hR=>?_
 obtain⟨hv,rfl⟩:=hR;subst hv;refine PS ?_;refine CR MO (xo ((D).read at') number 0 (mw hD _)) ID λvR HR hR=>?_
 rcases hR with⟨hp,rfl,rfl⟩| ⟨b,all,u,hp,rfl,rfl⟩
 refine P4 ?_;refine P3 ?_;refine nx J2 (aa λ_ J3=>sr λ_ J4=>PS ?_);refine PS ?_;refine nx J4 (CY (sr λ_ J5=>P3 ?_));exact nx J5 (aj (ae (WK [0] (nT rfl rfl rfl rfl (.inl ⟨rz hp,rfl,rfl⟩)))));refine TL.subLen 0 rfl rfl (λhul hu=>?_);have hpf:=pp (mw hD _) hp;refine P4 ?_;refine P3 ?_;refine nx J2 (aa λ_ J6=>sr λ_ J7=>PS ?_);refine PS ?_;refine nx J7 (CN (qx J6 (aa λ_ J8=>sr λ_ J9=>PS ?_)));refine nx J9 (aq ?_)
 refine bD (α:=(Nat)×(List UInt8)×(Value)) (λ⟨k,c,w⟩=>1≤k∧k≤all.toNat∧lx D.read number at' all k=some c∧c.length≤k*52∧w.oneCell'=true) (λ⟨k,c,w⟩=>[(0,(.pointer (some ⟨d,0,none⟩))),(1,(.int .i64 (number))),(2,(.int .i64 (at'))),(9,w),(10,(.int .i64 (all))),(12,(.int .i64 (((k:Nat):Int))))]) (λ⟨k,c,w⟩=>[ic w (c) 5,dk d (D)]) (λ⟨k,c,w⟩=>all.toNat-k) (1,b,u)
  ⟨aH _,by omega,Ii hp,by omega,hu⟩ SB
  (λ_ s=>s) (λ⟨k,c,w⟩ hinv=>?_)
 obtain⟨hk1,hk2,hk3,hk4,hw⟩:=hinv;refine aa λ_ J10=>sr λ_ J11=>P3 ?_
 refine ap ?_ ?_<;>intro h29;refine nx J11 (CY (qx J10 (aa λ_ J12=>aq (sr λ_ J13=>P3 ?_))));refine AD ?_;refine CR Ns (BC d (D) (at'+((k:Nat):Int)) hD hb) (SM [1]) λvR HR hR=>?_
 obtain⟨hv,rfl⟩:=hR;subst hv;refine P2 ?_;refine CR MO (xo ((D).read (at'+((k:Nat):Int))) number ((k:Nat):Int) (mw hD _)) ID λvR HR hR=>?_
 rcases hR with⟨hp2,rfl,rfl⟩| ⟨b2,all2,u2,hp2,rfl,rfl⟩
 refine P4 ?_;refine P3 ?_;refine nx J13 (aa λ_ J14=>sr λ_ J15=>PS ?_);refine PS ?_;refine PS ?_
 iterate 3 refine UT ?_
 refine PS ?_;refine nx J15 (CY (sr λ_ J16=>P3 ?_));refine nx J16 (aj (ae (aJ (ae (ae (aJ (ae (WK [0] (nT rfl rfl rfl rfl ?_)))))))));exact .inl ⟨ry hp (xv (.inl hp2) _ (by omega)),rfl,rfl⟩;refine TL.subLen 0 rfl rfl (λhul2 hu2=>?_);have hpf2:=pp (mw hD _) hp2;refine P4 ?_;refine P3 ?_;refine nx J13 (aa λ_ J17=>sr λ_ J18=>PS ?_);refine PS ?_;refine P4 ?_;refine ap ?_ ?_<;>intro h49;refine PS ?_;refine nx J18 (CY (sr λ_ J19=>P3 ?_));refine nx J19 (aj (ae (aJ (ae (ae (aJ (ae (WK [1] (nT rfl rfl rfl rfl ?_)))))))));exact .inl ⟨ry hp (xv (.inr ⟨b2,all2,hp2,h49⟩) _ (by omega)),rfl,rfl⟩;refine PS ?_;refine nx J18 (CN (qx J17 (ad (P2 ?_))));refine TL.appendS (k:=2) (news:=b2) (bs':=c++b2) (ab rfl) rfl rfl rfl ia z0 rfl rfl rfl rfl (λ_ s=>Src.sub 0 rfl rfl s) (by omega) rfl (λv53 ov53=>PS ?_);refine aw (af (ac J12 (ad (PS ?_))));refine AD ?_;refine PS ?_;refine aw ?_
 exact aL ((k+1,c++b2,v53):(Nat)×(List UInt8)×(Value)) ⟨by omega,by omega,xx hk3 (by rw[hp2,show all2=all by omega]),by rw[ai];omega,ov53⟩ (by show all.toNat- (k+1)<all.toNat-k;omega)
  SB
  (λ_ s=>ak [2,1] rfl s)
 refine nx J11 (CN (bh (aC (aC (bC (ac J8 (sr λ_ J20=>?_)))))))
 iterate 5 refine PS ?_
 refine nx J20 (aj (WK [0,0] (nT rfl rfl rfl rfl ?_)));exact .inr ⟨c,all,w,sV hp (by rw[show all.toNat=k by omega];exact hk3),rfl,rfl⟩
theorem HO(lg d:Nat)(cnt used:Int)(h:0≤used∧used≤2048):
 DT 146 #[(.pointer (some ⟨lg,0,none⟩))] T0 [ah lg [(.pointer (some ⟨d,0,none⟩)),(.int .i64 (cnt)),(.int .i64 (used))] 162] (RI (.int .i64 (2048-used)) [GT lg d cnt used]):=by
 refine BD 8 Tryz.func146 rfl rfl rfl λw0 F hF=>sr λ_ J1=>PS ?_
 refine nx J1 (sr λ_ J2=>P2 ?_);refine FA 2 rl aP ?_;refine LA 0 Y3 ?_;refine tp (j8 rfl rfl rfl (bK (by omega) (by omega))) ?_;refine PS ?_;exact nx J2 (aj (WK [0] (av rfl rfl ⟨rfl,rfl⟩)))
theorem Cg(lg d cnt:Nat)(used:Int)(x:Value)(bs:List UInt8)(D:DS)(hD:D.Ok)(hb:D.ws.length≤1000000)(hu:0≤used∧used≤2048)(hc:cnt≤1000000):
 DT 131 #[(.pointer (some ⟨lg,0,none⟩)),x] (IsW x bs) [ah lg [(.pointer (some ⟨d,0,none⟩)),(.int .i64 (((cnt:Nat):Int))),(.int .i64 (used))] 162,dk d (D)] (RI (.int .i64 (l6 D cnt used bs).err) [GT lg d (((l6 D cnt used bs).cnt:Nat):Int) (l6 D cnt used bs).used,dk d (l6 D cnt used bs).D]):=by
 refine BD 72 Tryz.func131 rfl rfl rfl λw0 F hF=>sr λ_ J1=>PS ?_
 refine nx J1 (aa λ_ J2=>sr λ_ J3=>PS ?_);refine tp (eA rfl ia rfl hF.len) ?_;refine PS ?_;refine ap ?_ ?_<;>intro h12;refine nx J3 (CY (sr λ_ J4=>PS ?_));refine nx J4 (aj (ae (WK [0,0] (av rfl rfl ?_))));rw[JA (by omega)];exact⟨rfl,rfl⟩;refine nx J3 (CN (qx J2 (sr λ_ J5=>PS ?_)));refine tp (eA rfl ia rfl hF.len) ?_;refine CE MH (vm bs.length (by omega)) ID ?_;refine PS ?_;refine nx J5 (aa λ_ J6=>sr λ_ J7=>P2 ?_);refine CE O7 (HO lg d ((cnt:Nat):Int) used hu) ID ?_;refine PS ?_;refine ap ?_ ?_<;>intro h19;refine nx J7 (CY (sr λ_ J8=>PS ?_));refine nx J8 (aj (ae (WK [0,0] (av rfl rfl ?_))));rw[Di (by omega) (by omega)];exact⟨rfl,rfl⟩;refine nx J7 (CN (qx J6 (aa λ_ J9=>sr λ_ J10=>P2 ?_)));refine FA 1 rl aP ?_;refine LA 0 Y3 ?_;refine tp (Ri (v':=(.int .i64 (((cnt+1:Nat):Int)))) (cB rfl rfl rfl (bK (by omega) (by omega))) rfl) ?_;refine PS ?_;refine CQ O6 (A2 x (cnt+1) bs (by omega)) ID (λg d _=>PJ hF d) λvR HR hR=>?_
 have hR:=hR;subst hR;change TL _ _ _ _ _ _ _ _ _ [mP 62 5 vR (bW ((cnt+1:Nat):Int) bs),ah lg [(.pointer (some ⟨d,0,none⟩)),(.int .i64 (((cnt:Nat):Int))),(.int .i64 (used))] 162,dk d (D)];refine TL.recsLen 0 rfl rfl (λhrl hro=>?_);rw[dQ]at hrl;refine tp (eA rfl vW rfl hrl) ?_;refine PS ?_;refine nx J10 (aq ?_)
 refine bD (α:=(Nat)×(DS)) (λ⟨k,D'⟩=>k≤bj bs.length∧gK (bW ((cnt+1:Nat):Int) bs) used D=gK ((bW ((cnt+1:Nat):Int) bs).drop k) (used+(k:Nat)) D'∧D'.Ok∧D'.ws.length≤D.ws.length+k) (λ⟨k,D'⟩=>[(0,(.pointer (some ⟨lg,0,none⟩))),(5,(.int .i64 (((bj bs.length:Nat):Int)))),(26,vR),(27,(.int .i64 ((((bj bs.length):Nat):Int)))),(28,(.int .i64 (((k:Nat):Int))))]) (λ⟨k,D'⟩=>[ah lg [(.pointer (some ⟨d,0,none⟩)),(.int .i64 (((cnt:Nat):Int))),(.int .i64 (used))] 162,dk d (D'),mP 62 5 vR (bW ((cnt+1:Nat):Int) bs)]) (λ⟨k,D'⟩=>bj bs.length-k) (0,D)
  ⟨aO _,by simp,hD,by omega⟩ SB
  (λ_ s=>az [1,1,0] rfl s) (λ⟨k,D'⟩ hinv=>?_)
 obtain⟨hk,hwr,hD',hws⟩:=hinv;refine sr λ_ J11=>PS ?_
 refine ap ?_ ?_<;>intro h29;refine cr (λ_ s=>az [2] rfl s) (MY (λus=>?_));change TL _ _ _ _ _ _ _ _ _ [own vR ((bW ((cnt+1:Nat):Int) bs).length) (us) 62 1,eQ us (bW ((cnt+1:Nat):Int) bs) 5,ah lg [(.pointer (some ⟨d,0,none⟩)),(.int .i64 (((cnt:Nat):Int))),(.int .i64 (used))] 162,dk d (D')];refine yP (p:=us.length=(bW ((cnt+1:Nat):Int) bs).length*1) (λw m=>m.own_len (i:=0) (lb rfl) rfl) (λhul=>?_);rw[dQ,gn]at hul;have hkl:k< (bW ((cnt+1:Nat):Int) bs).length:=by rw[dQ];omega
 obtain⟨sk,hsk⟩: ∃x,(bW ((cnt+1:Nat):Int) bs)[k]=x:=⟨_,rfl⟩;refine jh 0 rfl rfl (by omega) (λg cap hv hcap=>nx J11 (aa λ_ J12=>CY (qx J12 (aa λ_ J13=>aq (sr λ_ J14=>PS ?_)))));refine tp (bT (r:=k) hv rfl vW ow rfl rfl (by omega) (by omega) (by omega)) ?_;refine tp (cZ (v:=(us.getD k undef)) rfl ia rfl rfl (gq 0 rfl hv rfl) (by simp[List.getD_eq_getElem?_getD,show k<us.length by omega])) ?_;refine P2 ?_;refine nx J14 (aa λ_ J15=>D1 2 dA ?_);refine PD 0 ?_;refine PD 1 ?_;refine FD 2 0 rl vN ?_;refine LX 3 I3 (.pointer (some ⟨d,0,none⟩)) ?_ (hc:=by exact rfl);refine PD 4 ?_;refine PD 5 ?_;refine FD 6 2 rl aP ?_;refine LX 7 Y3 (.int .i64 (used)) ?_ (hc:=by exact rfl);refine PD 8 ?_;refine ta 9 rfl (cB rfl rfl rfl (bK (by omega) (by omega))) ?_;refine PD 10 ?_;refine AL 11 ?_;refine CQ NG (xQ d D' (used+((k:Nat):Int)) (us.getD k undef) sk hD' (by omega)) (SM [3]) (λg d s=>KQ (hsk▸uP 1 hkl rfl rfl g d s)) λvR HR hR=>?_
 obtain⟨hv2,rfl⟩:=hR;subst hv2;refine EN (PD 12 ?_);refine DN (ac J15 (sr λ_ J16=>P2 ?_));refine ap ?_ ?_<;>intro h46;refine nx J16 (CY (sr λ_ J17=>P2 ?_));refine nx J17 (aj (aJ (ae (ae (aJ (ae (WK [3,0] (av rfl rfl ?_))))))));have hf:=B6 (D:=D') (at':=used) hkl (by rw[hsk];exact h46);rw[hsk]at hf;rw[zx (by omega) (by omega) (hwr.trans hf) h46];exact⟨rfl,rfl⟩;refine nx J16 (CN (aS (af (ac J13 (ad (AD ?_))))));refine PS ?_;refine aw ?_
 exact aL ((k+1,(D'.write (used+((k:Nat):Int)) sk).2):(Nat)×(DS)) ⟨by omega,by rw[hwr];subst hsk;exact B5 hkl (by simpa using h46),DS.write_ok hD' _ _,by have:=DS.write_ws (D:=D') (at':=used+((k:Nat):Int)) (bs:=sk);omega⟩ (by show bj bs.length- (k+1)<bj bs.length-k;omega)
  SB
  (λ_ s=>az [1,1,0] rfl (bn (p:=λus:List Value=>[own vR (bW ((cnt+1:Nat):Int) bs).length us 62 1,eQ us (bW ((cnt+1:Nat):Int) bs) 5]) us (ak [1,1,1,0] rfl s)))
 refine nx J11 (aa λ_ J18=>CN (bh (aC (aC (bC (ac J9 (aa λ_ J19=>sr λ_ J20=>P2 ?_)))))));refine FA 0 rl vN ?_;refine LA 0 I3 ?_;refine CR NF (BB d (D') hD') (SM [1]) λvR HR hR=>?_
 obtain⟨hv,rfl⟩:=hR;subst hv;refine PS ?_;refine nx J20 (sr λ_ J21=>P2 ?_);refine ap ?_ ?_<;>intro h55;refine nx J21 (CY (sr λ_ J22=>P2 ?_));refine nx J22 (aj (ae (WK [1,0] (av rfl rfl ?_))));have hf:gK (bW ((cnt+1:Nat):Int) bs) used D=(0,D'):=by rw[hwr,du (by rw[dQ];omega)];rfl
 rw[HZ (by omega) (by omega) hf h55];exact⟨rfl,rfl⟩;refine nx J21 (CN (qx J19 (sr λ_ J23=>P2 ?_)));refine FA 1 rl aP ?_;refine LA 1 Y3 ?_;refine AD ?_;refine PS ?_;refine FA 1 rl aP ?_;refine S0 1 aP ?_;refine nx J23 (sr λ_ J24=>P2 ?_);refine FA 2 rl aP ?_;refine LA 1 Y3 ?_;refine PS ?_;refine AD ?_;refine PS ?_;refine FA 2 rl aP ?_;refine S0 1 aP ?_;refine nx J24 (sr λ_ J25=>PS ?_);refine nx J25 (aj (WK [1,0] (av rfl rfl ?_)));have hf:gK (bW ((cnt+1:Nat):Int) bs) used D=(0,D'):=by rw[hwr,du (by rw[dQ];omega)];rfl
 rw[put_ok (by omega) (by omega) hf (by simpa using h55)];exact⟨rfl,rfl⟩
theorem Ic(d:Nat)(D:DS)(hD:D.Ok)(hI:Wal.DS.In D)(hb:D.ws.length≤1000000):
 DT 48 #[(.pointer (some ⟨d,0,none⟩))] T0 [dk d (D)] (dH (λv H=>((bN D).err≠0∧v= .tuple #[.pointer none, .slice none 0 0, .int .i64 (bN D).err]∧H=[dk d (bN D).D])∨((bN D).err=0∧∃lg vr,v= .tuple #[.pointer (some ⟨lg,0,none⟩),vr, .int .i64 0]∧H=[GT lg d (((bN D).recs.length:Nat):Int) (bN D).used,P0 vr (bN D).recs,dk d (bN D).D]))):=by
 refine BD 80 Tryz.func48 rfl rfl rfl λw0 F hF=>sr λ_ J1=>P3 ?_
 refine nx J1 (aa λ_ J2=>sr λ_ J3=>PS ?_);refine tp (kE rfl I3 rfl rfl) ?_;refine nx J3 (CN (qx J2 (sr λ_ J4=>PS ?_)));refine BV #[(.pointer (some ⟨d,0,none⟩)),(.int .i64 0),(.int .i64 0)] ?_;refine XB λb17=>?_
 refine PS ?_;refine nx J4 (sr λ_ J5=>PS ?_);refine nx J5 (aa λ_ J6=>aq ?_)
 refine bD (α:=(Nat)×(List (List UInt8))×(Int)×(Value)) (λ⟨f,rs,used,vr⟩=>Scan D f rs used∧vr.oneCell'=true) (λ⟨f,rs,used,vr⟩=>[(0,(.pointer (some ⟨d,0,none⟩))),(2,(.pointer none)),(3,(.slice none 0 0)),(4,(.int .i64 0)),(5,(.pointer (some ⟨b17,0,none⟩))),(6,vr)]) (λ⟨f,rs,used,vr⟩=>[ah b17 [(.pointer (some ⟨d,0,none⟩)),(.int .i64 (((rs.length:Nat):Int))),(.int .i64 (used))] 162,dk d (D),mP 62 5 vr (rs)]) (λ⟨f,rs,used,vr⟩=>f) (jM,[],0,(.slice none 0 0))
  ⟨Scan.start D,rfl⟩ SB
  (λ_ s=>eH (List.Perm.trans (List.Perm.swap _ _ _) (List.Perm.cons _ (List.Perm.swap _ _ _))) (vf 62 5 s)) (λ⟨f,rs,used,vr⟩ hinv=>?_)
 obtain⟨hsc,hvr⟩:=hinv;obtain⟨hs1,hs2,hs3,hs4,hs5⟩:=id hsc;refine aq (aa λ_ J7=>D1 0 dA ?_);refine PD 0 ?_;refine PD 1 ?_;refine PD 2 ?_;refine FD 3 1 rl aP ?_;refine LX 4 Y3 (.int .i64 (((rs.length:Nat):Int))) ?_ (hc:=by exact rfl);refine ta 5 rfl (cB rfl rfl rfl (bK (by omega) (by omega))) ?_;refine PD 6 ?_;refine PD 7 ?_;refine FD 8 2 rl aP ?_;refine LX 9 Y3 (.int .i64 (used)) ?_ (hc:=by exact rfl);refine AL 10 ?_;refine CR QA (CA d D (((rs.length:Nat):Int)+1) used hD (by omega) (by omega)) (SM [1]) λvR HR hR=>?_
 rcases hR with⟨hst,rfl,rfl⟩| ⟨b,all,u,hst,rfl,rfl⟩
 have hss:=Scan.stop hsc hst;refine EN (PD 11 ?_);refine PD 12 ?_;refine PD 13 ?_;refine PD 14 ?_;refine PD 15 ?_;refine PD 16 ?_;refine PD 17 ?_;refine DN (ac J7 (aa λ_ J8=>sr λ_ J9=>PS ?_));refine PS ?_;refine nx J9 (CY (bh (aC (TE.miss (by decide) (aC (bC (ac J6 (aa λ_ J10=>sr λ_ J11=>P2 ?_))))))));refine FA 2 rl aP ?_;refine LA 1 Y3 ?_;refine PS ?_;refine nx J11 (aq ?_)
 refine bD (α:=(Int)×(DS)) (λ⟨at',D'⟩=>used≤at'∧at'≤2048∧kb (2048-used).toNat used D=kb (2048-at').toNat at' D'∧D'.Ok∧D'.ws.length≤D.ws.length+(at'-used).toNat) (λ⟨at',D'⟩=>[(0,(.pointer (some ⟨d,0,none⟩))),(5,(.pointer (some ⟨b17,0,none⟩))),(6,vr),(10,(.int .i64 (at')))]) (λ⟨at',D'⟩=>[ah b17 [(.pointer (some ⟨d,0,none⟩)),(.int .i64 (((rs.length:Nat):Int))),(.int .i64 (used))] 162,dk d (D'),mP 62 5 vr (rs)]) (λ⟨at',D'⟩=>(2048-at').toNat) (used,D)
  ⟨by omega,by omega,rfl,hD,by omega⟩ SB
  (λ_ s=>ak [1,0,0] rfl s) (λ⟨at',D'⟩ hinv=>?_)
 obtain⟨ha1,ha2,hwi,hD',hws⟩:=hinv;refine aa λ_ J12=>sr λ_ J13=>P2 ?_
 refine ap ?_ ?_<;>intro h59;refine nx J13 (CY (qx J12 (aa λ_ J14=>aq (aa λ_ J15=>sr λ_ J16=>P2 ?_))));refine CR Ns (BC d (D') at' hD' (by omega)) (SM [1]) λvR HR hR=>?_
 obtain⟨hv,rfl⟩:=hR;subst hv;refine BV ((ek zs).toArray) ?_;refine tp (PV.eqlBy (a:=((D').read at')) (b:=zs) (m:=2) Oo On rfl Oq Ou Ot (mw hD' _) (by decide) rfl rfl rfl) ?_;refine ap ?_ ?_<;>intro h66;refine nx J16 (CY (bh (aC (bC (ac J14 (ad (PS ?_)))))));refine AD ?_;refine PS ?_;refine aw ?_
 exact aL ((at'+1,D'):(Int)×(DS)) ⟨by omega,by omega,by rw[hwi];exact Hg (by omega) h66,hD',by omega⟩ (by show(2048- (at'+1)).toNat< (2048-at').toNat;omega)
  SB
  (λ_ s=>ak [1,0,0] rfl s)
 refine nx J16 (CN (qx J15 (sr λ_ J17=>P2 ?_)));refine CQ NG (xQ d (D') at' (.slice none 0 0) ([]) hD' (by omega)) ID (λ_ _ _=> .inl (.inl ⟨rfl,rfl⟩)) λvR HR hR=>?_
 obtain⟨hv,rfl⟩:=hR;subst hv;refine PS ?_;refine nx J17 (sr λ_ J18=>P2 ?_);refine ap ?_ ?_<;>intro h71;refine nx J18 (CY (sr λ_ J19=>P4 ?_));refine nx J19 (aj (aJ (ae (ae (aJ (ae (WK [0] (nT rfl rfl rfl rfl ?_))))))));rw[Fm hss (hwi.trans (Hh (by omega) h66 h71)) h71];exact .inl ⟨h71,rfl,rfl⟩;refine nx J18 (CN (aS (af (ac J14 (ad (PS ?_))))));refine AD ?_;refine PS ?_;refine aw ?_
 exact aL ((at'+1,(D'.write at' []).2):(Int)×(DS)) ⟨by omega,by omega,by rw[hwi];exact K8 (by omega) h66 (by simpa using h71),DS.write_ok hD' _ _,by have:=DS.write_ws (D:=D') (at':=at') (bs:=[]);omega⟩ (by show(2048- (at'+1)).toNat< (2048-at').toNat;omega)
  SB
  (λ_ s=>ak [1,0,0] rfl s)
 refine nx J13 (CN (bh (aC (aC (bC (ac J10 (aa λ_ J20=>sr λ_ J21=>PS ?_)))))));refine CR NF (BB d (D') hD') (SM [1]) λvR HR hR=>?_
 obtain⟨hv,rfl⟩:=hR;subst hv;refine PS ?_;refine nx J21 (sr λ_ J22=>P2 ?_);refine ap ?_ ?_<;>intro h76;refine nx J22 (CY (sr λ_ J23=>P4 ?_));refine nx J23 (aj (ae (WK [0] (nT rfl rfl rfl rfl ?_))));rw[Fl hss (hwi.trans (B8 (by omega))) h76];exact .inl ⟨h76,rfl,rfl⟩;refine nx J22 (CN (qx J20 (sr λ_ J24=>?_)))
 iterate 5 refine PS ?_
 refine nx J24 (aj (WK [1,1,0] (nT rfl rfl rfl rfl ?_)));have h76':D'.sync.1=0:=by omega
 rw[GD hss (hwi.trans (B8 (by omega))) h76'];exact .inr ⟨rfl,b17,vr,rfl,rfl⟩;have hro:=pj hI hD (by omega) hst;have hfa:=(lU (mw hD _) hst).1;obtain⟨f',rfl,hsn⟩:=Scan.next hI hD hsc hst;refine TL.subLen 0 rfl rfl (λhul hu=>EN (PD 11 ?_));refine PD 12 ?_;refine PD 13 ?_;refine PD 14 ?_;refine PD 15 ?_;refine PD 16 ?_;refine PD 17 ?_;refine DN (ac J7 (aa λ_ J25=>sr λ_ J26=>PS ?_));refine PS ?_;refine nx J26 (CN (qx J25 (sr λ_ J27=>P2 ?_)));refine aV (cells:=#[u]) (ab rfl) rfl rfl rfl vW It rfl rfl rfl (tH hu (by simp)) (λb37=>?_);change TL _ _ _ _ _ _ _ _ _ [ah b37 [u] 62,ic u (b) 5,dk d (D),ah b17 [(.pointer (some ⟨d,0,none⟩)),(.int .i64 (((rs.length:Nat):Int))),(.int .i64 (used))] 162,mP 62 5 vr (rs)];refine cr (λ_ s=>az [4] rfl s) (MY (λus38=>cL (k:=0) (m:=1) (news:=[u]) (nn':=(rs).length+1) (xs':=us38++[u]) (ab rfl) rfl rfl rfl vW It rfl rfl rfl rfl rfl rfl (λ_ _=>j7 rfl (RO 2) rfl) (List.forall_mem_cons.2 ⟨hu,λ_ h=>by cases h⟩) (by simp only[maxLen];omega) (by omega) rfl rfl (λv38 ov38=>?_)));change TL _ _ _ _ _ _ _ _ _ [own v38 ((rs).length+1) (us38++[u]) 62 1,eQ us38 (rs) 5,ah b37 [u] 62,ic u (b) 5,dk d (D),ah b17 [(.pointer (some ⟨d,0,none⟩)),(.int .i64 (((rs.length:Nat):Int))),(.int .i64 (used))] 162]
 refine cr (H':=[own v38 ((rs).length+1) (us38++[u]) 62 1,eQ us38 (rs) 5,ic u (b) 5,ah b37 [u] 62,dk d (D),ah b17 [(.pointer (some ⟨d,0,none⟩)),(.int .i64 (((rs.length:Nat):Int))),(.int .i64 (used))] 162]) (λ_ s=>az [0,0,1] rfl s) (cr (λ_ s=>vh s) (PS ?_));refine nx J27 (sr λ_ J28=>P2 ?_);refine FA 1 rl aP ?_;refine LA 3 Y3 ?_;refine tp (Ri (v':=(.int .i64 ((((rs++[b]).length:Nat):Int)))) (cB rfl rfl rfl (bK (by omega) (by omega))) (congrArg (Value.int .i64) (by simp))) ?_;refine PS ?_;refine FA 1 rl aP ?_;refine S0 3 aP ?_;refine nx J28 (ad (P2 ?_));refine FA 2 rl aP ?_;refine LA 3 Y3 ?_;refine PS ?_;refine AD ?_;refine PS ?_;refine FA 2 rl aP ?_;refine S0 3 aP ?_;refine aw (af ?_)
 exact aL ((f',rs++[b],used+all,v38):(Nat)×(List (List UInt8))×(Int)×(Value)) ⟨hsn,ov38⟩ (Nat.lt_succ_self _)
  SB
  (λ_ s=>ak [3,2,0] rfl s)
end Go.Proofs.YtmcjhkbcmmddgaaGreat
end

section
namespace Wal
open Go Leg Codec Api Dsk
theorem CS(s ws:fN)(j:Int): ∀k,gE (DF s ws k) j=jd s ws j k
 |0=>rfl
 |k+1=>by
  rw[DF,jd,Jm,CS s ws j k]
  by_cases h:j=(kZ ws k).1
  · rw[if_pos h,if_pos h.symm]
  · rw[if_neg h,if_neg (λq=>h q.symm)]
theorem Jc{ws x:fN}{k:Nat}(h:k<ws.length):kZ (ws++x) k=kZ ws k:=by simp[kZ,List.getD_eq_getElem?_getD,List.getElem?_append_left h]
theorem xf{s ws x:fN}{j:Int}: ∀k,k≤ws.length→jd s (ws++x) j k=jd s ws j k
 |0,_=>rfl
 |k+1,h=>by rw[jd,jd,Jc (by omega),xf k (by omega)]
theorem HX(s ws:fN)(p:Int×jt)(j:Int):jd s (ws++[p]) j (ws++[p]).length=if j=p.1 then p.2 else jd s ws j ws.length:=by
 rw[ai,ax,aB,bq,jd,xf _ (aH _)];have:kZ (ws++[p]) ws.length=p:=by simp[kZ,List.getD_eq_getElem?_getD]
 rw[this]
 by_cases h:j=p.1
 · rw[if_pos h,if_pos h.symm]
 · rw[if_neg h,if_neg (λq=>h q.symm)]
def vQ(D:DS)(at':Int)(bs:List UInt8):DS:= {D with ws:=D.ws++[(at',eW bs)],lf:=if D.ar=true then D.lf-1 else D.lf,dn:=false}
theorem nj{D:DS}{at':Int}{bs:List UInt8}(h1:0≤at'∧at'<2048)(h2:bs.length≤64)(h3:D.dn=false)(h4:D.ar=false∨0<D.lf):D.write at' bs=(0,vQ D at' bs):=by
 rw[DS.write,if_neg (by omega),if_neg]
 · rfl
 · rintro (h| ⟨h,h5⟩)
   · rw[h3]at h;cases h
   · rcases h4 with h4|h4
     · rw[h4]at h;cases h
     · omega
theorem ww{D:DS}{at':Int}{bs:List UInt8}(h1:0≤at'∧at'<2048)(h2:bs.length≤64)(h4:D.ar=true∧D.lf=0):D.write at' bs=(4,{D with dn:=true}):=by
 rw[DS.write,if_neg (by omega),if_pos (.inr h4)]
theorem zz(D:DS)(at':Int)(bs:List UInt8)(j:Int):(vQ D at' bs).read j=if j=at' then eW bs else D.read j:=HX _ _ _ _
theorem Bc{D:DS}(h:D.Ok){at':Int}{bs:List UInt8}(h2:bs.length≤64)(h4:D.ar=false∨0<D.lf):(vQ D at' bs).Ok:=by
 refine⟨h.s,h.ws.add _ (dN h2),?_⟩;have:=h.lf;show 0≤(if D.ar=true then D.lf-1 else D.lf)∧(if D.ar=true then D.lf-1 else D.lf)≤9223372036854775807;split
 · rename_i h5
   rcases h4 with h4|h4
   · rw[h4]at h5;cases h5
   · omega
 · exact this
theorem Bd{D:DS}(h:Wal.DS.In D){at':Int}{bs:List UInt8}(h1:0≤at'∧at'<2048):Wal.DS.In (vQ D at' bs):=⟨h.1,λp hp=>by
 rcases eY.1 hp with hp|hp
 · exact h.2 p hp
 · simp only[fu]at hp;subst hp;exact h1⟩
theorem In.put{s:fN}(h:In s){k:Int}{v:jt}(h1:0≤k∧k<2048):In (oK s k v):=by
 induction s with
 |nil=>intro p hp;simp only[oK,fu]at hp;subst hp;exact h1
 |cons p s ih=>
  obtain⟨a,b⟩:=p;intro q hq;simp only[oK]at hq;split at hq
  · rcases cn.1 hq with rfl|hq
    · exact h (a,b) (by simp)
    · exact h q (by simp[hq])
  · rcases cn.1 hq with rfl|hq
    · exact h (a,b) (by simp)
    · exact ih (λq hq=>h q (by simp[hq])) q hq
theorem In.lay{s ws:fN}(h:In s)(hw:In ws): ∀k,k≤ws.length→In (DF s ws k)
 |0,_=>h
 |k+1,hk=>by
  have:=hw (kZ ws k) (by rw[wD (by omega)];exact fc _);exact(In.lay h hw k (by omega)).put this
theorem In.crash{mask torn:Int}{c:Nat}{s ws:fN}(h:In s)(hw:In ws): ∀k,k≤ws.length→In (nM mask torn c s ws k)
 |0,_=>h
 |k+1,hk=>by
  have h1:=hw (kZ ws k) (by rw[wD (by omega)];exact fc _);have ih:=In.crash (mask:=mask) (torn:=torn) (c:=c) h hw k (by omega);simp only[nM,nh];split
  · exact ih.put h1
  · split
    · exact ih.put h1
    · exact ih
theorem In.nil:In []:=λ_ h=>absurd h (by simp)
abbrev MA:= @In.nil
structure Calm(D:DS):Prop where
 ok:D.Ok
 inn:Wal.DS.In D
 ar:D.ar=false
 dn:D.dn=false
theorem Calm.new:Calm DS.new:=⟨DS.new_ok,⟨MA,MA⟩,rfl,rfl⟩
theorem Calm.crash{D:DS}(h:D.Ok)(hi:Wal.DS.In D)(mask torn n:Int):Calm (D.crash mask torn n):=⟨DS.crash_ok h _ _ _,⟨hi.1.crash hi.2 _ (aH _),MA⟩,rfl,rfl⟩
theorem uk{D:DS}(h:D.dn=false)(j:Int):D.sync.2.read j=D.read j:=by
 unfold DS.sync;rw[if_neg (by simp[h])];exact CS _ _ _ _
theorem oJ{D:DS}(h:D.dn=false):D.sync.1=0∧D.sync.2.ws=[]∧D.sync.2.dn=false∧D.sync.2.ar=D.ar∧D.sync.2.lf=D.lf:=by
 unfold DS.sync;rw[if_neg (by simp[h])];exact⟨rfl,rfl,h,rfl,rfl⟩
theorem AU{D:DS}(h:Wal.DS.In D):Wal.DS.In D.sync.2:=by
 unfold DS.sync;split
 · exact h
 · exact⟨h.1.lay h.2 _ (aH _),MA⟩
theorem Calm.sync{D:DS}(h:Calm D):Calm D.sync.2:=by
 obtain⟨_,_,h3,h4,_⟩:=oJ h.dn;exact⟨DS.sync_ok h.ok,AU h.inn,h4.trans h.ar,h3⟩
theorem Calm.put{D:DS}(h:Calm D){at':Int}{bs:List UInt8}(h1:0≤at'∧at'<2048)(h2:bs.length≤64):Calm (vQ D at' bs):=⟨Bc h.ok h2 (.inl h.ar),Bd h.inn h1,h.ar,rfl⟩
theorem JE:eW []=zs:=rfl
theorem tZ: ∀(n:Nat) (at':Int) (D:DS),Calm D→0≤at'→at'+n≤2048→∃D',kb n at' D=(0,D')∧Calm D'∧∀j,D'.read j=if at'≤j∧j<at'+n then zs else D.read j
 |0,at',D,h,_,_=>⟨D,rfl,h,λj=>by rw[if_neg (by omega)]⟩
 |n+1,at',D,h,h0,h1=>by
  by_cases hz:D.read at'=zs
  · obtain⟨D',e,c,r⟩:=tZ n (at'+1) D h (by omega) (by omega)
    refine⟨D',by rw[kb,if_pos hz,e],c,λj=>?_⟩;rw[r j]
    by_cases q:j=at'
    · subst q;rw[if_neg (by omega),if_pos (by omega),hz]
    · by_cases q2:at'+1≤j∧j<at'+1+n
      · rw[if_pos q2,if_pos (by omega)]
      · rw[if_neg q2,if_neg (by omega)]
  · have hw:=nj (D:=D) (at':=at') (bs:=[]) (by omega) (by simp) h.dn (.inl h.ar)
    obtain⟨D',e,c,r⟩:=tZ n (at'+1) (vQ D at' []) (h.put (by omega) (by simp)) (by omega) (by omega);refine⟨D',by rw[kb,if_neg hz,hw,if_pos rfl,e],c,λj=>?_⟩;rw[r j,zz,JE]
    by_cases q:j=at'
    · subst q;rw[if_neg (by omega),if_pos rfl,if_pos (by omega)]
    · rw[if_neg q]
      by_cases q2:at'+1≤j∧j<at'+1+n
      · rw[if_pos q2,if_pos (by omega)]
      · rw[if_neg q2,if_neg (by omega)]
theorem HJ{D:DS}(h:Calm D):0≤(gF D.read jM 0 0).2∧(gF D.read jM 0 0).2≤2048∧((gF D.read jM 0 0).1.length:Int)≤(gF D.read jM 0 0).2:=by
 have key: ∀f rs used,Scan D f rs used→∃rs' used',gF D.read jM 0 0=(rs',used')∧0≤used'∧used'≤2048∧(rs'.length:Int)≤used':=by
  intro f
  induction f with
  |zero=>
   intro rs used hs;cases hst:gx D.read ((rs.length:Int)+1) used with
   |none=>exact⟨rs,used,hs.stop hst,hs.2.1,hs.2.2.1,hs.2.2.2.2⟩
   |some p=>obtain⟨b,all⟩:=p;obtain⟨f',e,_⟩:=Scan.next h.inn h.ok hs hst;omega
  |succ f ih=>
   intro rs used hs;cases hst:gx D.read ((rs.length:Int)+1) used with
   |none=>exact⟨rs,used,hs.stop hst,hs.2.1,hs.2.2.1,hs.2.2.2.2⟩
   |some p=>
    obtain⟨b,all⟩:=p;obtain⟨f',e,hs'⟩:=Scan.next h.inn h.ok hs hst;obtain rfl:f=f':=by omega
    exact ih _ _ hs'
 obtain⟨rs,used,e,h1,h2,h3⟩:=key _ _ _ (Scan.start D);rw[e];exact⟨h1,h2,h3⟩
theorem Ie{D:DS}(h:Calm D): ∃D',bN D=⟨0,(gF D.read jM 0 0).1,(gF D.read jM 0 0).2,D'⟩∧Calm D'∧D'.ws=[]∧∀j,D'.read j=if(gF D.read jM 0 0).2≤j∧j<2048 then zs else D.read j:=by
 obtain⟨h1,h2,_⟩:=HJ h;generalize hr:gF D.read jM 0 0=r at*;obtain⟨rs,used⟩:=r;simp only at h1 h2 ⊢;obtain⟨D',e,c,rd⟩:=tZ (2048-used).toNat used D h h1 (by omega);obtain⟨s1,s2,_⟩:=oJ c.dn;refine⟨D'.sync.2,GD hr e s1,c.sync,s2,λj=>?_⟩;rw[uk c.dn,rd j]
 by_cases q:used≤j∧j<2048
 · rw[if_pos q,if_pos (by omega)]
 · rw[if_neg q,if_neg (by omega)]
def jg:Nat→List (List UInt8)→List jt
 |_,[]=>[]
 |n,b::ls=>bW ((n+1:Nat):Int) b++jg (n+1) ls
def fe(ls:List (List UInt8)):Nat:=(jg 0 ls).length
theorem pD: ∀(a:List (List UInt8)) (n:Nat) (b:List (List UInt8)),jg n (a++b)=jg n a++jg (n+a.length) b
 | [],n,b=>by simp[jg]
 |x::a,n,b=>by
  simp only[kI,jg,pD a (n+1) b,aE,ax];rw[show n+1+a.length=n+(a.length+1)by omega]
theorem Ad: ∀(ls:List (List UInt8)) (n m:Nat),(jg n ls).length=(jg m ls).length
 | [],_,_=>rfl
 |b::ls,n,m=>by simp only[jg,ai,dQ,Ad ls (n+1) (m+1)]
theorem zi(ls:List (List UInt8))(b:List UInt8):fe (ls++[b])=fe ls+bj b.length:=by
 simp[fe,pD,jg,dQ]
theorem CO: ∀ls:List (List UInt8),ls.length≤fe ls
 | []=>aH _
 |b::ls=>by
  have h1:=CO ls;have h2:=qG b.length;have h3:=Ad ls 1 0;simp only[fe,jg,ai,dQ,ax,h3]at*;omega
theorem A3{number:Int}{b:List UInt8}{k:Nat}(h:k< (bW number b).length):(bW number b)[k]=qz number k (bj b.length) (hJ b k):=by simp[bW]
theorem s8(number:Int)(b:List UInt8): ∀s∈bW number b,s.length=64:=λs hs=>by
 obtain⟨i,_,rfl⟩:=gd.1 hs;exact HI (uB b i)
theorem xn{number:Int}{b:List UInt8}{k:Nat}(h:k< (bW number b).length)(h0:0≤number)(h1:number<4294967296)(hb:b.length≤3000):fK (bW number b)[k] number k=some (hJ b k,((bj b.length:Nat):Int)):=by
 rw[A3 h];rw[dQ]at h;exact Dn (uB b k) h0 h1 h (by have:=po hb;omega)
theorem zQ{rd:Int→jt}{number at':Int}{b:List UInt8}(h0:0≤number)(h1:number<4294967296)(hb:b.length≤3000): ∀k,k≤bj b.length→(∀j (h:j< (bW number b).length),j<k→rd (at'+j)=(bW number b)[j])→
 lx rd number at' ((bj b.length:Nat):Int) k=some ((List.range k).map (hJ b)).flatten
 |0,_,_=>rfl
 |k+1,hk,h=>by
  have ih:=zQ h0 h1 hb k (by omega) (λj hj hj2=>h j hj (by omega));have hl:k< (bW number b).length:=by rw[dQ];omega
  rw[xx ih (by rw[h k hl (by omega)];exact xn hl h0 h1 hb)];simp[de]
theorem Cz{rd:Int→jt}{number at':Int}{b:List UInt8}(h0:0≤number)(h1:number<4294967296)(hb:b.length≤3000)(h: ∀j (h:j< (bW number b).length),rd (at'+j)=(bW number b)[j]):gx rd number at'=some (b,((bj b.length:Nat):Int)):=by
 have hl:0< (bW number b).length:=by rw[dQ];exact qG _
 have hp:fK (rd at') number 0=some (hJ b 0,((bj b.length:Nat):Int)):=by
  have e:=h 0 hl;rw[show at'+((0:Nat):Int)=at' by omega]at e;rw[e];exact xn hl h0 h1 hb
 refine sV hp ?_;rw[KR,zQ h0 h1 hb _ (aH _) (λj hj _=>h j hj),H8 b _ (yx _)]
def Shows(rd:Int→jt)(at':Int)(l:List jt):Prop:=∀j (h:j<l.length),rd (at'+j)=l[j]
theorem Shows.left{rd:Int→jt}{at':Int}{a b:List jt}(h:Shows rd at' (a++b)):Shows rd at' a:=λj hj=>by
 rw[h j (by rw[ai];omega),Rc hj]
theorem Shows.right{rd:Int→jt}{at':Int}{a b:List jt}(h:Shows rd at' (a++b)):Shows rd (at'+a.length) b:=λj hj=>by
 have:=h (a.length+j) (by rw[ai];omega);rw[show at'+((a.length+j:Nat):Int)=at'+a.length+j by omega]at this;rw[this,P7 (by omega)];congr 1;omega
theorem C6{rd:Int→jt}: ∀(ls:List (List UInt8)) (n:Nat) (at':Int) (f:Nat),(∀b∈ls,b.length≤3000)→n+ls.length<4294967296→Shows rd at' (jg n ls)→
 gF rd (ls.length+f) n at'=(ls++(gF rd f ((n+ls.length:Nat):Int) (at'+(jg n ls).length)).1,(gF rd f ((n+ls.length:Nat):Int) (at'+(jg n ls).length)).2)
 | [],n,at',f,_,_,_=>by simp[jg]
 |b::ls,n,at',f,hl,hn,h=>by
  simp only[jg]at h ⊢;simp only[ax]at hn ⊢;have hs:=Cz (rd:=rd) (number:=((n+1:Nat):Int)) (at':=at') (by omega) (by omega) (hl b (by simp)) h.left;have ih:=C6 (rd:=rd) ls (n+1) (at'+(bW ((n+1:Nat):Int) b).length) f (λx hx=>hl x (by simp[hx])) (by omega) h.right;rw[dQ]at ih;rw[show ls.length+1+f=(ls.length+f)+1 by omega,Gw (b:=b) (all:=((bj b.length:Nat):Int)) (by rw[←hs];congr 1)];rw[show((n:Nat):Int)+1=((n+1:Nat):Int)by omega,ih];rw[ai,dQ,show n+1+ls.length=n+(ls.length+1)by omega,show at'+((bj b.length+(jg (n+1) ls).length:Nat):Int)=at'+((bj b.length:Nat):Int)+(((jg (n+1) ls).length:Nat):Int)by omega];simp
structure LogD(D:DS)(ls:List (List UInt8)):Prop where
 ok:D.Ok
 inn:Wal.DS.In D
 ws:D.ws=[]
 short: ∀b∈ls,b.length≤3000
 room:fe ls≤2048
 shows:Shows D.read 0 (jg 0 ls)
 zero: ∀j,((fe ls:Nat):Int)≤j→D.read j=zs
theorem LogD.len{D:DS}{ls:List (List UInt8)}(h:LogD D ls):ls.length≤2048:=by have:=CO ls;have:=h.room;omega
theorem Hw{rd:Int→jt}{number at':Int}(h:(rd at').getD 63 0≠1):gx rd number at'=none:=rz (rZ h)
theorem M1:zs.getD 63 0≠1:=by decide
theorem LogD.scan{D:DS}{ls:List (List UInt8)}(h:LogD D ls):gF D.read jM 0 0=(ls,((fe ls:Nat):Int)):=by
 have hl:=h.len;obtain⟨f,hf⟩: ∃f,jM=ls.length+f:=⟨jM-ls.length,by rw[tE];omega⟩;have:=C6 (rd:=D.read) ls 0 0 f h.short (by omega) h.shows;rw[←hf]at this;rw[show((0:Nat):Int)=0 from rfl]at this;have hz:=h.zero _ (Int.le_refl _);simp only[fe]at hz;rw[this,Int.zero_add,zl (Hw (by rw[hz];exact M1))];simp[fe]
theorem LogD.new:LogD DS.new []:=⟨DS.new_ok,⟨MA,MA⟩,rfl,λ_ h=>absurd h (by simp),by decide,λj h=>absurd h (by simp[jg]),λj _=>rfl⟩
theorem LogD.open{D:DS}{ls:List (List UInt8)}(h:LogD D ls)(ha:D.ar=false)(hd:D.dn=false): ∃D',bN D=⟨0,ls,((fe ls:Nat):Int),D'⟩∧LogD D' ls∧D'.ar=false∧D'.dn=false:=by
 obtain⟨D',e,c,hw,hr⟩:=Ie (D:=D) ⟨h.ok,h.inn,ha,hd⟩;rw[h.scan]at e hr
 have hrd: ∀j,D'.read j=D.read j:=λj=>by
  rw[hr j];split
  · rename_i q;rw[h.zero j q.1]
  · rfl
 exact⟨D',e,⟨c.ok,c.inn,hw,h.short,h.room,λj hj=>by rw[hrd];exact h.shows j hj,λj hj=>by rw[hrd];exact h.zero j hj⟩,c.ar,c.dn⟩
def vM:Int→List jt→fN
 |_,[]=>[]
 |at',s::ss=>(at',s)::vM (at'+1) ss
theorem B4: ∀(ss:List jt) (at':Int),(vM at' ss).length=ss.length
 | [],_=>rfl
 |s::ss,at'=>by simp[vM,B4 ss]
theorem Ce: ∀(ss:List jt) (at':Int) (k:Nat) (h:k<ss.length),kZ (vM at' ss) k=(at'+k,ss[k])
 |s::ss,at',0,_=>by simp[vM,kZ]
 |s::ss,at',k+1,h=>by
  have ih:=Ce ss (at'+1) k (by simpa using h);simp only[kZ,vM,List.getD_cons_succ]at ih ⊢;rw[ih];simp only[Rx,Prod.mk.injEq,and_true];omega
theorem zJ{s:jt}(h:s.length=64):eW s=s:=by simp[eW,h]
theorem u7: ∀(ss:List jt) (at':Int) (D:DS),D.Ok→Wal.DS.In D→D.dn=false→0≤at'→at'+ss.length≤2048→(∀s∈ss,s.length=64)→
 ∃(m:Nat) (D':DS),m≤ss.length∧gK ss at' D=((if m=ss.length then 0 else 4),D')∧D'.Ok∧Wal.DS.In D'∧D'.s=D.s∧D'.ws=D.ws++vM at' (ss.take m)∧D'.dn=decide (m<ss.length)∧D'.ar=D.ar∧(D.ar=false→m=ss.length)
 | [],at',D,h,hi,hd,_,_,_=>⟨0,D,aH _,rfl,h,hi,rfl,by simp[vM],by simp[hd],rfl,λ_=>rfl⟩
 |s::ss,at',D,h,hi,hd,h0,h1,hs=>by
  simp only[ax]at h1;have hs1:=hs s (by simp)
  by_cases hc:D.ar=true∧D.lf=0
  · have hw:=ww (D:=D) (at':=at') (bs:=s) (by omega) (by omega) hc
    refine⟨0,{D with dn:=true},aO _,?_,⟨h.s,h.ws,h.lf⟩,hi,rfl,by simp[vM],by simp,rfl,λq=>by rw[q]at hc;cases hc.1⟩;rw[gK,hw];simp
  · have h4:D.ar=false∨0<D.lf:=by
     have:=h.lf;cases q:D.ar
     · exact .inl rfl
     · right
       have:D.lf≠0:=λe=>hc ⟨q,e⟩
       omega
    have hw:=nj (D:=D) (at':=at') (bs:=s) (by omega) (by omega) hd h4;obtain⟨m,D',a1,a2,a3,a4,a5,a6,a7,a8,a9⟩:=u7 ss (at'+1) (vQ D at' s) (Bc h (by omega) h4) (Bd hi (by omega)) rfl (by omega) (by omega) (λx hx=>hs x (by simp[hx]));refine⟨m+1,D',by simp;omega,?_,a3,a4,a5.trans rfl,?_,by rw[a7];simp,a8.trans rfl,λq=>by rw[a9 q];rfl⟩
    · rw[gK,hw]
      simp only[if_true,a2,ax,Nat.add_right_cancel_iff]
    · rw[a6]
      simp only[vQ,List.take_succ_cons,vM,zJ hs1,aE,kI,aQ]
theorem Shows.append{rd:Int→jt}{at':Int}{a b:List jt}(h:Shows rd at' a)(g:Shows rd (at'+a.length) b):Shows rd at' (a++b):=λj hj=>by
 by_cases q:j<a.length
 · rw[Rc q];exact h j q
 · rw[P7 (by omega),←g (j-a.length) (by rw[ai]at hj;omega)]
   congr 1;omega
theorem zu(s:fN)(l:List jt)(at' j:Int): ∀k,k≤l.length→jd s (vM at' l) j k=if at'≤j∧j<at'+k then l.getD (j-at').toNat zs else gE s j
 |0,_=>by rw[if_neg (by omega)];rfl
 |k+1,hk=>by
  rw[jd,Ce l at' k (by omega),zu s l at' j k (by omega)]
  by_cases q:at'+k=j
  · rw[if_pos q,if_pos (by omega),show(j-at').toNat=k by omega]
    simp[List.getD_eq_getElem?_getD,show k<l.length by omega]
  · rw[if_neg q]
    by_cases q2:at'≤j∧j<at'+k
    · rw[if_pos q2,if_pos (by omega)]
    · rw[if_neg q2,if_neg (by omega)]
structure Half(D:DS)(ls:List (List UInt8))(bs:List UInt8):Prop where
 ok:D.Ok
 inn:Wal.DS.In D
 short: ∀b∈ls,b.length≤3000
 short':bs.length≤3000
 room:fe ls+bj bs.length≤2048
 shows:Shows (gE D.s) 0 (jg 0 ls)
 zero: ∀j,((fe ls:Nat):Int)≤j→gE D.s j=zs
 ws: ∃m,m≤bj bs.length∧D.ws=vM ((fe ls:Nat):Int) ((bW ((ls.length+1:Nat):Int) bs).take m)
theorem LogD.rds{D:DS}{ls:List (List UInt8)}(h:LogD D ls)(j:Int):D.read j=gE D.s j:=by rw[DS.read,h.ws];rfl
theorem Jz{D:DS}{ls:List (List UInt8)}{bs:List UInt8}(h:LogD D ls)(hd:D.dn=false)(hb:bs.length≤3000):
 (2048<fe ls+bj bs.length∧l6 D ls.length ((fe ls:Nat):Int) bs=⟨3,ls.length,((fe ls:Nat):Int),D⟩)∨
 (fe ls+bj bs.length≤2048∧∃D',l6 D ls.length ((fe ls:Nat):Int) bs=⟨0,ls.length+1,((fe (ls++[bs]):Nat):Int),D'⟩∧LogD D' (ls++[bs])∧D'.dn=false∧D'.ar=D.ar)∨
 (D.ar=true∧∃D',l6 D ls.length ((fe ls:Nat):Int) bs=⟨4,ls.length,((fe ls:Nat):Int),D'⟩∧Half D' ls bs):=by
 have hl:=h.len;have hp:=po hb
 by_cases hr:2048<fe ls+bj bs.length
 · exact .inl ⟨hr,Di (by omega) (by omega)⟩
 · right
   have hss:(bW ((ls.length+1:Nat):Int) bs).length=bj bs.length:=dQ _ _;obtain⟨m,D',a1,a2,a3,a4,a5,a6,a7,a8,a9⟩:=u7 (bW ((ls.length+1:Nat):Int) bs) ((fe ls:Nat):Int) D h.ok h.inn hd (by omega) (by rw[hss];omega) (s8 _ _);rw[hss]at a1 a2 a7 a9;rw[h.ws,aQ]at a6
   by_cases hm:m=bj bs.length
   · left
     subst hm;rw[if_pos rfl]at a2;have hdn:D'.dn=false:=by rw[a7];simp
     obtain⟨s1,s2,s3,s4,s5⟩:=oJ hdn;rw[aD (by rw[hss];exact aH _)]at a6
     have hrd: ∀j,D'.sync.2.read j=if((fe ls:Nat):Int)≤j∧j< ((fe ls:Nat):Int)+bj bs.length then(bW ((ls.length+1:Nat):Int) bs).getD (j- ((fe ls:Nat):Int)).toNat zs else D.read j:=λj=>by
      rw[uk hdn,DS.read,a6,B4,zu _ _ _ _ _ (aH _),hss,a5,h.rds]
     have hsz:=zi ls bs;refine⟨by omega,D'.sync.2,?_,⟨DS.sync_ok a3,AU a4,s2,λb hb'=>?_,by omega,?_,λj hj=>?_⟩,s3,s4.trans a8⟩
     · rw[put_ok (by omega) (by omega) a2 s1,hsz]
       simp only[PutR.mk.injEq,true_and,and_true];omega
     · rcases eY.1 hb' with hb'|hb'
       · exact h.short b hb'
       · simp only[fu]at hb';subst hb';exact hb
     · rw[pD]
       refine Shows.append (λj hj=>?_) λj hj=>?_
       · rw[hrd,if_neg (by simp only[fe];omega)];exact h.shows j hj
       · simp only[jg,aW,bq]at hj ⊢
         rw[hrd,if_pos (by simp only[fe];rw[hss]at hj;omega),show(0+(((jg 0 ls).length:Nat):Int)+(j:Int)- ((fe ls:Nat):Int)).toNat=j by simp only[fe];omega];rw[List.getD_eq_getElem?_getD,List.getElem?_eq_getElem hj];rfl
     · rw[hrd,if_neg (by omega)]
       exact h.zero j (by omega)
   · right
     have har:D.ar=true:=by
      cases q:D.ar
      · exact absurd (a9 q) hm
      · rfl
     rw[if_neg hm]at a2;refine⟨har,D',zx (by omega) (by omega) a2 (by decide),⟨a3,a4,h.short,hb,by omega,λj hj=>?_,λj hj=>?_,m,a1,a6⟩⟩
     · rw[a5,←h.rds];exact h.shows j hj
     · rw[a5,←h.rds];exact h.zero j hj
theorem LogD.crash{D:DS}{ls:List (List UInt8)}(h:LogD D ls)(mask torn n:Int):LogD (D.crash mask torn n) ls∧(D.crash mask torn n).ar=false∧(D.crash mask torn n).dn=false:=by
 have hs:(D.crash mask torn n).s=D.s:=by simp only[DS.crash,h.ws];rfl
 have hr: ∀j,(D.crash mask torn n).read j=D.read j:=λj=>by rw[h.rds];show gE (D.crash mask torn n).s j=_;rw[hs]
 have c:=Calm.crash h.ok h.inn mask torn n;exact⟨⟨c.ok,c.inn,rfl,h.short,h.room,λj hj=>by rw[hr];exact h.shows j hj,λj hj=>by rw[hr];exact h.zero j hj⟩,rfl,rfl⟩
end Wal
end

section
namespace Go.Proofs.YtmcjhkbcmmddgaaGreat
open Go Leg Codec Api
theorem EF(wb b off cap:Nat)(v:Value)(bs:List UInt8)(l:List Int)(cs:List Value)(T:TypeId)(z:Nat×Nat)(hlen:bs.length+10*l.length≤140737488355328)(hb: ∀j,j<l.length→cs[off+j]?=some (.int .i64 (l.getD j 0))):
 DT 148 #[(.pointer (some ⟨wb,0,none⟩)),(.slice (some ⟨b,off,none⟩) (l.length) (cap))] (λF=>F b=some (.cells cs.toArray T z)) [ah wb [v] 219,dZ v (bs) 5] (qS 219 5 wb (bs++bf l)):=by
 refine BD 45 Tryz.func148 rfl rfl rfl λw0 F hF=>sr λ_ J1=>PS ?_
 refine nx J1 (aa λ_ J2=>sr λ_ J3=>PS ?_);refine tp (tV rfl km rfl) ?_;refine PS ?_;refine nx J3 (aq ?_)
 refine bD (α:=(Nat)×(Value)×(List UInt8)) (λ⟨k,u,laid⟩=>k≤l.length∧laid++bf (l.drop k)=bs++bf l) (λ⟨k,u,laid⟩=>[(0,(.pointer (some ⟨wb,0,none⟩))),(4,(.pointer none)),(8,(.slice (some ⟨b,off,none⟩) (l.length) (cap))),(9,(.int .i64 (((l.length:Nat):Int)))),(10,(.int .i64 ((k:Nat))))]) (λ⟨k,u,laid⟩=>[ah wb [u] 219,dZ u (laid) 5]) (λ⟨k,u,laid⟩=>l.length-k) (0,v,bs)
  ⟨by omega,rfl⟩ SB
  (λ_ s=>s) (λ⟨k,u,laid⟩ hinv=>?_)
 obtain⟨hk,hL⟩:=hinv;refine sr λ_ J4=>PS ?_
 refine ap ?_ ?_<;>intro h11;refine nx J4 (aa λ_ J5=>CY (qx J5 (aa λ_ J6=>aq (sr λ_ J7=>tp (j9 (r:=off+k) rfl km aP rfl rfl (by first|omega|decide) (by first|omega|decide) (by omega)) ?_))));refine tp (ii (v:=(.int .i64 ((l.getD k 0)))) rfl Y3 rfl rfl (Rd.ro hF) (hb k (by omega))) ?_;refine PS ?_;refine nx J7 (sr λ_ J8=>PS ?_);refine tp (eL (r:=((((l.getD k 0%18446744073709551616).toNat:Nat)):Int)) rfl Y3 Tryz.underlying231 rfl (Az _)) ?_;refine PS ?_;refine nx J8 (aa λ_ J9=>aq ?_)
 refine bD (α:=(Nat)×(Value)×(List UInt8)) (λ⟨m,u2,laid2⟩=>laid2++(tI m++bf (l.drop (k+1)))=bs++bf l) (λ⟨m,u2,laid2⟩=>[(0,(.pointer (some ⟨wb,0,none⟩))),(4,(.pointer none)),(7,(.int .u64 ((m:Nat)))),(8,(.slice (some ⟨b,off,none⟩) (l.length) (cap))),(9,(.int .i64 (((l.length:Nat):Int)))),(10,(.int .i64 ((k:Nat))))]) (λ⟨m,u2,laid2⟩=>[ah wb [u2] 219,dZ u2 (laid2) 5]) (λ⟨m,u2,laid2⟩=>m) ((l.getD k 0%18446744073709551616).toNat,u,laid)
  (by rw[←hL,IB (l:=l) (k:=k) (by omega)];rfl) SB
  (λ_ s=>s) (λ⟨m,u2,laid2⟩ hinv=>?_)
 have hM:=hinv;refine aa λ_ J10=>sr λ_ J11=>P2 ?_
 refine ap ?_ ?_<;>intro h17;refine nx J11 (CY (qx J10 (aq (sr λ_ J12=>P3 ?_))));refine FA 0 KG ow ?_;refine LA 0 ia ?_;refine PS ?_;refine tp (eL (r:=(IntKind.u8.wrap ((m:Nat):Int))) rfl Tryz.underlying231 Y5 rfl rfl) ?_;refine tp (KM (r:=(((UInt8.ofNat (m%128+128)).toNat:Nat):Int)) rfl rfl rfl (Oz m)) ?_;refine aV (cells:=#[(.int .u8 ((((UInt8.ofNat (m%128+128)).toNat:Nat):Int)))]) (ab rfl) rfl rfl rfl ia z0 rfl rfl rfl (by as_aux_lemma=>kernel_rfl) (λb26=>cL (k:=2) (news:=ek ([(UInt8.ofNat (m%128+128))])) (nn':=(laid2++[(UInt8.ofNat (m%128+128))]:List UInt8).length) (xs':=ek (laid2++[(UInt8.ofNat (m%128+128))])) (ab rfl) rfl rfl rfl ia z0 rfl rfl rfl rfl rfl rfl (λ_ _=>j7 rfl (RO 0) rfl) (fl [(UInt8.ofNat (m%128+128))]) (by have:=congrArg List.length hM;have:=aU l;have:=qM m;simp only[ai,maxLen]at*;omega) (by have:=congrArg List.length hM;have:=aU l;have:=qM m;simp only[ai]at*;omega) (by simp) (jy _ _).symm (λv27 ov27=>PS ?_));refine FA 0 KG ow ?_;refine bO (i:=1) (ab rfl) rfl rfl rfl rfl ov27 ow rfl rfl (lb rfl) rfl rfl (nx J12 (ad (PS ?_)));refine tp (mp (r:=((m / 128:Nat):Int)) rfl rfl rfl (by omega) (Qk m)) ?_;refine PS ?_;refine aw (af ?_)
 exact aL ((m / 128,v27,laid2++[(UInt8.ofNat (m%128+128))]):(Nat)×(Value)×(List UInt8)) (by rw[←hM,od (by omega)];simp) (by show m / 128<m;omega)
  SB
  (λ_ s=>ak [1,1] rfl s)
 refine nx J11 (CN (bh (aC (aC (bC (ac J9 (ad (P3 ?_))))))));refine FA 0 KG ow ?_;refine LA 0 ia ?_;refine PS ?_;refine tp (eL (r:=(((UInt8.ofNat m).toNat:Nat):Int)) rfl Tryz.underlying231 Y5 rfl (Mp (by omega))) ?_;refine aV (cells:=#[(.int .u8 ((((UInt8.ofNat m).toNat:Nat):Int)))]) (ab rfl) rfl rfl rfl ia z0 rfl rfl rfl (by as_aux_lemma=>kernel_rfl) (λb39=>cL (k:=2) (news:=ek ([(UInt8.ofNat m)])) (nn':=(laid2++[(UInt8.ofNat m)]:List UInt8).length) (xs':=ek (laid2++[(UInt8.ofNat m)])) (ab rfl) rfl rfl rfl ia z0 rfl rfl rfl rfl rfl rfl (λ_ _=>j7 rfl (RO 0) rfl) (fl [(UInt8.ofNat m)]) (by have:=congrArg List.length hM;have:=aU l;have:=qM m;simp only[ai,maxLen]at*;omega) (by have:=congrArg List.length hM;have:=aU l;have:=qM m;simp only[ai]at*;omega) (by simp) (jy _ _).symm (λv40 ov40=>PS ?_));refine FA 0 KG ow ?_;refine bO (i:=1) (ab rfl) rfl rfl rfl rfl ov40 ow rfl rfl (lb rfl) rfl rfl (aw (af (ac J6 (ad (AD ?_)))));refine PS ?_;refine aw ?_
 exact aL ((k+1,v40,laid2++[(UInt8.ofNat m)]):(Nat)×(Value)×(List UInt8)) ⟨by omega,by rw[←hM,m8 (by omega)];simp⟩ (by show _-_<_-_;omega)
  SB
  (λ_ s=>ak [1,1] rfl s)
 refine nx J4 (aa λ_ J13=>CN (bh (aC (aC (bC (ac J2 (sr λ_ J14=>P2 ?_)))))));refine nx J14 (aj (WK [0,0] (av rfl rfl ?_)));obtain rfl:laid=bs++bf l:=by rw[←hL,dO (by omega)];simp[bf]
 exact⟨u,rfl,rfl⟩
theorem I7(wb:Nat)(v:Value)(bs:List UInt8):
 DT 148 #[(.pointer (some ⟨wb,0,none⟩)),(.slice none 0 0)] T0 [ah wb [v] 219,dZ v (bs) 5] (qS 219 5 wb (bs++bf [])):=by
 refine BD 45 Tryz.func148 rfl rfl rfl λw0 F hF=>sr λ_ J1=>PS ?_
 refine nx J1 (aa λ_ J2=>sr λ_ J3=>PS ?_);refine tp (tV rfl km rfl) ?_;refine PS ?_;refine nx J3 (aq ?_)
 refine bD (α:=Unit) (λ_u=>True) (λ_u=>[(0,(.pointer (some ⟨wb,0,none⟩))),(4,(.pointer none)),(8,(.slice none 0 0)),(9,(.int .i64 0)),(10,(.int .i64 0))]) (λ_u=>[ah wb [v] 219,dZ v (bs) 5]) (λ_u=>0) ()
  trivial SB
  (λ_ s=>s) (λ_u hinv=>?_)
 obtain _:=hinv;refine sr λ_ J4=>PS ?_
 refine nx J4 (aa λ_ J5=>CN (bh (aC (aC (bC (ac J2 (sr λ_ J6=>P2 ?_)))))));refine nx J6 (aj (av rfl rfl ?_));exact⟨v,rfl,by rw[fS,aW]⟩
theorem dX(wb:Nat)(v:Value)(bs:List UInt8)(x:Value)(l:List Int)(hlen:bs.length+10*l.length≤140737488355328):DT 148 #[(.pointer (some ⟨wb,0,none⟩)),x] (Re x l) [ah wb [v] 219,dZ v bs 5] (qS 219 5 wb (bs++bf l)):=by
 refine Leg.Does.of λF hF=>?_
 rcases id hF with⟨rfl,rfl⟩| ⟨b,off,cap,cs,T,z,rfl,h3,h4⟩
 · exact⟨_,trivial,I7 wb v bs⟩
 · exact⟨_,h3,EF wb b off cap v bs l cs T z hlen h4⟩
theorem eG(wb:Nat)(v:Value)(bs:List UInt8)(hlen:bs.length≤140737488355328):
 DT 153 #[(.pointer (some ⟨wb,0,none⟩))] T0 [ah wb [v] 219,dZ v (bs) 5] (dH (λx H=>∃u,x=u∧H=[ah wb [v] 219,dZ v bs 5,dZ u bs 5])):=by
 refine Leg.Does.body (vs:=[(.pointer (some ⟨wb,0,none⟩))]) (n:=9) Tryz.func153 rfl rfl rfl (λw0 F hF=>?_);refine sr λ_ J1=>?_
 refine qb ?_;refine nx J1 ?_;refine sr λ_ J2=>?_
 refine Er (ab rfl) rfl rfl rfl ia lT (λv3=>?_);change TL _ _ _ _ _ _ _ _ _ [dZ v3 ([]) 5,ah wb [v] 219,dZ v (bs) 5];refine mv ?_;refine tp (gR rfl rfl) ?_;refine tp (bc (r:=0) rfl KG rfl ow rfl rfl) ?_;refine tp (ii (v:=v) rfl ia rfl rfl (fD 1 rfl rfl) rfl) ?_;refine cL (k:=0) (news:=ek (bs)) (nn':=(bs:List UInt8).length) (xs':=ek (bs)) (ab rfl) rfl rfl rfl ia z0 rfl rfl rfl rfl rfl rfl (λ_ s=>Rr 2 rfl rfl s) (fl _) (by simp only[maxLen,ax,aB];omega) (by simp only[ax,aB];omega) (by simp) (aQ _) (λv8 ov8=>?_);change TL _ _ _ _ _ _ _ _ _ [dZ v8 (bs) 5,ah wb [v] 219,dZ v (bs) 5];refine qb ?_;refine nx J2 ?_;refine aj ?_;refine aF (dV _) (λ_ s=>ak [1,1,0] rfl s) ?_;refine av rfl rfl ?_;exact⟨v8,rfl,rfl⟩
theorem B3(wb:Nat)(v:Value)(bs:List UInt8)(a0 a1 g0 g1 g2 g3 g4:Int)(hlen:bs.length+70≤140737488355328):
 DT 152 #[(.pointer (some ⟨wb,0,none⟩)),(.agg #[(.int .i64 (a0)),(.int .i64 (a1)),(.int .i64 (g0)),(.int .i64 (g1)),(.int .i64 (g2)),(.int .i64 (g3)),(.int .i64 (g4))])] T0 [ah wb [v] 219,dZ v (bs) 5] (qS 219 5 wb (bs++bf [a0,a1,g0,g1,g2,g3,g4])):=by
 refine BD 15 Tryz.func152 rfl rfl rfl λw0 F hF=>sr λ_ J1=>XB λb3=>?_
 refine PS ?_;refine nx J1 (aa λ_ J2=>D1 0 bl ?_);refine PD 0 ?_;refine FD 1 0 e6 aP ?_;refine LX 2 Y3 (.int .i64 (a0)) ?_ (hc:=by exact rfl);refine FD 3 1 e6 aP ?_;refine LX 4 Y3 (.int .i64 (a1)) ?_ (hc:=by exact rfl);refine FD 7 2 e6 gM ?_;refine ta 8 rfl (ol rfl mS aP rfl) ?_;refine AL 5 ?_;refine aV (cells:=#[(.int .i64 (a0)),(.int .i64 (a1))]) (ab rfl) rfl rfl rfl km sn rfl rfl rfl (by as_aux_lemma=>kernel_rfl) (λb10=>EN (AL 6 ?_));refine CQ ky (dX wb v (bs) (.slice (some ⟨b10,0,none⟩) (2) (2)) [a0,a1] (by simp only[ai,ax,aB,aA];first|omega| (have:=aU [a0,a1];simp only[ax,aB]at this;omega))) (SM [2,2]) (dP 0 rfl rfl rfl rfl) λvR HR hR=>?_
 obtain⟨u1,rfl,rfl⟩:=hR;refine EN (AL 9 ?_);refine CQ ky (dX wb u1 (bs++bf [a0,a1]) (.slice (some ⟨b3,2,none⟩) (5) (5)) [g0,g1,g2,g3,g4] (by simp only[ai,ax,aB,aA];first|omega| (have:=aU [a0,a1];simp only[ax,aB]at this;omega))) ID (dP 1 rfl rfl rfl rfl) λvR HR hR=>?_
 obtain⟨u2,rfl,rfl⟩:=hR;refine EN (PD 10 ?_);refine DN (ac J2 (aj (WK [0,0] (av rfl rfl ?_))));exact⟨_,rfl,by rw[aE,←qL];rfl⟩
theorem yl(wb:Nat)(v:Value)(bs:List UInt8)(a0 a1 a2:Int)(hlen:bs.length+30≤140737488355328):
 DT 151 #[(.pointer (some ⟨wb,0,none⟩)),(.agg #[(.int .i64 (a0)),(.int .i64 (a1)),(.int .i64 (a2))])] T0 [ah wb [v] 219,dZ v (bs) 5] (qS 219 5 wb (bs++bf [a0,a1,a2])):=by
 refine BD 14 Tryz.func151 rfl rfl rfl λw0 F hF=>sr λ_ J1=>XB λb3=>?_
 refine PS ?_;refine nx J1 (sr λ_ J2=>PS ?_);refine FA 0 nP aP ?_;refine LA 0 Y3 ?_;refine FA 1 nP aP ?_;refine LA 0 Y3 ?_;refine FA 2 nP aP ?_;refine LA 0 Y3 ?_;refine aV (cells:=#[(.int .i64 (a0)),(.int .i64 (a1)),(.int .i64 (a2))]) (ab rfl) rfl rfl rfl km sn rfl rfl rfl (by as_aux_lemma=>kernel_rfl) (λb12=>CQ ky (dX wb v (bs) (.slice (some ⟨b12,0,none⟩) (3) (3)) [a0,a1,a2] (by simp only[ai,ax,aB,aA];first|omega| (have:=aU [a0,a1];simp only[ax,aB]at this;omega))) (SM [2,2]) (dP 0 rfl rfl rfl rfl) λvR HR hR=>?_);obtain⟨u1,rfl,rfl⟩:=hR;refine PS ?_;exact nx J2 (aj (WK [0,0] (av rfl rfl ⟨_,rfl,rfl⟩)))
theorem ym(wb:Nat)(v:Value)(bs:List UInt8)(a0 a1:Int)(hlen:bs.length+20≤140737488355328):
 DT 150 #[(.pointer (some ⟨wb,0,none⟩)),(.agg #[(.int .i64 (a0)),(.int .i64 (a1))])] T0 [ah wb [v] 219,dZ v (bs) 5] (qS 219 5 wb (bs++bf [a0,a1])):=by
 refine BD 12 Tryz.func150 rfl rfl rfl λw0 F hF=>sr λ_ J1=>XB λb3=>?_
 refine PS ?_;refine nx J1 (sr λ_ J2=>PS ?_);refine FA 0 kO aP ?_;refine LA 0 Y3 ?_;refine FA 1 kO aP ?_;refine LA 0 Y3 ?_;refine aV (cells:=#[(.int .i64 (a0)),(.int .i64 (a1))]) (ab rfl) rfl rfl rfl km sn rfl rfl rfl (by as_aux_lemma=>kernel_rfl) (λb10=>CQ ky (dX wb v (bs) (.slice (some ⟨b10,0,none⟩) (2) (2)) [a0,a1] (by simp only[ai,ax,aB,aA];first|omega| (have:=aU [a0,a1];simp only[ax,aB]at this;omega))) (SM [2,2]) (dP 0 rfl rfl rfl rfl) λvR HR hR=>?_);obtain⟨u1,rfl,rfl⟩:=hR;refine PS ?_;exact nx J2 (aj (WK [0,0] (av rfl rfl ⟨_,rfl,rfl⟩)))
theorem Cb(wb:Nat)(v:Value)(bs:List UInt8)(a0 a1 g0 g1 g2 g3 g4:Int)(hlen:bs.length+70≤140737488355328):
 DT 159 #[(.pointer (some ⟨wb,0,none⟩)),(.agg #[(.int .i64 (a0)),(.int .i64 (a1)),(.int .i64 (g0)),(.int .i64 (g1)),(.int .i64 (g2)),(.int .i64 (g3)),(.int .i64 (g4))])] T0 [ah wb [v] 219,dZ v (bs) 5] (dH (λx H=>∃v',x= .tuple #[]∧H=[ah wb [v'] 219,dZ v' (bs++bf [a0,a1,g0,g1,g2,g3,g4]) 5])):=by
 refine BD 14 Tryz.func159 rfl rfl rfl λw0 F hF=>sr λ_ J1=>XB λb3=>?_
 refine nx J1 (D1 0 bl ?_);refine PD 0 ?_;refine FD 1 0 oi aP ?_;refine LX 2 Y3 (.int .i64 (a0)) ?_ (hc:=by exact rfl);refine FD 3 1 oi aP ?_;refine LX 4 Y3 (.int .i64 (a1)) ?_ (hc:=by exact rfl);refine FD 7 2 oi gM ?_;refine ta 8 rfl (ol rfl mS aP rfl) ?_;refine AL 5 ?_;refine aV (cells:=#[(.int .i64 (a0)),(.int .i64 (a1))]) (ab rfl) rfl rfl rfl km sn rfl rfl rfl (by as_aux_lemma=>kernel_rfl) (λb9=>EN (AL 6 ?_));refine CQ ky (dX wb v (bs) (.slice (some ⟨b9,0,none⟩) (2) (2)) [a0,a1] (by simp only[ai,ax,aB,aA];first|omega| (have:=aU [a0,a1];simp only[ax,aB]at this;omega))) (SM [2,2]) (dP 0 rfl rfl rfl rfl) λvR HR hR=>?_
 obtain⟨u1,rfl,rfl⟩:=hR;refine EN (AL 9 ?_);refine CQ ky (dX wb u1 (bs++bf [a0,a1]) (.slice (some ⟨b3,2,none⟩) (5) (5)) [g0,g1,g2,g3,g4] (by simp only[ai,ax,aB,aA];first|omega| (have:=aU [a0,a1];simp only[ax,aB]at this;omega))) ID (dP 1 rfl rfl rfl rfl) λvR HR hR=>?_
 obtain⟨u2,rfl,rfl⟩:=hR;refine EN (DN (WK [0,0] (bw rfl ?_)));exact⟨_,rfl,by rw[aE,←qL];rfl⟩
theorem wz(wb:Nat)(v:Value)(bs:List UInt8)(c:CellT)(hlen:bs.length+70≤140737488355328):DT 159 #[(.pointer (some ⟨wb,0,none⟩)),c.val] T0 [ah wb [v] 219,dZ v bs 5] (dH (λx H=>∃v',x= .tuple #[]∧H=[ah wb [v'] 219,dZ v' (bs++bf c.flat) 5])):=by
 obtain⟨i,o,g⟩:=c;exact Lb (p:=λg=>Leg.Does Tryz.prog 159 #[(.pointer (some ⟨wb,0,none⟩)),CellT.val ⟨i,o,g⟩] (λ_=>True) [ah wb [v] 219,dZ v bs 5] (dH (λx H=>∃v',x= .tuple #[]∧H=[ah wb [v'] 219,dZ v' (bs++bf (CellT.flat ⟨i,o,g⟩)) 5]))) (λa b c d e=>Cb wb v bs i o a b c d e hlen) g
theorem rO(wb:Nat)(v:Value)(bs:List UInt8)(x:ViewT)(hlen:bs.length+70≤140737488355328):DT 152 #[(.pointer (some ⟨wb,0,none⟩)),x.val] T0 [ah wb [v] 219,dZ v bs 5] (qS 219 5 wb (bs++bf x.flat)):=by
 obtain⟨i,o,g⟩:=x;exact Lb (p:=λg=>Leg.Does Tryz.prog 152 #[(.pointer (some ⟨wb,0,none⟩)),ViewT.val ⟨i,o,g⟩] (λ_=>True) [ah wb [v] 219,dZ v bs 5] (qS 219 5 wb (bs++bf (ViewT.flat ⟨i,o,g⟩)))) (λa b c d e=>B3 wb v bs i o a b c d e hlen) g
theorem pa(wb:Nat)(v:Value)(bs:List UInt8)(x:ChangeT)(hlen:bs.length+30≤140737488355328):DT 151 #[(.pointer (some ⟨wb,0,none⟩)),x.val] T0 [ah wb [v] 219,dZ v bs 5] (qS 219 5 wb (bs++bf x.flat)):=yl wb v bs x.kind x.who x.heir (by omega)
theorem jU(wb:Nat)(v:Value)(bs:List UInt8)(x:BallotT)(hlen:bs.length+30≤140737488355328):DT 150 #[(.pointer (some ⟨wb,0,none⟩)),x.val] T0 [ah wb [v] 219,dZ v bs 5] (qS 219 5 wb (bs++bf x.flat)):=ym wb v bs x.round x.who (by omega)
theorem tY(wb:Nat)(v:Value)(bs:List UInt8)(x:RowT)(hlen:bs.length+2000≤140737488355328):
 DT 149 #[(.pointer (some ⟨wb,0,none⟩)),(.agg (ints x.flat).toArray)] T0 [ah wb [v] 219,dZ v (bs) 5] (qS 219 5 wb (bs++im x)):=by
 refine BD 50 Tryz.func149 rfl rfl rfl λw0 F hF=>sr λ_ J1=>XY (ints x.flat) λb3=>?_
 refine PS ?_;refine nx J1 (sr λ_ J2=>PS ?_);refine FA 0 dT aP ?_;refine LT 0 Y3 (.int .i64 (x.version)) ?_ (hc:=by exact RowT.get_version _);refine aV (cells:=#[(.int .i64 (x.version))]) (ab rfl) rfl rfl rfl km sn rfl rfl rfl (by as_aux_lemma=>kernel_rfl) (λb14=>CQ ky (dX wb v (bs) (.slice (some ⟨b14,0,none⟩) (1) (1)) [x.version] (by have:=congrArg List.length (Eq.refl bs);have:=iW x;simp only[ai,ax,aB]at*;omega)) (SM [2,2]) (dP 0 rfl rfl rfl rfl) λvR HR hR=>?_);obtain⟨u1,rfl,rfl⟩:=hR;refine nx J2 (aa λ_ J3=>sr λ_ J4=>FA 1 dT lX ?_);refine tp (aM (vs:=ints (bI x.cells.toList)) rfl B1 rfl lX rfl (RO 3) (by rw[ints_length,dd];simp) (RowT.get_cells _)) ?_;refine PS ?_;refine nx J4 (aq ?_)
 refine bD (α:=(Nat)×(Value)×(List UInt8)) (λ⟨k,u,laid⟩=>k≤4∧laid++(bf (bI (x.cells.toList.drop k))++fH x 5 0)=bs++im x) (λ⟨k,u,laid⟩=>[(0,(.pointer (some ⟨wb,0,none⟩))),(3,(.pointer (some ⟨b3,0,none⟩))),(4,(.pointer none)),(17,(.agg (ints (bI x.cells.toList)).toArray)),(18,(.int .i64 ((k:Nat))))]) (λ⟨k,u,laid⟩=>[ah b3 (ints x.flat) 51,ah wb [u] 219,dZ u (laid) 5]) (λ⟨k,u,laid⟩=>4-k) (0,u1,bs++bf [x.version])
  ⟨by omega,by simp[im,bf]⟩ SB
  (λ_ s=>ak [3,0,0] rfl s) (λ⟨k,u,laid⟩ hinv=>?_)
 obtain⟨hk,hL⟩:=hinv;have hE:=hL;rw[show bf (bI (x.cells.toList.drop k))=bf (bI (x.cells.toList.drop k))from rfl]at hE;refine sr λ_ J5=>PS ?_
 refine ap ?_ ?_<;>intro h19;refine nx J5 (aa λ_ J6=>CY (qx J6 (aa λ_ J7=>aq (sr λ_ J8=>tp (Rk (cs:=ints (bI (x.cells.toList))) (r:=k*7) rfl B1 oi rfl gL rfl rfl (by omega) (by omega) (by omega) (Ac (by simp;omega))) ?_))));refine XA KT λb6=>?_
 refine bL (vs:=ints ((x.cells.toList)[k]'(by simp;omega)).flat) (cs':=ints ((x.cells.toList)[k]'(by simp;omega)).flat) (i:=0) (ab rfl) rfl rfl rfl rfl rfl (by rw[bB];exact gL) (bA _) rfl rfl (by rw[bB];exact aH _) (gC (by rw[bB];rfl)) rfl (nx J8 (ad (PS ?_)));refine tp (aM (vs:=ints ((x.cells.toList)[k]'(by simp;omega)).flat) rfl oi rfl gL rfl (RO 0) (bB _) (by rw[be,aD (by rw[bB];decide)])) ?_;refine CR ME (wz wb u (laid) ((x.cells.toList)[k]'(by simp;omega)) (by have:=congrArg List.length hE;have:=iW x;have:=aU ((x.cells.toList)[k]'(by simp;omega)).flat;rw[bP]at this;simp only[ai]at*;omega)) (SM [2,2]) λvR HR hR=>?_
 obtain⟨u2,rfl,rfl⟩:=hR;refine aw (af (ac J7 (ad (AD ?_))));refine PS ?_;refine aw ?_
 exact aL ((k+1,u2,laid++bf ((x.cells.toList)[k]'(by simp;omega)).flat):(Nat)×(Value)×(List UInt8)) ⟨by omega,by rw[←hL,lO (l:=x.cells.toList) (k:=k) (by simp;omega)];simp⟩ (by show _-_<_-_;omega)
  SB
  (λ_ s=>ak [3,0,0] rfl s)
 refine nx J5 (aa λ_ J9=>CN (bh (aC (aC (bC (ac J3 (aa λ_ J10=>sr λ_ J11=>FA 29 dT gM ?_)))))));refine tp (aM (vs:=ints x.heir.toList) rfl mS rfl gM rfl (RO 0) (by rw[ints_length];simp) (RowT.get_heirs _)) ?_;refine PS ?_;refine nx J11 (aq ?_)
 refine bD (α:=(Nat)×(Value)×(List UInt8)) (λ⟨i,u,laid⟩=>i≤5∧laid++fH x (5-i) i=bs++im x) (λ⟨i,u,laid⟩=>[(0,(.pointer (some ⟨wb,0,none⟩))),(3,(.pointer (some ⟨b3,0,none⟩))),(4,(.pointer none)),(26,(.agg (ints x.heir.toList).toArray)),(27,(.int .i64 ((i:Nat))))]) (λ⟨i,u,laid⟩=>[ah b3 (ints x.flat) 51,ah wb [u] 219,dZ u (laid) 5]) (λ⟨i,u,laid⟩=>5-i) (0,u,laid)
  ⟨by omega,by rw[←hL,dO (by simp;omega)];simp[bI,bf]⟩ SB
  (λ_ s=>ak [0,0,0] rfl s) (λ⟨i,u,laid⟩ hinv=>?_)
 obtain⟨hi,hL⟩:=hinv;have hE:=hL;refine sr λ_ J12=>PS ?_
 refine ap ?_ ?_<;>intro h28;refine nx J12 (aa λ_ J13=>CY (qx J13 (aa λ_ J14=>aq (sr λ_ J15=>PS ?_))));refine tp (p9 (cs:=ints x.heir.toList) (v:= .int .i64 (x.heir[i]'(by omega))) (r:=i) rfl mS Y3 rfl aP rfl rfl (by omega) (by omega) (by omega) (by rw[ints_get _ _ (by simp;omega)];simp[List.getD_eq_getElem?_getD,show i<5 by omega])) ?_;refine P2 ?_;refine nx J15 (sr λ_ J16=>P2 ?_);refine aV (cells:=#[(.int .i64 (x.heir[i]'(by omega)))]) (ab rfl) rfl rfl rfl km sn rfl rfl rfl (by as_aux_lemma=>kernel_rfl) (λb33=>CQ ky (dX wb u (laid) (.slice (some ⟨b33,0,none⟩) (1) (1)) [x.heir[i]'(by omega)] (by have:=congrArg List.length hE;have:=iW x;simp only[ai,ax,aB]at*;omega)) (SM [2,2]) (dP 0 rfl rfl rfl rfl) λvR HR hR=>?_);obtain⟨u2,rfl,rfl⟩:=hR;refine nx J16 (sr λ_ J17=>P2 ?_);refine ap ?_ ?_<;>intro h36;refine nx J17 (CY (sr λ_ J18=>PS ?_));refine FA 34 dT Cl ?_;refine IX (34+i*28) MX lX ?_;refine tp (aM (vs:=ints (bI (x.left[i]'(by omega)).toList)) rfl B1 rfl lX rfl (RO 3) (by rw[ints_length,dd];simp) (RowT.get_left _ i (by omega))) ?_;refine PS ?_;refine nx J18 (aq ?_)
 refine bD (α:=(Nat)×(Value)×(List UInt8)) (λ⟨k,u3,laid3⟩=>k≤4∧laid3++(bf (bI ((x.left[i]'(by omega)).toList.drop k))++fH x (5- (i+1)) (i+1))=bs++im x) (λ⟨k,u3,laid3⟩=>[(0,(.pointer (some ⟨wb,0,none⟩))),(3,(.pointer (some ⟨b3,0,none⟩))),(4,(.pointer none)),(26,(.agg (ints x.heir.toList).toArray)),(27,(.int .i64 ((i:Nat)))),(40,(.agg (ints (bI (x.left[i]'(by omega)).toList)).toArray)),(41,(.int .i64 ((k:Nat))))]) (λ⟨k,u3,laid3⟩=>[ah b3 (ints x.flat) 51,ah wb [u3] 219,dZ u3 (laid3) 5]) (λ⟨k,u3,laid3⟩=>4-k) (0,u2,laid++bf [x.heir[i]'(by omega)])
  ⟨by omega,by rw[←hL,rF (i:=i) (by omega),if_pos h36];simp[bf]⟩ SB
  (λ_ s=>ak [3,0,0] rfl s) (λ⟨k,u3,laid3⟩ hinv=>?_)
 obtain⟨hk,hM⟩:=hinv;have hE:=hM;refine sr λ_ J19=>PS ?_
 refine ap ?_ ?_<;>intro h42;refine nx J19 (aa λ_ J20=>CY (qx J20 (aa λ_ J21=>aq (sr λ_ J22=>tp (Rk (cs:=ints (bI ((x.left[i]'(by omega)).toList))) (r:=k*7) rfl B1 oi rfl gL rfl rfl (by omega) (by omega) (by omega) (Ac (by simp;omega))) ?_))));refine XA KT λb10=>?_
 refine bL (vs:=ints (((x.left[i]'(by omega)).toList)[k]'(by simp;omega)).flat) (cs':=ints (((x.left[i]'(by omega)).toList)[k]'(by simp;omega)).flat) (i:=0) (ab rfl) rfl rfl rfl rfl rfl (by rw[bB];exact gL) (bA _) rfl rfl (by rw[bB];exact aH _) (gC (by rw[bB];rfl)) rfl (nx J22 (ad (PS ?_)));refine tp (aM (vs:=ints (((x.left[i]'(by omega)).toList)[k]'(by simp;omega)).flat) rfl oi rfl gL rfl (RO 0) (bB _) (by rw[be,aD (by rw[bB];decide)])) ?_;refine CR ME (wz wb u3 (laid3) (((x.left[i]'(by omega)).toList)[k]'(by simp;omega)) (by have:=congrArg List.length hE;have:=iW x;have:=aU (((x.left[i]'(by omega)).toList)[k]'(by simp;omega)).flat;rw[bP]at this;simp only[ai]at*;omega)) (SM [2,2]) λvR HR hR=>?_
 obtain⟨u3,rfl,rfl⟩:=hR;refine aw (af (ac J21 (ad (AD ?_))));refine PS ?_;refine aw ?_
 exact aL ((k+1,u3,laid3++bf (((x.left[i]'(by omega)).toList)[k]'(by simp;omega)).flat):(Nat)×(Value)×(List UInt8)) ⟨by omega,by rw[←hM,lO (l:=(x.left[i]'(by omega)).toList) (k:=k) (by simp;omega)];simp⟩ (by show _-_<_-_;omega)
  SB
  (λ_ s=>ak [3,0,0] rfl s)
 refine nx J19 (aa λ_ J23=>CN (bh (aC (aC (bC (af (ac J14 (ad (AD ?_)))))))));refine PS ?_;refine aw ?_
 exact aL ((i+1,u3,laid3):(Nat)×(Value)×(List UInt8)) ⟨by omega,by rw[←hM,dO (by simp;omega)];simp[bI,bf]⟩ (by show _-_<_-_;omega)
  SB
  (λ_ s=>ak [0,0,0] rfl s)
 refine nx J17 (CN (aS (af (ac J14 (ad (AD ?_))))));refine PS ?_;refine aw ?_
 exact aL ((i+1,u2,laid++bf [x.heir[i]'(by omega)]):(Nat)×(Value)×(List UInt8)) ⟨by omega,by rw[←hL,rF (i:=i) (by omega),if_neg h36];simp[bf]⟩ (by show _-_<_-_;omega)
  SB
  (λ_ s=>ak [3,0,0] rfl s)
 refine nx J12 (aa λ_ J24=>CN (bh (aC (aC (bC (ac J10 (sr λ_ J25=>P2 ?_)))))));refine nx J25 (aj (WK [1,1] (av rfl rfl ?_)));obtain rfl:laid=bs++im x:=by rw[←hL,show 5-i=0 by omega];simp[fH]
 exact⟨u,rfl,rfl⟩
theorem DW(m:MsgT):
 DT 182 #[(.agg (ints m.flat).toArray)] T0 [] (dH (λr' H=>∃u,r'=u∧H=[dZ u (cQ m) 5])):=by
 refine BD 100 Tryz.func182 rfl rfl rfl λw0 F hF=>sr λ_ J1=>XY (ints m.flat) λb1=>?_
 refine PS ?_;refine nx J1 (sr λ_ J2=>XA Oh λb4=>?_);refine TL.ownNil 5 (λon=>?_);clear on;refine PS ?_;refine nx J2 (aa λ_ J3=>sr λ_ J4=>FA 0 bg aP ?_);refine LU 2 Y3 (fj m rfl) ?_;refine nx J4 (aq (aa λ_ J5=>fB (α:=Unit) (λ_u=>True) (λ_u=>[(1,(.pointer (some ⟨b1,0,none⟩))),(2,(.slice none 0 0)),(3,(.pointer (some ⟨b4,0,none⟩))),(6,(.int .i64 (m.kind))),(7,(.bool ((ee m.kind))))]) (λ_u=>[dZ (.slice none 0 0) ([]) 5,ah b4 [(.slice none 0 0)] 219,ah b1 (ints m.flat) 136]) (λ_u hinv=>?_) (λtl5=>?_)));have _:=hinv;refine ac J5 (TC.cond rfl (λh7=>?_) (λh7=>?_));refine D1 2 bl ?_;refine PD 0 ?_;refine FD 1 0 bg aP ?_;refine LR 2 Y3 (fj m rfl) ?_;refine FD 3 1 bg aP ?_;refine LR 4 Y3 (cm m rfl) ?_;refine FD 7 2 bg aX ?_;refine ta 8 rfl (aM (vs:=ints m.row.flat) rfl dT rfl aX rfl (λ_ h=>h.2.1) (ag m.row) (mM m 0 rfl (by decide) (bo (ag m.row)))) ?_;refine AL 5 ?_;refine aV (cells:=#[(.int .i64 (m.kind)),(.int .i64 (m.whose))]) (ab rfl) rfl rfl rfl km sn rfl rfl rfl (by as_aux_lemma=>kernel_rfl) (λb16=>EN (AL 6 ?_));refine CQ ky (dX b4 (.slice none 0 0) ([]) (.slice (some ⟨b16,0,none⟩) (2) (2)) [m.kind,m.whose] (by simp)) (SM [2,1]) (dP 0 rfl rfl rfl rfl) λvR HR hR=>?_
 obtain⟨u1,rfl,rfl⟩:=hR;refine EN (AL 9 ?_);refine CR JO (tY b4 u1 (bf [m.kind,m.whose]) m.row (by(have:=aU [m.kind,m.whose]);simp only[BallotT.flat,ViewT.flat,ChangeT.flat,ax,aB,aA,ai]at*;omega)) ID λvR HR hR=>?_
 obtain⟨u2,rfl,rfl⟩:=hR;refine EN (DN (af (ac J3 (sr λ_ J6=>PS ?_))));refine CR nH (eG b4 u2 (bf [m.kind,m.whose]++im m.row) (by(have:=aU [m.kind,m.whose]);(have:=iW m.row);simp only[BallotT.flat,ViewT.flat,ChangeT.flat,ax,aB,aA,ai]at*;omega)) ID λvR HR hR=>?_
 obtain⟨_,rfl,rfl⟩:=hR;revert vR;intro u3;refine PS ?_;refine nx J6 (aj (WK [2] (av rfl rfl ?_)));exact⟨_,rfl,congrArg (λb=>[dZ u3 b 5]) (show(bf [m.kind,m.whose]++im m.row)=cQ m by simp[cQ,bf, *])⟩;refine sr λ_ J7=>PS ?_
 refine ap ?_ ?_<;>intro h22;refine PS ?_;refine nx J7 (CY (ad (PS ?_)));refine FA 0 bg aP ?_;refine LU 2 Y3 (fj m rfl) ?_;refine FA 176 bg aP ?_;refine LU 2 Y3 (MsgT.at_version m rfl) ?_;refine aV (cells:=#[(.int .i64 (m.kind)),(.int .i64 (m.version))]) (ab rfl) rfl rfl rfl km sn rfl rfl rfl (by as_aux_lemma=>kernel_rfl) (λb28=>CQ ky (dX b4 (.slice none 0 0) ([]) (.slice (some ⟨b28,0,none⟩) (2) (2)) [m.kind,m.version] (by simp)) (SM [2,1]) (dP 0 rfl rfl rfl rfl) λvR HR hR=>?_);obtain⟨u1,rfl,rfl⟩:=hR;refine aw (af (ac J3 (sr λ_ J8=>PS ?_)));refine CR nH (eG b4 u1 (bf [m.kind,m.version]) (by(have:=aU [m.kind,m.version]);simp only[BallotT.flat,ViewT.flat,ChangeT.flat,ax,aB,aA,ai]at*;omega)) ID λvR HR hR=>?_
 obtain⟨_,rfl,rfl⟩:=hR;revert vR;intro u2;refine PS ?_;refine nx J8 (aj (WK [2] (av rfl rfl ?_)));exact⟨_,rfl,congrArg (λb=>[dZ u2 b 5]) (show(bf [m.kind,m.version])=cQ m by simp[cQ,ee,fg,bf, *])⟩;refine PS ?_;refine nx J7 (CN (aa λ_ J9=>fB (α:=Unit) (λ_u=>True) (λ_u=>[(1,(.pointer (some ⟨b1,0,none⟩))),(2,(.slice none 0 0)),(3,(.pointer (some ⟨b4,0,none⟩))),(6,(.int .i64 (m.kind))),(30,(.bool ((fg m.kind))))]) (λ_u=>[dZ (.slice none 0 0) ([]) 5,ah b4 [(.slice none 0 0)] 219,ah b1 (ints m.flat) 136]) (λ_u hinv=>?_) (λtl9=>?_)));have _:=hinv;refine ac J9 (TC.cond rfl (λh30=>?_) (λh30=>?_));refine D1 2 bl ?_;refine PD 0 ?_;refine FD 1 0 bg aP ?_;refine LR 2 Y3 (fj m rfl) ?_;refine FD 3 177 bg aP ?_;refine LR 4 Y3 (fa m rfl) ?_;refine FD 7 178 bg cA ?_;refine ta 8 rfl (aM (vs:=ints m.ballot.flat) rfl kO rfl cA rfl (λ_ h=>h.2.1) (ao m.ballot) (jw m 0 rfl (by decide) (bo (ao m.ballot)))) ?_;refine AL 5 ?_;refine aV (cells:=#[(.int .i64 (m.kind)),(.int .i64 (m.epoch))]) (ab rfl) rfl rfl rfl km sn rfl rfl rfl (by as_aux_lemma=>kernel_rfl) (λb38=>EN (AL 6 ?_));refine CQ ky (dX b4 (.slice none 0 0) ([]) (.slice (some ⟨b38,0,none⟩) (2) (2)) [m.kind,m.epoch] (by simp)) (SM [2,1]) (dP 0 rfl rfl rfl rfl) λvR HR hR=>?_
 obtain⟨u1,rfl,rfl⟩:=hR;refine EN (AL 9 ?_);refine CR zN (jU b4 u1 (bf [m.kind,m.epoch]) m.ballot (by(have:=aU [m.kind,m.epoch]);simp only[BallotT.flat,ViewT.flat,ChangeT.flat,ax,aB,aA,ai]at*;omega)) ID λvR HR hR=>?_
 obtain⟨u2,rfl,rfl⟩:=hR;refine EN (DN (af (ac J3 (sr λ_ J10=>PS ?_))));refine CR nH (eG b4 u2 (bf [m.kind,m.epoch]++bf m.ballot.flat) (by(have:=aU [m.kind,m.epoch]);(have:=aU (m.ballot.flat));simp only[BallotT.flat,ViewT.flat,ChangeT.flat,ax,aB,aA,ai]at*;omega)) ID λvR HR hR=>?_
 obtain⟨_,rfl,rfl⟩:=hR;revert vR;intro u3;refine PS ?_;refine nx J10 (aj (WK [2] (av rfl rfl ?_)));exact⟨_,rfl,congrArg (λb=>[dZ u3 b 5]) (show(bf [m.kind,m.epoch]++bf m.ballot.flat)=cQ m by simp[cQ,bf, *])⟩;refine sr λ_ J11=>PS ?_
 refine ap ?_ ?_<;>intro h44;refine PS ?_;refine nx J11 (CY (D1 2 bl ?_));refine PD 0 ?_;refine FD 1 0 bg aP ?_;refine LR 2 Y3 (fj m rfl) ?_;refine FD 3 177 bg aP ?_;refine LR 4 Y3 (fa m rfl) ?_;refine FD 7 178 bg cA ?_;refine ta 8 rfl (aM (vs:=ints m.ballot.flat) rfl kO rfl cA rfl (λ_ h=>h.2.1) (ao m.ballot) (jw m 0 rfl (by decide) (bo (ao m.ballot)))) ?_;refine FD 10 180 bg cA ?_;refine ta 11 rfl (aM (vs:=ints m.had.flat) rfl kO rfl cA rfl (λ_ h=>h.2.1) (ao m.had) (Rw m 0 rfl (by decide) (bo (ao m.had)))) ?_;refine FD 13 182 bg gf ?_;refine ta 14 rfl (aM (vs:=ints m.change.flat) rfl nP rfl gf rfl (λ_ h=>h.2.1) (aK m.change) (nV m 0 rfl (by decide) (bo (aK m.change)))) ?_;refine AL 5 ?_;refine aV (cells:=#[(.int .i64 (m.kind)),(.int .i64 (m.epoch))]) (ab rfl) rfl rfl rfl km sn rfl rfl rfl (by as_aux_lemma=>kernel_rfl) (λb50=>EN (AL 6 ?_));refine CQ ky (dX b4 (.slice none 0 0) ([]) (.slice (some ⟨b50,0,none⟩) (2) (2)) [m.kind,m.epoch] (by simp)) (SM [2,1]) (dP 0 rfl rfl rfl rfl) λvR HR hR=>?_
 obtain⟨u1,rfl,rfl⟩:=hR;refine EN (AL 9 ?_);refine CR zN (jU b4 u1 (bf [m.kind,m.epoch]) m.ballot (by(have:=aU [m.kind,m.epoch]);simp only[BallotT.flat,ViewT.flat,ChangeT.flat,ax,aB,aA,ai]at*;omega)) ID λvR HR hR=>?_
 obtain⟨u2,rfl,rfl⟩:=hR;refine EN (AL 12 ?_);refine CR zN (jU b4 u2 (bf [m.kind,m.epoch]++bf m.ballot.flat) m.had (by(have:=aU [m.kind,m.epoch]);(have:=aU (m.ballot.flat));simp only[BallotT.flat,ViewT.flat,ChangeT.flat,ax,aB,aA,ai]at*;omega)) ID λvR HR hR=>?_
 obtain⟨u3,rfl,rfl⟩:=hR;refine EN (AL 15 ?_);refine CR JN (pa b4 u3 (bf [m.kind,m.epoch]++bf m.ballot.flat++bf m.had.flat) m.change (by(have:=aU [m.kind,m.epoch]);(have:=aU (m.ballot.flat));(have:=aU (m.had.flat));simp only[BallotT.flat,ViewT.flat,ChangeT.flat,ax,aB,aA,ai]at*;omega)) ID λvR HR hR=>?_
 obtain⟨u4,rfl,rfl⟩:=hR;refine EN (DN (af (ac J3 (sr λ_ J12=>PS ?_))));refine CR nH (eG b4 u4 (bf [m.kind,m.epoch]++bf m.ballot.flat++bf m.had.flat++bf m.change.flat) (by(have:=aU [m.kind,m.epoch]);(have:=aU (m.ballot.flat));(have:=aU (m.had.flat));(have:=aU (m.change.flat));simp only[BallotT.flat,ViewT.flat,ChangeT.flat,ax,aB,aA,ai]at*;omega)) ID λvR HR hR=>?_
 obtain⟨_,rfl,rfl⟩:=hR;revert vR;intro u5;refine PS ?_;refine nx J12 (aj (WK [2] (av rfl rfl ?_)));exact⟨_,rfl,congrArg (λb=>[dZ u5 b 5]) (show(bf [m.kind,m.epoch]++bf m.ballot.flat++bf m.had.flat++bf m.change.flat)=cQ m by simp[cQ,ee,fg,bf, *])⟩;refine PS ?_;refine nx J11 (CN (sr λ_ J13=>PS ?_));refine ap ?_ ?_<;>intro h62;refine PS ?_;refine nx J13 (CY (D1 2 bl ?_));refine PD 0 ?_;refine FD 1 0 bg aP ?_;refine LR 2 Y3 (fj m rfl) ?_;refine FD 3 177 bg aP ?_;refine LR 4 Y3 (fa m rfl) ?_;refine FD 7 178 bg cA ?_;refine ta 8 rfl (aM (vs:=ints m.ballot.flat) rfl kO rfl cA rfl (λ_ h=>h.2.1) (ao m.ballot) (jw m 0 rfl (by decide) (bo (ao m.ballot)))) ?_;refine FD 10 182 bg gf ?_;refine ta 11 rfl (aM (vs:=ints m.change.flat) rfl nP rfl gf rfl (λ_ h=>h.2.1) (aK m.change) (nV m 0 rfl (by decide) (bo (aK m.change)))) ?_;refine AL 5 ?_;refine aV (cells:=#[(.int .i64 (m.kind)),(.int .i64 (m.epoch))]) (ab rfl) rfl rfl rfl km sn rfl rfl rfl (by as_aux_lemma=>kernel_rfl) (λb68=>EN (AL 6 ?_));refine CQ ky (dX b4 (.slice none 0 0) ([]) (.slice (some ⟨b68,0,none⟩) (2) (2)) [m.kind,m.epoch] (by simp)) (SM [2,1]) (dP 0 rfl rfl rfl rfl) λvR HR hR=>?_
 obtain⟨u1,rfl,rfl⟩:=hR;refine EN (AL 9 ?_);refine CR zN (jU b4 u1 (bf [m.kind,m.epoch]) m.ballot (by(have:=aU [m.kind,m.epoch]);simp only[BallotT.flat,ViewT.flat,ChangeT.flat,ax,aB,aA,ai]at*;omega)) ID λvR HR hR=>?_
 obtain⟨u2,rfl,rfl⟩:=hR;refine EN (AL 12 ?_);refine CR JN (pa b4 u2 (bf [m.kind,m.epoch]++bf m.ballot.flat) m.change (by(have:=aU [m.kind,m.epoch]);(have:=aU (m.ballot.flat));simp only[BallotT.flat,ViewT.flat,ChangeT.flat,ax,aB,aA,ai]at*;omega)) ID λvR HR hR=>?_
 obtain⟨u3,rfl,rfl⟩:=hR;refine EN (DN (af (ac J3 (sr λ_ J14=>PS ?_))));refine CR nH (eG b4 u3 (bf [m.kind,m.epoch]++bf m.ballot.flat++bf m.change.flat) (by(have:=aU [m.kind,m.epoch]);(have:=aU (m.ballot.flat));(have:=aU (m.change.flat));simp only[BallotT.flat,ViewT.flat,ChangeT.flat,ax,aB,aA,ai]at*;omega)) ID λvR HR hR=>?_
 obtain⟨_,rfl,rfl⟩:=hR;revert vR;intro u4;refine PS ?_;refine nx J14 (aj (WK [2] (av rfl rfl ?_)));exact⟨_,rfl,congrArg (λb=>[dZ u4 b 5]) (show(bf [m.kind,m.epoch]++bf m.ballot.flat++bf m.change.flat)=cQ m by simp[cQ,ee,fg,bf, *])⟩;refine PS ?_;refine nx J13 (CN (sr λ_ J15=>PS ?_));refine ap ?_ ?_<;>intro h77;refine PS ?_;refine nx J15 (CY (D1 2 bl ?_));refine PD 0 ?_;refine FD 1 0 bg aP ?_;refine LR 2 Y3 (fj m rfl) ?_;refine FD 5 185 bg bi ?_;refine ta 6 rfl (aM (vs:=ints m.view.flat) rfl e6 rfl bi rfl (λ_ h=>h.2.1) (am m.view) (wc m 0 rfl (by decide) (bo (am m.view)))) ?_;refine AL 3 ?_;refine aV (cells:=#[(.int .i64 (m.kind))]) (ab rfl) rfl rfl rfl km sn rfl rfl rfl (by as_aux_lemma=>kernel_rfl) (λb81=>EN (AL 4 ?_));refine CQ ky (dX b4 (.slice none 0 0) ([]) (.slice (some ⟨b81,0,none⟩) (1) (1)) [m.kind] (by simp)) (SM [2,1]) (dP 0 rfl rfl rfl rfl) λvR HR hR=>?_
 obtain⟨u1,rfl,rfl⟩:=hR;refine EN (AL 7 ?_);refine CR JM (rO b4 u1 (bf [m.kind]) m.view (by(have:=aU [m.kind]);simp only[BallotT.flat,ViewT.flat,ChangeT.flat,ax,aB,aA,ai]at*;omega)) ID λvR HR hR=>?_
 obtain⟨u2,rfl,rfl⟩:=hR;refine EN (DN (af (ac J3 (sr λ_ J16=>PS ?_))));refine CR nH (eG b4 u2 (bf [m.kind]++bf m.view.flat) (by(have:=aU [m.kind]);(have:=aU (m.view.flat));simp only[BallotT.flat,ViewT.flat,ChangeT.flat,ax,aB,aA,ai]at*;omega)) ID λvR HR hR=>?_
 obtain⟨_,rfl,rfl⟩:=hR;revert vR;intro u3;refine PS ?_;refine nx J16 (aj (WK [2] (av rfl rfl ?_)));exact⟨_,rfl,congrArg (λb=>[dZ u3 b 5]) (show(bf [m.kind]++bf m.view.flat)=cQ m by simp[cQ,ee,fg,bf, *])⟩;refine PS ?_;refine nx J15 (CN (sr λ_ J17=>PS ?_));refine ap ?_ ?_<;>intro h87;refine PS ?_;refine nx J17 (CY (D1 2 bl ?_));refine PD 0 ?_;refine FD 1 0 bg aP ?_;refine LR 2 Y3 (fj m rfl) ?_;refine FD 3 1 bg aP ?_;refine LR 4 Y3 (cm m rfl) ?_;refine FD 7 185 bg bi ?_;refine ta 8 rfl (aM (vs:=ints m.view.flat) rfl e6 rfl bi rfl (λ_ h=>h.2.1) (am m.view) (wc m 0 rfl (by decide) (bo (am m.view)))) ?_;refine AL 5 ?_;refine aV (cells:=#[(.int .i64 (m.kind)),(.int .i64 (m.whose))]) (ab rfl) rfl rfl rfl km sn rfl rfl rfl (by as_aux_lemma=>kernel_rfl) (λb93=>EN (AL 6 ?_));refine CQ ky (dX b4 (.slice none 0 0) ([]) (.slice (some ⟨b93,0,none⟩) (2) (2)) [m.kind,m.whose] (by simp)) (SM [2,1]) (dP 0 rfl rfl rfl rfl) λvR HR hR=>?_
 obtain⟨u1,rfl,rfl⟩:=hR;refine EN (AL 9 ?_);refine CR JM (rO b4 u1 (bf [m.kind,m.whose]) m.view (by(have:=aU [m.kind,m.whose]);simp only[BallotT.flat,ViewT.flat,ChangeT.flat,ax,aB,aA,ai]at*;omega)) ID λvR HR hR=>?_
 obtain⟨u2,rfl,rfl⟩:=hR;refine EN (DN (af (ac J3 (sr λ_ J18=>PS ?_))));refine CR nH (eG b4 u2 (bf [m.kind,m.whose]++bf m.view.flat) (by(have:=aU [m.kind,m.whose]);(have:=aU (m.view.flat));simp only[BallotT.flat,ViewT.flat,ChangeT.flat,ax,aB,aA,ai]at*;omega)) ID λvR HR hR=>?_
 obtain⟨_,rfl,rfl⟩:=hR;revert vR;intro u3;refine PS ?_;refine nx J18 (aj (WK [2] (av rfl rfl ?_)));exact⟨_,rfl,congrArg (λb=>[dZ u3 b 5]) (show(bf [m.kind,m.whose]++bf m.view.flat)=cQ m by simp[cQ,ee,fg,bf, *])⟩;refine PS ?_;refine nx J17 (CN (aS (af (ac J3 (sr λ_ J19=>PS ?_)))));refine CR nH (eG b4 (.slice none 0 0) ([]) (by simp)) (SM [1,0]) λvR HR hR=>?_
 obtain⟨_,rfl,rfl⟩:=hR;revert vR;intro u1;refine PS ?_;refine nx J19 (aj (WK [2] (av rfl rfl ?_)));exact⟨_,rfl,congrArg (λb=>[dZ u1 b 5]) (show([]:List UInt8)=cQ m by simp[cQ,bf, *])⟩;refine sr λ_ J20=>P2 ?_
 refine ap ?_ ?_<;>intro h30;refine nx J20 (CY (aS ?_))
 exact aF
  (aT (aT (aT (aT (bE rfl (by simp[fg, *]) SB)))))
  (λ_ s=>s)
  (tl9 (():Unit) trivial)
 refine nx J20 (CN (ad (PS ?_)));refine ap ?_ ?_<;>intro h32;refine PS ?_;refine aw ?_
 exact aF
  (aT (aT (aT (aT (bE rfl (by simp[fg, *]) SB)))))
  (λ_ s=>s)
  (tl9 (():Unit) trivial)
 refine PS ?_;refine aw ?_
 exact aF
  (aT (aT (aT (aT (bE rfl (by simp[fg, *]) SB)))))
  (λ_ s=>s)
  (tl9 (():Unit) trivial)
 refine sr λ_ J21=>P2 ?_
 refine ap ?_ ?_<;>intro h7;refine nx J21 (CY (aS ?_))
 exact aF
  (aT (aT (aT (aT (bE rfl (by simp[ee, *]) SB)))))
  (λ_ s=>s)
  (tl5 (():Unit) trivial)
 refine nx J21 (CN (sr λ_ J22=>P2 ?_));refine ap ?_ ?_<;>intro h7;refine nx J22 (CY (aS ?_))
 exact aF
  (aT (aT (aT (aT (bE rfl (by simp[ee, *]) SB)))))
  (λ_ s=>s)
  (tl5 (():Unit) trivial)
 refine nx J22 (CN (ad (PS ?_)));refine ap ?_ ?_<;>intro h10;refine PS ?_;refine aw ?_
 exact aF
  (aT (aT (aT (aT (bE rfl (by simp[ee, *]) SB)))))
  (λ_ s=>s)
  (tl5 (():Unit) trivial)
 refine PS ?_;refine aw ?_
 exact aF
  (aT (aT (aT (aT (bE rfl (by simp[ee, *]) SB)))))
  (λ_ s=>s)
  (tl5 (():Unit) trivial)
theorem De(m:RecT):
 DT 132 #[(.agg (ints m.flat).toArray)] T0 [] (dH (λr' H=>∃u,r'=u∧H=[dZ u (eO m) 5])):=by
 refine BD 77 Tryz.func132 rfl rfl rfl λw0 F hF=>sr λ_ J1=>XY (ints m.flat) λb1=>?_
 refine PS ?_;refine nx J1 (sr λ_ J2=>XA Oh λb4=>?_);refine TL.ownNil 5 (λon=>?_);clear on;refine PS ?_;refine nx J2 (aa λ_ J3=>sr λ_ J4=>FA 0 eC aP ?_);refine LU 2 Y3 (k9 m rfl) ?_;refine nx J4 (aq (sr λ_ J5=>PS ?_));refine ap ?_ ?_<;>intro h8;refine PS ?_;refine nx J5 (CY (D1 2 bl ?_));refine PD 0 ?_;refine FD 1 0 eC aP ?_;refine LR 2 Y3 (k9 m rfl) ?_;refine FD 5 2 eC aX ?_;refine ta 6 rfl (aM (vs:=ints m.row.flat) rfl dT rfl aX rfl (λ_ h=>h.2.1) (ag m.row) (sD m 0 rfl (by decide) (bo (ag m.row)))) ?_;refine AL 3 ?_;refine aV (cells:=#[(.int .i64 (m.kind))]) (ab rfl) rfl rfl rfl km sn rfl rfl rfl (by as_aux_lemma=>kernel_rfl) (λb12=>EN (AL 4 ?_));refine CQ ky (dX b4 (.slice none 0 0) ([]) (.slice (some ⟨b12,0,none⟩) (1) (1)) [m.kind] (by simp)) (SM [2,1]) (dP 0 rfl rfl rfl rfl) λvR HR hR=>?_
 obtain⟨u1,rfl,rfl⟩:=hR;refine EN (AL 7 ?_);refine CR JO (tY b4 u1 (bf [m.kind]) m.row (by(have:=aU [m.kind]);simp only[BallotT.flat,ViewT.flat,ChangeT.flat,ax,aB,aA,ai]at*;omega)) ID λvR HR hR=>?_
 obtain⟨u2,rfl,rfl⟩:=hR;refine EN (DN (af (ac J3 (sr λ_ J6=>PS ?_))));refine CR nH (eG b4 u2 (bf [m.kind]++im m.row) (by(have:=aU [m.kind]);(have:=iW m.row);simp only[BallotT.flat,ViewT.flat,ChangeT.flat,ax,aB,aA,ai]at*;omega)) ID λvR HR hR=>?_
 obtain⟨_,rfl,rfl⟩:=hR;revert vR;intro u3;refine PS ?_;refine nx J6 (aj (WK [2] (av rfl rfl ?_)));exact⟨_,rfl,congrArg (λb=>[dZ u3 b 5]) (show(bf [m.kind]++im m.row)=eO m by simp[eO,ee,fg,bf, *])⟩;refine PS ?_;refine nx J5 (CN (sr λ_ J7=>PS ?_));refine ap ?_ ?_<;>intro h18;refine PS ?_;refine nx J7 (CY (D1 2 bl ?_));refine PD 0 ?_;refine FD 1 0 eC aP ?_;refine LR 2 Y3 (k9 m rfl) ?_;refine FD 3 1 eC aP ?_;refine LR 4 Y3 (Hd m rfl) ?_;refine FD 7 2 eC aX ?_;refine ta 8 rfl (aM (vs:=ints m.row.flat) rfl dT rfl aX rfl (λ_ h=>h.2.1) (ag m.row) (sD m 0 rfl (by decide) (bo (ag m.row)))) ?_;refine AL 5 ?_;refine aV (cells:=#[(.int .i64 (m.kind)),(.int .i64 (m.whose))]) (ab rfl) rfl rfl rfl km sn rfl rfl rfl (by as_aux_lemma=>kernel_rfl) (λb24=>EN (AL 6 ?_));refine CQ ky (dX b4 (.slice none 0 0) ([]) (.slice (some ⟨b24,0,none⟩) (2) (2)) [m.kind,m.whose] (by simp)) (SM [2,1]) (dP 0 rfl rfl rfl rfl) λvR HR hR=>?_
 obtain⟨u1,rfl,rfl⟩:=hR;refine EN (AL 9 ?_);refine CR JO (tY b4 u1 (bf [m.kind,m.whose]) m.row (by(have:=aU [m.kind,m.whose]);simp only[BallotT.flat,ViewT.flat,ChangeT.flat,ax,aB,aA,ai]at*;omega)) ID λvR HR hR=>?_
 obtain⟨u2,rfl,rfl⟩:=hR;refine EN (DN (af (ac J3 (sr λ_ J8=>PS ?_))));refine CR nH (eG b4 u2 (bf [m.kind,m.whose]++im m.row) (by(have:=aU [m.kind,m.whose]);(have:=iW m.row);simp only[BallotT.flat,ViewT.flat,ChangeT.flat,ax,aB,aA,ai]at*;omega)) ID λvR HR hR=>?_
 obtain⟨_,rfl,rfl⟩:=hR;revert vR;intro u3;refine PS ?_;refine nx J8 (aj (WK [2] (av rfl rfl ?_)));exact⟨_,rfl,congrArg (λb=>[dZ u3 b 5]) (show(bf [m.kind,m.whose]++im m.row)=eO m by simp[eO,ee,fg,bf, *])⟩;refine PS ?_;refine nx J7 (CN (sr λ_ J9=>PS ?_));refine ap ?_ ?_<;>intro h30;refine PS ?_;refine nx J9 (CY (ad (PS ?_)));refine FA 0 eC aP ?_;refine LU 2 Y3 (k9 m rfl) ?_;refine FA 1 eC aP ?_;refine LU 2 Y3 (Hd m rfl) ?_;refine aV (cells:=#[(.int .i64 (m.kind)),(.int .i64 (m.whose))]) (ab rfl) rfl rfl rfl km sn rfl rfl rfl (by as_aux_lemma=>kernel_rfl) (λb36=>CQ ky (dX b4 (.slice none 0 0) ([]) (.slice (some ⟨b36,0,none⟩) (2) (2)) [m.kind,m.whose] (by simp)) (SM [2,1]) (dP 0 rfl rfl rfl rfl) λvR HR hR=>?_);obtain⟨u1,rfl,rfl⟩:=hR;refine aw (af (ac J3 (sr λ_ J10=>PS ?_)));refine CR nH (eG b4 u1 (bf [m.kind,m.whose]) (by(have:=aU [m.kind,m.whose]);simp only[BallotT.flat,ViewT.flat,ChangeT.flat,ax,aB,aA,ai]at*;omega)) ID λvR HR hR=>?_
 obtain⟨_,rfl,rfl⟩:=hR;revert vR;intro u2;refine PS ?_;refine nx J10 (aj (WK [2] (av rfl rfl ?_)));exact⟨_,rfl,congrArg (λb=>[dZ u2 b 5]) (show(bf [m.kind,m.whose])=eO m by simp[eO,ee,fg,bf, *])⟩;refine PS ?_;refine nx J9 (CN (sr λ_ J11=>PS ?_));refine ap ?_ ?_<;>intro h39;refine PS ?_;refine nx J11 (CY (D1 2 bl ?_));refine PD 0 ?_;refine FD 1 0 eC aP ?_;refine LR 2 Y3 (k9 m rfl) ?_;refine FD 3 176 eC aP ?_;refine LR 4 Y3 (RecT.at_epoch m rfl) ?_;refine FD 7 177 eC cA ?_;refine ta 8 rfl (aM (vs:=ints m.ballot.flat) rfl kO rfl cA rfl (λ_ h=>h.2.1) (ao m.ballot) (rm m 0 rfl (by decide) (bo (ao m.ballot)))) ?_;refine AL 5 ?_;refine aV (cells:=#[(.int .i64 (m.kind)),(.int .i64 (m.epoch))]) (ab rfl) rfl rfl rfl km sn rfl rfl rfl (by as_aux_lemma=>kernel_rfl) (λb45=>EN (AL 6 ?_));refine CQ ky (dX b4 (.slice none 0 0) ([]) (.slice (some ⟨b45,0,none⟩) (2) (2)) [m.kind,m.epoch] (by simp)) (SM [2,1]) (dP 0 rfl rfl rfl rfl) λvR HR hR=>?_
 obtain⟨u1,rfl,rfl⟩:=hR;refine EN (AL 9 ?_);refine CR zN (jU b4 u1 (bf [m.kind,m.epoch]) m.ballot (by(have:=aU [m.kind,m.epoch]);simp only[BallotT.flat,ViewT.flat,ChangeT.flat,ax,aB,aA,ai]at*;omega)) ID λvR HR hR=>?_
 obtain⟨u2,rfl,rfl⟩:=hR;refine EN (DN (af (ac J3 (sr λ_ J12=>PS ?_))));refine CR nH (eG b4 u2 (bf [m.kind,m.epoch]++bf m.ballot.flat) (by(have:=aU [m.kind,m.epoch]);(have:=aU (m.ballot.flat));simp only[BallotT.flat,ViewT.flat,ChangeT.flat,ax,aB,aA,ai]at*;omega)) ID λvR HR hR=>?_
 obtain⟨_,rfl,rfl⟩:=hR;revert vR;intro u3;refine PS ?_;refine nx J12 (aj (WK [2] (av rfl rfl ?_)));exact⟨_,rfl,congrArg (λb=>[dZ u3 b 5]) (show(bf [m.kind,m.epoch]++bf m.ballot.flat)=eO m by simp[eO,ee,fg,bf, *])⟩;refine PS ?_;refine nx J11 (CN (sr λ_ J13=>PS ?_));refine ap ?_ ?_<;>intro h51;refine PS ?_;refine nx J13 (CY (D1 2 bl ?_));refine PD 0 ?_;refine FD 1 0 eC aP ?_;refine LR 2 Y3 (k9 m rfl) ?_;refine FD 3 176 eC aP ?_;refine LR 4 Y3 (RecT.at_epoch m rfl) ?_;refine FD 7 177 eC cA ?_;refine ta 8 rfl (aM (vs:=ints m.ballot.flat) rfl kO rfl cA rfl (λ_ h=>h.2.1) (ao m.ballot) (rm m 0 rfl (by decide) (bo (ao m.ballot)))) ?_;refine FD 10 179 eC gf ?_;refine ta 11 rfl (aM (vs:=ints m.change.flat) rfl nP rfl gf rfl (λ_ h=>h.2.1) (aK m.change) (NZ m 0 rfl (by decide) (bo (aK m.change)))) ?_;refine AL 5 ?_;refine aV (cells:=#[(.int .i64 (m.kind)),(.int .i64 (m.epoch))]) (ab rfl) rfl rfl rfl km sn rfl rfl rfl (by as_aux_lemma=>kernel_rfl) (λb57=>EN (AL 6 ?_));refine CQ ky (dX b4 (.slice none 0 0) ([]) (.slice (some ⟨b57,0,none⟩) (2) (2)) [m.kind,m.epoch] (by simp)) (SM [2,1]) (dP 0 rfl rfl rfl rfl) λvR HR hR=>?_
 obtain⟨u1,rfl,rfl⟩:=hR;refine EN (AL 9 ?_);refine CR zN (jU b4 u1 (bf [m.kind,m.epoch]) m.ballot (by(have:=aU [m.kind,m.epoch]);simp only[BallotT.flat,ViewT.flat,ChangeT.flat,ax,aB,aA,ai]at*;omega)) ID λvR HR hR=>?_
 obtain⟨u2,rfl,rfl⟩:=hR;refine EN (AL 12 ?_);refine CR JN (pa b4 u2 (bf [m.kind,m.epoch]++bf m.ballot.flat) m.change (by(have:=aU [m.kind,m.epoch]);(have:=aU (m.ballot.flat));simp only[BallotT.flat,ViewT.flat,ChangeT.flat,ax,aB,aA,ai]at*;omega)) ID λvR HR hR=>?_
 obtain⟨u3,rfl,rfl⟩:=hR;refine EN (DN (af (ac J3 (sr λ_ J14=>PS ?_))));refine CR nH (eG b4 u3 (bf [m.kind,m.epoch]++bf m.ballot.flat++bf m.change.flat) (by(have:=aU [m.kind,m.epoch]);(have:=aU (m.ballot.flat));(have:=aU (m.change.flat));simp only[BallotT.flat,ViewT.flat,ChangeT.flat,ax,aB,aA,ai]at*;omega)) ID λvR HR hR=>?_
 obtain⟨_,rfl,rfl⟩:=hR;revert vR;intro u4;refine PS ?_;refine nx J14 (aj (WK [2] (av rfl rfl ?_)));exact⟨_,rfl,congrArg (λb=>[dZ u4 b 5]) (show(bf [m.kind,m.epoch]++bf m.ballot.flat++bf m.change.flat)=eO m by simp[eO,ee,fg,bf, *])⟩;refine PS ?_;refine nx J13 (CN (sr λ_ J15=>PS ?_));refine ap ?_ ?_<;>intro h66;refine PS ?_;refine nx J15 (CY (D1 2 bl ?_));refine PD 0 ?_;refine FD 1 0 eC aP ?_;refine LR 2 Y3 (k9 m rfl) ?_;refine FD 5 182 eC bi ?_;refine ta 6 rfl (aM (vs:=ints m.view.flat) rfl e6 rfl bi rfl (λ_ h=>h.2.1) (am m.view) (Q9 m 0 rfl (by decide) (bo (am m.view)))) ?_;refine AL 3 ?_;refine aV (cells:=#[(.int .i64 (m.kind))]) (ab rfl) rfl rfl rfl km sn rfl rfl rfl (by as_aux_lemma=>kernel_rfl) (λb70=>EN (AL 4 ?_));refine CQ ky (dX b4 (.slice none 0 0) ([]) (.slice (some ⟨b70,0,none⟩) (1) (1)) [m.kind] (by simp)) (SM [2,1]) (dP 0 rfl rfl rfl rfl) λvR HR hR=>?_
 obtain⟨u1,rfl,rfl⟩:=hR;refine EN (AL 7 ?_);refine CR JM (rO b4 u1 (bf [m.kind]) m.view (by(have:=aU [m.kind]);simp only[BallotT.flat,ViewT.flat,ChangeT.flat,ax,aB,aA,ai]at*;omega)) ID λvR HR hR=>?_
 obtain⟨u2,rfl,rfl⟩:=hR;refine EN (DN (af (ac J3 (sr λ_ J16=>PS ?_))));refine CR nH (eG b4 u2 (bf [m.kind]++bf m.view.flat) (by(have:=aU [m.kind]);(have:=aU (m.view.flat));simp only[BallotT.flat,ViewT.flat,ChangeT.flat,ax,aB,aA,ai]at*;omega)) ID λvR HR hR=>?_
 obtain⟨_,rfl,rfl⟩:=hR;revert vR;intro u3;refine PS ?_;refine nx J16 (aj (WK [2] (av rfl rfl ?_)));exact⟨_,rfl,congrArg (λb=>[dZ u3 b 5]) (show(bf [m.kind]++bf m.view.flat)=eO m by simp[eO,ee,fg,bf, *])⟩;refine PS ?_;refine nx J15 (CN (aS (af (ac J3 (sr λ_ J17=>PS ?_)))));refine CR nH (eG b4 (.slice none 0 0) ([]) (by simp)) (SM [1,0]) λvR HR hR=>?_
 obtain⟨_,rfl,rfl⟩:=hR;revert vR;intro u1;refine PS ?_;refine nx J17 (aj (WK [2] (av rfl rfl ?_)));exact⟨_,rfl,congrArg (λb=>[dZ u1 b 5]) (show([]:List UInt8)=eO m by simp[eO,ee,fg,bf, *])⟩
open Dsk Wal
theorem nd(who:Int)(hm:cI who=true):DT 15 #[.int .i64 who] T0 [] (dH (λr' H=>∃u,r'=u∧H=[own u 2 [.int .i64 ((who+1)%5), .int .i64 ((who+2)%5)] 3 1])):=by
 have:=qh who;rw[show ix who=[(who+1)%5,(who+2)%5]by rw[ix,if_pos hm]]at this;exact this
theorem Ff(r:Nat)(x:RepT)(op err val:Int)(rs:List ReplyT)(hrs:rs.length≤1000000):
 DT 54 #[(.pointer (some ⟨r,0,none⟩)),(.int .i64 (op)),(.int .i64 (err)),(.int .i64 (val))] T0 [ah r (RepT.cells x) 94,own x.replies ((rs).length) (ints (List.flatMap ReplyT.flat (rs))) 175 3] (dH (λ_ H=>∃v',v'.oneCell'=true∧H=[ah r (RepT.cells {x with replies:=v'}) 94,own v' (rs++[ReplyT.mk op err val]).length (ints (List.flatMap ReplyT.flat (rs++[ReplyT.mk op err val]))) 175 3])):=by
 refine BD 21 Tryz.func54 rfl rfl rfl λw0 F hF=>ad (P3 ?_)
 refine FA 1942 dq yr ?_;refine LT 0 KY x.replies ?_ (hc:=by exact RepT.at_replies x rfl);refine P3 ?_;refine tp (yX (cs:=ints (ReplyT.mk op err val).flat) (segs:=[[Value.int .i64 0],[Value.int .i64 0],[Value.int .i64 0]]) (res:=[[Value.int .i64 op],[Value.int .i64 err],[Value.int .i64 val]]) (parts:=[(0,[Value.int .i64 op]),(1,[Value.int .i64 err]),(2,[Value.int .i64 val])]) rfl rfl Tryz.underlying175 (by kernel_rfl) (by kernel_rfl) rfl (fG rfl rfl (fG rfl rfl (fG rfl rfl l5))) (ReplyT.eq (ReplyT.mk op err val)).symm) ?_;refine aV (cells:=(ints (ReplyT.mk op err val).flat).toArray) (ab rfl) rfl rfl rfl KY Aa rfl rfl rfl (m7 (ReplyT.len (ReplyT.mk op err val)) (by simp)) (λb17=>?_);change TL _ _ _ _ _ _ _ _ _ [ah b17 (ints (ReplyT.mk op err val).flat) 175,ah r (RepT.cells x) 94,own x.replies ((rs).length) (ints (List.flatMap ReplyT.flat (rs))) 175 3];refine cL (k:=2) (news:=ints (ReplyT.mk op err val).flat) (nn':=(rs++[ReplyT.mk op err val]).length) (xs':=ints (List.flatMap ReplyT.flat (rs++[ReplyT.mk op err val]))) (ab rfl) rfl rfl rfl KY Aa rfl rfl rfl rfl rfl rfl (λ_ _=>j7 (ReplyT.len _) (RO 0) (by rw[be,kG])) (bA _) (by simp only[maxLen];omega) (by omega) (by simp) (by simp[ints]) (λv18 ov18=>PS ?_);refine FA 1942 dq yr ?_;exact bO (i:=1) (ab rfl) rfl rfl rfl rfl ov18 yr rfl rfl (LB (cX _)) (RepT.set_replies x rfl _) rfl (aw (WK [1,1] (bw rfl ⟨_,ov18,rfl⟩)))
theorem Dh(r:Nat)(x:RepT)(key:Int):
 DT 20 #[(.pointer (some ⟨r,0,none⟩)),(.int .i64 (key))] T0 [ah r (RepT.cells x) 94] (RI (.int .i64 (ni x.book key)) [ah r (RepT.cells x) 94]):=by
 refine BD 10 Tryz.func20 rfl rfl rfl λw0 F hF=>sr λ_ J1=>PS ?_
 refine nx J1 (sr λ_ J2=>P2 ?_);refine FA 1068 dq AR ?_;refine PS ?_;refine CE OQ (qP r 1068 94 (λu=>RepT.cells {x with book:=u}) (fV x) x.book key) ID ?_;refine PS ?_;exact nx J2 (aj (WK [0] (av rfl rfl ⟨rfl,rfl⟩)))
theorem Bb(r:Nat)(x:RepT)(who key:Int):
 DT 19 #[(.pointer (some ⟨r,0,none⟩)),(.int .i64 (who)),(.int .i64 (key))] T0 [ah r (RepT.cells x) 94] (RI (.int .i64 (dG x.book who key)) [ah r (RepT.cells x) 94]):=by
 refine BD 13 Tryz.func19 rfl rfl rfl λw0 F hF=>sr λ_ J1=>PS ?_
 refine nx J1 (sr λ_ J2=>P2 ?_);refine FA 1068 dq AR ?_;refine P2 ?_;refine CE NE (mF r 1068 94 (λu=>RepT.cells {x with book:=u}) (fV x) x.book who key) ID ?_;refine PS ?_;exact nx J2 (aj (WK [0] (av rfl rfl ⟨rfl,rfl⟩)))
theorem HY(r:Nat)(x:RepT):
 DT 18 #[(.pointer (some ⟨r,0,none⟩))] T0 [ah r (RepT.cells x) 94] (RI (.agg (ints x.own.flat).toArray) [ah r (RepT.cells x) 94]):=by
 refine BD 7 Tryz.func18 rfl rfl rfl λw0 F hF=>sr λ_ J1=>XZ u6 (ints RowT.zero.flat) λb2=>?_
 refine nx J1 (sr λ_ J2=>P2 ?_);refine FA 9 dq aX ?_;refine LV 1 dT aX ag Et (y:=x.own) ?_;refine SW 0 aX ag ?_;refine nx J2 (aj (RC 0 [1] dT aX (ag _) ?_));exact⟨rfl,rfl⟩
theorem Fj(r:Nat)(x:RepT):
 DT 11 #[(.pointer (some ⟨r,0,none⟩))] T0 [ah r (RepT.cells x) 94] (RI (.agg (ints x.view.flat).toArray) [ah r (RepT.cells x) 94]):=by
 refine BD 7 Tryz.func11 rfl rfl rfl λw0 F hF=>sr λ_ J1=>XZ rN (ints ViewT.zero.flat) λb2=>?_
 refine nx J1 (sr λ_ J2=>P2 ?_);refine FA 2 dq bi ?_;refine LV 1 e6 bi am cW (y:=x.view) ?_;refine SW 0 bi am ?_;refine nx J2 (aj (RC 0 [1] e6 bi (am _) ?_));exact⟨rfl,rfl⟩
theorem xj(r:Nat)(x:RepT)(who:Int):
 DT 42 #[(.pointer (some ⟨r,0,none⟩)),(.int .i64 (who))] T0 [ah r (RepT.cells x) 94] (RI (.tuple #[.agg (ints (mirRow x.mirror who).flat).toArray, .bool (eS x.mirror who)]) [ah r (RepT.cells x) 94]):=by
 refine BD 16 Tryz.func42 rfl rfl rfl λw0 F hF=>sr λ_ J1=>XZ u6 (ints RowT.zero.flat) λb4=>?_
 refine PS ?_;refine nx J1 (aa λ_ J2=>D0 bl ?_);refine PD 0 ?_;refine PD 1 ?_;refine FD 2 183 dq uj ?_;refine PD 3 ?_;refine PD 5 ?_;refine PD 6 ?_;refine FD 7 183 dq uj ?_;refine PD 8 ?_;refine AL 4 ?_;refine CE JK (l9 r 183 94 (λu=>RepT.cells {x with mirror:=u}) (ei x) x.mirror who) (SM [1]) ?_;refine EN (AL 9 ?_);refine CE Nu (nJ r 183 94 (λu=>RepT.cells {x with mirror:=u}) (ei x) x.mirror who) ID ?_;refine EN (AL 10 ?_);refine SW 1 aX ag ?_;refine EN (PD 11 ?_);refine DN (ac J2 (aj (RT 1 [0] dT aX (ag _) ?_)));exact⟨rfl,rfl⟩
theorem A7(r:Nat)(x:RepT)(rs:List ReplyT)(hrs:rs.length≤1000000):
 DT 72 #[(.pointer (some ⟨r,0,none⟩))] T0 [ah r (RepT.cells x) 94,own x.replies ((rs).length) (ints (List.flatMap ReplyT.flat (rs))) 175 3] (dH (λr' H=>∃u,r'=u∧H=[ah r (RepT.cells x) 94,own x.replies rs.length (ints (List.flatMap ReplyT.flat rs)) 175 3,own u rs.length (ints (List.flatMap ReplyT.flat rs)) 175 3])):=by
 refine BD 8 Tryz.func72 rfl rfl rfl λw0 F hF=>sr λ_ J1=>PE 175 3 (λ_=>PS ?_)
 refine nx J1 (sr λ_ J2=>P2 ?_);refine FA 1942 dq yr ?_;refine LT 1 KY x.replies ?_ (hc:=by exact RepT.at_replies x rfl);refine cL (k:=0) (news:=ints (List.flatMap ReplyT.flat rs)) (nn':=rs.length) (xs':=ints (List.flatMap ReplyT.flat rs)) (ab rfl) rfl rfl rfl KY Aa rfl rfl rfl rfl rfl rfl (λ_ s=>Rr 2 rfl rfl s) (bA _) (by simp only[maxLen];omega) (by omega) (by simp) (by simp) (λv7 ov7=>PS ?_);exact nx J2 (aj (WK [1,1,0] (av rfl rfl ⟨_,rfl,rfl⟩)))
end Go.Proofs.YtmcjhkbcmmddgaaGreat
end

section
namespace Api
open Go Leg Codec Dsk Wal
def gz(w:Int)(x:RowT):RecT:= {RecT.zero with kind:=1,whose:=w,row:=x}
def jX(w:Int):RecT:= {RecT.zero with kind:=2,whose:=w}
def kK(v:ViewT):RecT:= {RecT.zero with kind:=5,view:=v}
def pB(v:Int):MsgT:= {MsgT.zero with kind:=1,version:=v}
def eR(w:Int)(x:RowT):MsgT:= {MsgT.zero with kind:=9,whose:=w,row:=x}
section
variable {x:RepT} {from' w:Int} {y:RowT} {recs:List (List UInt8)}
end
section
variable {x:RepT} {from' w:Int} {v:ViewT} {recs:List (List UInt8)}
end
end Api
end

section
namespace Go.Proofs.YtmcjhkbcmmddgaaGreat
open Go Leg Codec Api Dsk Wal
theorem H5(r:Nat)(x:RepT)(o:OpT):
 DT 53 #[(.pointer (some ⟨r,0,none⟩)),(.agg (ints o.flat).toArray)] T0 [ah r (RepT.cells x) 94] (RI (.tuple #[.agg (ints (kx x o).1.flat).toArray, .int .i64 (kx x o).2.1, .int .i64 (kx x o).2.2]) [ah r (RepT.cells x) 94]):=by
 refine BD 121 Tryz.func53 rfl rfl rfl λw0 F hF=>sr λ_ J1=>XY (ints o.flat) λb3=>?_
 refine XZ u6 (ints RowT.zero.flat) λb4=>?_
 refine P2 ?_;refine nx J1 (aa λ_ J2=>aa λ_ J3=>D1 2 bl ?_);refine PD 0 ?_;refine PD 1 ?_;refine FD 2 2 dq bi ?_;refine ta 3 rfl (aM (vs:=ints x.view.flat) rfl e6 rfl bi rfl (λ_ h=>h.2.1) (am x.view) (gB x 0 rfl (by decide) (bo (am x.view)))) ?_;refine PD 4 ?_;refine PD 5 ?_;refine FD 6 0 dq aP ?_;refine LR 7 Y3 (cH x rfl) ?_;refine AL 8 ?_;refine CE pY (dC x.view x.id) ID ?_;refine bb ?_ ?_<;>intro h17;refine EN (PD 9 ?_);refine DN (ac J3 (CN (qx J2 (aa λ_ J4=>sr λ_ J5=>FA 3 fP aP ?_))));refine LU 1 Y3 (qa o rfl) ?_;refine PS ?_;refine ap ?_ ?_<;>intro h22;have hkb:m5 o.key=false:=decide_eq_false (by omega);refine PS ?_
 iterate 3 refine UT ?_
 refine PS ?_;refine nx J5 (CY (sr λ_ J6=>BV ((ints RowT.zero.flat).toArray) ?_));refine SW 0 aX ag ?_;refine P2 ?_;refine nx J6 (aj (ae (RU 0 [2] dT aX (ag _) ?_)));exact⟨by simp[kx,fL, *],rfl⟩;refine PS ?_;refine FA 3 fP aP ?_;refine LU 1 Y3 (qa o rfl) ?_;refine PS ?_;refine ap ?_ ?_<;>intro h26;have hkb:m5 o.key=false:=decide_eq_false (by omega);refine PS ?_;refine nx J5 (CY (sr λ_ J7=>BV ((ints RowT.zero.flat).toArray) ?_));refine SW 0 aX ag ?_;refine P2 ?_;refine nx J7 (aj (ae (RU 0 [2] dT aX (ag _) ?_)));exact⟨by simp[kx,fL, *],rfl⟩;have hkb:m5 o.key=true:=decide_eq_true (by omega);refine PS ?_;refine nx J5 (CN (qx J4 (aa λ_ J8=>sr λ_ J9=>FA 0 fP aP ?_)));refine LU 1 Y3 (di o rfl) ?_;refine PS ?_;refine ap ?_ ?_<;>intro h31;refine nx J9 (CY (aa λ_ J10=>D1 1 bl ?_));refine ta 0 rfl (kF (cells:=(ints RowT.zero.flat).toArray) rfl rfl (by as_aux_lemma=>kernel_rfl)) ?_;refine PD 1 ?_;refine PD 2 ?_;refine FD 3 1068 dq AR ?_;refine FD 4 3 fP aP ?_;refine LR 5 Y3 (qa o rfl) ?_;refine AL 6 ?_;refine CE OQ (qP r 1068 94 (λu=>RepT.cells {x with book:=u}) (fV x) x.book o.key) (SM [2]) ?_;refine EN (AL 7 ?_);refine SW 1 aX ag ?_;refine EN (PD 8 ?_);refine PD 9 ?_;refine DN (ac J10 (aj (ae (RU 1 [0] dT aX (ag _) ?_))));exact⟨by simp[kx,fL, *],rfl⟩;refine nx J9 (CN (qx J8 (aa λ_ J11=>sr λ_ J12=>P2 ?_)));refine FA 1938 dq lE ?_;refine LU 2 Y4 (yT x rfl) ?_;refine bb ?_ ?_<;>intro h42
 refine nx J12 (CY (sr λ_ J13=>BV ((ints RowT.zero.flat).toArray) ?_));refine SW 0 aX ag ?_;refine P2 ?_;refine nx J13 (aj (ae (RU 0 [2] dT aX (ag _) ?_)));exact⟨by simp[kx,fL, *],rfl⟩;refine nx J12 (CN (qx J11 (sr λ_ J14=>XZ u6 (ints RowT.zero.flat) λb7=>?_)));refine nx J14 (sr λ_ J15=>PS ?_);refine nx J15 (aa λ_ J16=>sr λ_ J17=>FA 0 fP aP ?_);refine LU 2 Y3 (di o rfl) ?_;refine nx J17 (aq (sr λ_ J18=>PS ?_));refine ap ?_ ?_<;>intro h47;refine PS ?_;refine nx J18 (CY (D2 3 2 bl ?_));refine PD 0 ?_;refine PD 1 ?_;refine FD 2 9 dq aX ?_;refine ta 3 rfl (aM (vs:=ints x.own.flat) rfl dT rfl aX rfl (λ_ h=>h.2.1) (ag x.own) (yR x 0 rfl (by decide) (bo (ag x.own)))) ?_;refine FD 4 3 fP aP ?_;refine LR 5 Y3 (qa o rfl) ?_;refine FD 6 4 fP aP ?_;refine LR 7 Y3 (yg o rfl) ?_;refine AL 8 ?_;refine CE Qx (Da x.own o.key o.n) ID ?_;refine EN (PD 9 ?_);refine PD 10 ?_;refine PD 11 ?_;refine AL 12 ?_;refine SW 0 aX ag ?_;refine EN (PD 13 ?_);refine DN (af (ac J16 (aa λ_ J19=>sr λ_ J20=>P2 ?_)));refine ap ?_ ?_<;>intro h98;refine nx J20 (CY (sr λ_ J21=>BV ((ints RowT.zero.flat).toArray) ?_));refine PS ?_;refine SW 1 aX ag ?_;refine P2 ?_;refine nx J21 (aj (ae (RU 1 [3] dT aX (ag _) ?_)));exact⟨by simp[kx,fL, *],rfl⟩;refine nx J20 (CN (qx J19 (aa λ_ J22=>aa λ_ J23=>D2 2 3 bl ?_)));refine FD 0 0 fP aP ?_;refine LR 1 Y3 (di o rfl) ?_;refine PD 2 ?_;refine gS ?_ ?_<;>intro h103
 · exact absurd h47 h103
 refine PD 3 ?_;refine NT 4 ?_;refine NT 5 ?_;refine NT 6 ?_;refine NT 7 ?_;refine NT 8 ?_;refine NT 9 ?_;refine NT 10 ?_;refine NT 11 ?_;refine NT 12 ?_;refine NT 13 ?_;refine NT 14 ?_;refine NT 15 ?_;refine NT 16 ?_;refine PD 17 ?_;refine DN (ac J23 (CN (qx J22 (sr λ_ J24=>LW 0 dT aX ag ?_))));refine SW 1 aX ag ?_;refine P2 ?_;refine nx J24 (aj (RU 1 [3] dT aX (ag _) ?_));exact⟨by simp[kx,fL, *],rfl⟩;refine PS ?_;refine nx J18 (CN (sr λ_ J25=>PS ?_));refine ap ?_ ?_<;>intro h61;refine PS ?_;refine nx J25 (CY (D2 3 2 bl ?_));refine PD 0 ?_;refine PD 1 ?_;refine FD 2 9 dq aX ?_;refine ta 3 rfl (aM (vs:=ints x.own.flat) rfl dT rfl aX rfl (λ_ h=>h.2.1) (ag x.own) (yR x 0 rfl (by decide) (bo (ag x.own)))) ?_;refine FD 4 3 fP aP ?_;refine LR 5 Y3 (qa o rfl) ?_;refine FD 6 4 fP aP ?_;refine LR 7 Y3 (yg o rfl) ?_;refine AL 8 ?_;refine CE Qw (Db x.own o.key o.n) ID ?_;refine EN (PD 9 ?_);refine PD 10 ?_;refine PD 11 ?_;refine AL 12 ?_;refine SW 0 aX ag ?_;refine EN (PD 13 ?_);refine DN (af (ac J16 (aa λ_ J26=>sr λ_ J27=>P2 ?_)));refine ap ?_ ?_<;>intro h98;refine nx J27 (CY (sr λ_ J28=>BV ((ints RowT.zero.flat).toArray) ?_));refine PS ?_;refine SW 1 aX ag ?_;refine P2 ?_;refine nx J28 (aj (ae (RU 1 [3] dT aX (ag _) ?_)));exact⟨by simp[kx,fL, *],rfl⟩;refine nx J27 (CN (qx J26 (aa λ_ J29=>aa λ_ J30=>D2 2 3 bl ?_)));refine FD 0 0 fP aP ?_;refine LR 1 Y3 (di o rfl) ?_;refine PD 2 ?_;refine gS ?_ ?_<;>intro h103;refine PD 3 ?_
 refine PD 4 ?_;refine PD 5 ?_;refine FD 6 1068 dq AR ?_;refine PD 7 ?_;refine PD 8 ?_;refine FD 9 0 dq aP ?_;refine LR 10 Y3 (cH x rfl) ?_;refine FD 11 3 fP aP ?_;refine LR 12 Y3 (qa o rfl) ?_;refine FD 14 4 fP aP ?_;refine LR 15 Y3 (yg o rfl) ?_;refine AL 13 ?_;refine CE NE (mF r 1068 94 (λu=>RepT.cells {x with book:=u}) (fV x) x.book x.id o.key) (SM [3]) ?_;refine EN (PD 16 ?_);refine gS ?_ ?_<;>intro h117;refine PD 17 ?_;refine DN (ac J30 (CY (sr λ_ J31=>BV ((ints RowT.zero.flat).toArray) ?_)));refine SW 2 aX ag ?_;refine P2 ?_;refine nx J31 (aj (ae (RU 2 [0] dT aX (ag _) ?_)));exact⟨by simp[kx,fL, *],rfl⟩;refine PD 17 ?_;refine DN (ac J30 (CN (qx J29 (sr λ_ J32=>LW 1 dT aX ag ?_))));refine SW 2 aX ag ?_;refine P2 ?_;refine nx J32 (aj (RU 2 [0] dT aX (ag _) ?_));exact⟨by simp[kx,fL, *],rfl⟩
 · exact absurd h47 h103
 refine PS ?_;refine nx J25 (CN (sr λ_ J33=>PS ?_));refine ap ?_ ?_<;>intro h75;refine PS ?_;refine nx J33 (CY (aa λ_ J34=>D2 2 3 bl ?_));refine FD 0 2 fP aP ?_;refine LR 1 Y3 (ji o rfl) ?_;refine PD 2 ?_;refine PD 3 ?_;refine FD 4 0 dq aP ?_;refine LR 5 Y3 (cH x rfl) ?_;refine PD 6 ?_;refine gS ?_ ?_<;>intro h82;refine DN (ac J34 (CY (D2 3 2 bl ?_)));refine PD 0 ?_;refine PD 1 ?_;refine FD 2 9 dq aX ?_;refine ta 3 rfl (aM (vs:=ints x.own.flat) rfl dT rfl aX rfl (λ_ h=>h.2.1) (ag x.own) (yR x 0 rfl (by decide) (bo (ag x.own)))) ?_;refine FD 4 3 fP aP ?_;refine LR 5 Y3 (qa o rfl) ?_;refine FD 6 4 fP aP ?_;refine LR 7 Y3 (yg o rfl) ?_;refine FD 8 2 fP aP ?_;refine LR 9 Y3 (ji o rfl) ?_;refine AL 10 ?_;refine CE Qv (A5 x.own o.key o.n o.to') ID ?_;refine EN (PD 11 ?_);refine PD 12 ?_;refine PD 13 ?_;refine AL 14 ?_;refine SW 0 aX ag ?_;refine EN (PD 15 ?_);refine DN (af (ac J16 (aa λ_ J35=>sr λ_ J36=>P2 ?_)));refine ap ?_ ?_<;>intro h98;refine nx J36 (CY (sr λ_ J37=>BV ((ints RowT.zero.flat).toArray) ?_));refine PS ?_;refine SW 1 aX ag ?_;refine P2 ?_;refine nx J37 (aj (ae (RU 1 [3] dT aX (ag _) ?_)));exact⟨by simp[kx,fL, *],rfl⟩;refine nx J36 (CN (qx J35 (aa λ_ J38=>aa λ_ J39=>D2 2 3 bl ?_)));refine FD 0 0 fP aP ?_;refine LR 1 Y3 (di o rfl) ?_;refine PD 2 ?_;refine gS ?_ ?_<;>intro h103;refine PD 3 ?_;refine PD 4 ?_;refine PD 5 ?_;refine FD 6 1068 dq AR ?_;refine PD 7 ?_;refine PD 8 ?_;refine FD 9 0 dq aP ?_
 refine LR 10 Y3 (cH x rfl) ?_;refine FD 11 3 fP aP ?_;refine LR 12 Y3 (qa o rfl) ?_;refine FD 14 4 fP aP ?_;refine LR 15 Y3 (yg o rfl) ?_;refine AL 13 ?_;refine CE NE (mF r 1068 94 (λu=>RepT.cells {x with book:=u}) (fV x) x.book x.id o.key) (SM [3]) ?_;refine EN (PD 16 ?_);refine gS ?_ ?_<;>intro h117;refine PD 17 ?_;refine DN (ac J39 (CY (sr λ_ J40=>BV ((ints RowT.zero.flat).toArray) ?_)));refine SW 2 aX ag ?_;refine P2 ?_;refine nx J40 (aj (ae (RU 2 [0] dT aX (ag _) ?_)));exact⟨by simp[kx,fL, *],rfl⟩;refine PD 17 ?_;refine DN (ac J39 (CN (qx J38 (sr λ_ J41=>LW 1 dT aX ag ?_))));refine SW 2 aX ag ?_;refine P2 ?_;refine nx J41 (aj (RU 2 [0] dT aX (ag _) ?_));exact⟨by simp[kx,fL, *],rfl⟩
 · exact absurd h47 h103
 refine DN (ac J34 (CN (aS (af (ac J16 (aa λ_ J42=>sr λ_ J43=>P2 ?_))))));refine nx J43 (CY (sr λ_ J44=>BV ((ints RowT.zero.flat).toArray) ?_));refine PS ?_;refine SW 1 aX ag ?_;refine P2 ?_;refine nx J44 (aj (ae (RU 1 [3] dT aX (ag _) ?_)));exact⟨by simp[kx,fL, *],rfl⟩;refine PS ?_;refine nx J33 (CN (aS (af (ac J16 (aa λ_ J45=>sr λ_ J46=>P2 ?_)))));refine nx J46 (CY (sr λ_ J47=>BV ((ints RowT.zero.flat).toArray) ?_));refine PS ?_;refine SW 1 aX ag ?_;refine P2 ?_;refine nx J47 (aj (ae (RU 1 [3] dT aX (ag _) ?_)));exact⟨by simp[kx,fL, *],rfl⟩;refine EN (PD 9 ?_);refine DN (ac J3 (CY (sr λ_ J48=>BV ((ints RowT.zero.flat).toArray) ?_)));refine SW 0 aX ag ?_;refine P2 ?_;refine nx J48 (aj (ae (RU 0 [2] dT aX (ag _) ?_)));exact⟨by simp[kx,fL, *],rfl⟩
theorem FI(x:Value)(l:List Int)(v:Int)(hl:l.length≤1000000):
    DT 154 #[x,(.int .i64 (v))] (IsI .i64 x l) [] (dH (λr' H=>∃n:Int,r'= .int .i64 n∧(decide (n≥0)=true↔v∈l)∧H=[])):=by
 refine BD 19 Tryz.func154 rfl rfl rfl λw0 F hF=>sr λ_ J1=>PS ?_
 refine nx J1 (aa λ_ J2=>sr λ_ J3=>PS ?_);refine tp (eA rfl km rfl hF.len) ?_;refine PS ?_;refine nx J3 (aq ?_)
 refine bD (α:=(Nat)) (λk=>k≤l.length∧∀(j:Nat),j<k→l.getD j 0≠v) (λk=>[(0,x),(1,(.int .i64 (v))),(7,(.int .i64 (((l.length:Nat):Int)))),(8,(.int .i64 (((k:Nat):Int))))]) (λk=>[]) (λk=>l.length-k) 0
     ⟨aO _,λj h=>absurd h (by omega)⟩ SB
     (λ_ s=>s) (λk hinv=>?_)
 obtain⟨hk,hv⟩:=hinv;refine sr λ_ J4=>PS ?_
 refine ap ?_ ?_<;>intro h9;obtain⟨b_a,off_a,cap_a,cs_a,T_a,z_a,hv_a,hb_a,hcs_a,hcp_a⟩:=IsI.at hF (j:=k) (by omega);refine nx J4 (aa λ_ J5=>CY (qx J5 (aa λ_ J6=>aq (sr λ_ J7=>P2 ?_))));refine nx J7 (sr λ_ J8=>P3 ?_);refine tp (bT (r:=off_a+k) hv_a rfl km aP rfl rfl (by omega) (by omega) (by omega)) ?_;refine tp (cZ (v:=(.int .i64 ((l.getD k 0)))) rfl Y3 rfl rfl (KK hb_a (λ_ h=>fE h)) hcs_a) ?_;refine PS ?_;refine ap ?_ ?_<;>intro h16;refine nx J8 (CY (sr λ_ J9=>P2 ?_));refine nx J9 (aj (aJ (ae (ae (aJ (ae (WK [] (av rfl rfl ?_))))))));exact⟨((k:Nat):Int),rfl,by rw[decide_eq_true_iff];exact⟨λ_=>by rw[h16,List.getD_eq_getElem?_getD,List.getElem?_eq_getElem (by omega)];exact fc _,λ_=>by omega⟩,rfl⟩;refine nx J8 (CN (aS (af (ac J6 (ad (AD ?_))))));refine PS ?_;refine aw ?_
 exact aL ((k+1):(Nat)) ⟨by omega,λj hj=>by
        by_cases q:j=k
        · subst q;exact λe=>h16 e.symm
        · exact hv j (by omega)⟩ (by show l.length- (k+1)<l.length-k;omega)
   SB
   (λ_ s=>s)
 refine nx J4 (aa λ_ J10=>CN (bh (aC (aC (bC (ac J2 (sr λ_ J11=>PS ?_)))))));refine nx J11 (aj (WK [] (av rfl rfl ?_)))
 exact⟨-1,rfl,by
      rw[decide_eq_true_iff];constructor
      · intro h;omega
      · intro h
        obtain⟨j,hj,e⟩:=gJ h;have:=hv j (by omega);rw[List.getD_eq_getElem?_getD,List.getElem?_eq_getElem hj]at this
        exact absurd e this,rfl⟩
theorem rH(x:Value)(l:List Int)(v:Int)(hl:l.length≤1000000):
 DT 134 #[x,(.int .i64 (v))] (IsI .i64 x l) [] (RI (.bool (decide (v∈l))) []):=by
 refine BD 9 Tryz.func134 rfl rfl rfl λw0 F hF=>sr λ_ J1=>PS ?_
 refine nx J1 (sr λ_ J2=>P2 ?_);refine CQ O5 (FI x l v hl) ID (λ_ d _=>IsI.more hF d) λvR HR hR=>?_
 obtain⟨n,rfl,hn,rfl⟩:=hR;refine P2 ?_;refine nx J2 (aj (WK [] (av rfl rfl ?_)));exact⟨congrArg Value.bool (by rw[Ax,hn,decide_eq_true_iff]),rfl⟩
end Go.Proofs.YtmcjhkbcmmddgaaGreat
end

section
namespace Api
open Go Leg Codec
theorem xJ: ∀(a b:List CellT),a.length=b.length→bI a=bI b→a=b
 | [],[],_,_=>rfl
 | [],_::_,h,_=>by cases h
 |_::_,[],h,_=>by cases h
 |x::a,y::b,h,e=>by
  simp only[bI,db]at e;obtain⟨h1,h2⟩:=List.append_inj e (by simp[CellT.flat]);rw[Ix h1,xJ a b (by simpa using h) h2]
theorem Iw{v w:Vector CellT 4}(h:bI v.toList=bI w.toList):v=w:=Vector.toList_inj.1 (xJ _ _ (by simp) h)
theorem y6{n:Int}(h:(Lit.int .i64 n).wf=true): -9223372036854775808≤n∧n<9223372036854775808:=by
 have m1:IntKind.i64.min= -9223372036854775808:=by decide
 have m2:IntKind.i64.max=9223372036854775807:=by decide
 simp only[Lit.wf,m1,m2,an,decide_eq_true_eq]at h;omega
theorem En: ∀(l:List Int) (s:Int),(oA l s).2=0→∀n∈l,Do n=true
 | [],_,_,n,hn=>by cases hn
 |a::l,s,h,n,hn=>by
  rw[oA]at h
  by_cases h1:Do a=true
  · rw[if_pos h1]at h
    by_cases h2:a>1099511627776-s
    · rw[if_pos h2]at h;cases h
    · rw[if_neg h2]at h
      rcases cn.1 hn with rfl|hn
      · exact h1
      · exact En l _ h n hn
  · rw[if_neg h1]at h;cases h
theorem uG{n:Int}(h:Do n=true):rM n:=by
 have:0≤n∧n≤1099511627776:=of_decide_eq_true h;exact⟨this.1,by omega⟩
theorem TameC.of{c:CellT}(h:KU c=true):TameC c:=by
 unfold KU at h;rw[an,an,decide_eq_true_iff]at h;refine⟨uG h.1.1,uG h.1.2,λj hj=>uG (En _ _ h.2 _ ?_)⟩;rw[←Vector.getElem_toList (h:=by simpa using hj)];exact fc _
theorem zM{v:Vector CellT 4}(h:yz v=true)(k:Nat)(hk:k<4):TameC v[k]:=TameC.of (of_decide_eq_true h k hk)
theorem TameR.of{x:RowT}(hw:WF x.flat)(h:fy x=true):TameR x:=by
 unfold fy at h;rw[an,an,decide_eq_true_iff,decide_eq_true_iff]at h;obtain⟨⟨h1,h2⟩,h3⟩:=h
 have hh: ∀(j:Nat) (hj:j<5),(0:Int)≤x.heir[j]∧yz x.left[j]=true∧(x.heir[j]=(0:Int)→bI x.left[j].toList=bI RowT.zero.left[0].toList):=λj hj=>by
  have:=h3 j hj;unfold Bt at this;rw[an,an,decide_eq_true_iff,decide_eq_true_iff]at this;exact⟨this.1.1,this.1.2,this.2⟩
 refine⟨⟨h1,(y6 (hw _ (by simp[RowT.flat]))).2⟩,λk hk=>zM h2 k hk,λj hj=>⟨(hh j hj).1,(y6 (hw _ ?_)).2⟩,λj k hj hk=>zM (hh j hj).2.1 k hk,λj hj e=>Iw ((hh j hj).2.2 e)⟩;have:x.heir[j]∈x.heir.toList:=by rw[←Vector.getElem_toList (h:=by simpa using hj)];exact fc _
 simp[RowT.flat,this]
theorem sI{n:Int}{l:List Int}(h:0≤n∧n<9223372036854775808)(hl:WF l):WF (n::l):=λm hm=>by
 rcases cn.1 hm with rfl|hm
 · exact sH h
 · exact hl m hm
theorem mz{a b:List Int}(ha:WF a)(hb:WF b):WF (a++b):=λm hm=>by
 rcases eY.1 hm with hm|hm
 · exact ha m hm
 · exact hb m hm
theorem I9:WF []:=λ_ h=>by cases h
theorem OkB.wf{b:BallotT}(h:OkB b):WF b.flat:=sI h.1 (sI ⟨h.2.1,by have:=h.2.2;omega⟩ I9)
theorem OkC.wf{c:ChangeT}(h:OkC c):WF c.flat:=sI ⟨h.1.1,by have:=h.1.2;omega⟩ (sI ⟨h.2.1.1,by have:=h.2.1.2;omega⟩ (sI ⟨h.2.2.1,by have:=h.2.2.2;omega⟩ I9))
theorem wl:Nm 0:=⟨by decide,by decide⟩
theorem OkB.zero:OkB .zero:=⟨wl,by decide,by decide⟩
theorem OkC.zero:OkC .zero:=⟨by decide,by decide,by decide⟩
theorem OkV.zero:OkV .zero:=⟨wl,by decide,λi h=>by have:=Rng.zero i h;omega⟩
theorem IF{m:MsgT}(h:OkM m):cQ (tu m)=cQ m:=by
 have hk:=h.kind;unfold tu;split
 · rename_i c;simp only[cQ,c,if_true]
 split
 · rename_i c0 c;simp only[cQ,if_neg c0,if_pos c]
 split
 · rename_i c0 c1 c;simp only[cQ,if_neg c0,if_neg c1,if_pos c]
 split
 · rename_i c0 c1 c2 c;simp only[cQ,if_neg c0,if_neg c1,if_neg c2,if_pos c]
 split
 · rename_i c0 c1 c2 c3 c;simp only[cQ,if_neg c0,if_neg c1,if_neg c2,if_neg c3,if_pos c]
 split
 · rename_i c0 c1 c2 c3 c4 c;simp only[cQ,if_neg c0,if_neg c1,if_neg c2,if_neg c3,if_neg c4,if_pos c]
 · rename_i c0 c1 c2 c3 c4 c5;simp only[cQ,if_neg c0,if_neg c1,if_neg c2,if_neg c3,if_neg c4,if_neg c5]
theorem Md{m:MsgT}(h:OkM m)(ho:EA m=true):cD (cQ (tu m))=some ((tu m,true),[]):=by
 have:=L3 h [];rw[ho,aW]at this;rw[IF h];exact this
theorem Ks{m:MsgT}(h:OkM m)(ho:EA m=true):ju (cQ (tu m))=(tu m,0):=by unfold ju;rw[Md h ho]
theorem tJ(m:MsgT):(cQ m).length≤3000:=by
 have h1:=iW m.row;have h2:=aU m.ballot.flat;have h3:=aU m.had.flat;have h4:=aU m.change.flat;have h5:=aU m.view.flat;have h6:=aU [m.kind,m.whose];have h7:=aU [m.kind,m.version];have h8:=aU [m.kind,m.epoch];have h9:=aU [m.kind];simp only[BallotT.flat,ChangeT.flat,ViewT.flat,ax,aB,aA]at h2 h3 h4 h5 h6 h7 h8 h9;unfold cQ;split
 · simp only[ai];omega
 split
 · omega
 split
 · simp only[ai,BallotT.flat];omega
 split
 · simp only[ai,BallotT.flat,ChangeT.flat];omega
 split
 · simp only[ai,BallotT.flat,ChangeT.flat];omega
 split
 · simp only[ai,ViewT.flat];omega
 split
 · simp only[ai,ViewT.flat];omega
 · simp
theorem IC{m:RecT}(h:OkRc m):eO (pQ m)=eO m:=by
 have hk:=h.kind;unfold pQ;split
 · rename_i c;simp only[eO,if_pos c]
 split
 · rename_i c0 c;simp only[eO,if_neg c0,if_pos c]
 split
 · rename_i c0 c1 c;simp only[eO,if_neg c0,if_neg c1,if_pos c]
 split
 · rename_i c0 c1 c2 c;simp only[eO,if_neg c0,if_neg c1,if_neg c2,if_pos c]
 split
 · rename_i c0 c1 c2 c3 c;simp only[eO,if_neg c0,if_neg c1,if_neg c2,if_neg c3,if_pos c]
 · rename_i c0 c1 c2 c3 c4;simp only[eO,if_neg c0,if_neg c1,if_neg c2,if_neg c3,if_neg c4]
theorem Kq{m:RecT}(h:OkRc m)(ho:xq m=true):io (eO (pQ m))=(pQ m,0):=by
 have:=LF h [];rw[ho,aW]at this;unfold io;rw[IC h,this]
theorem Dd:fy RowT.zero=true:=by decide+kernel
theorem Lz{m:RecT}{bs r:List UInt8}(h:dy bs=some ((m,true),r)):fy m.row=true:=by
 obtain⟨k,r1,_,h⟩:=bk h;split at h
 · obtain⟨_,_,_,h⟩:=bk h
   obtain⟨e,_⟩:=gj h;injection e with e1 e2;subst e1;exact e2
 split at h
 · obtain⟨_,_,_,h⟩:=bk h
   obtain⟨_,_,_,h⟩:=bk h;obtain⟨e,_⟩:=gj h;injection e with e1 e2;subst e1;exact e2
 have fin: ∀{m':RecT} {g:Bool} {b r:List UInt8},pr (m',g) b=some ((m,true),r)→m'.row= .zero→fy m.row=true:=λh e=>by
  obtain⟨e',_⟩:=gj h;injection e' with e1 e2;subst e1;rw[e];exact Dd
 split at h
 · obtain⟨_,_,_,h⟩:=bk h;exact fin h rfl
 split at h
 · obtain⟨_,_,_,h⟩:=bk h;obtain⟨_,_,_,h⟩:=bk h;exact fin h rfl
 split at h
 · obtain⟨_,_,_,h⟩:=bk h;obtain⟨_,_,_,h⟩:=bk h;obtain⟨_,_,_,h⟩:=bk h;exact fin h rfl
 split at h
 · obtain⟨_,_,_,h⟩:=bk h;exact fin h rfl
 · exact fin h rfl
theorem Kr(bs:List UInt8):(∃m,io bs=(m,0)∧bs=eO m∧fy m.row=true∧WF m.row.flat)∨io bs=(.zero,1):=by
 unfold io;split
 · rename_i m h
   obtain⟨h1,_,_,_,h5⟩:=Df h;rw[aW]at h1;exact .inl ⟨m,rfl,h1,Lz h,h5.wf⟩
 · exact .inr rfl
end Api
end

section
namespace Go.Proofs.YtmcjhkbcmmddgaaGreat
open Go Leg Codec Api
theorem xg(ob:Nat)(ok:Bool):DoesD Tryz.prog 116 #[(.pointer (some ⟨ob,0,none⟩))] (.returning) (λ_=>True) [ah ob [(.bool (ok))] 4] (λe u' H=>e= .returned (.tuple #[])∧settle u'= .returning∧H=[ah ob [.bool ok] 4]):=by
 refine DoesD.recover2 (vs:=[(.pointer (some ⟨ob,0,none⟩))]) (n:=15) (u':= .returning) (rv:= .nilIface) Tryz.func116 rfl rfl rfl rfl rfl rfl rfl rfl rfl rfl rfl (λc0 cs hu=>by cases c0;simp only at hu;subst hu;rfl) (λw0 F c0 cs hF=>?_);refine aa (λK1 hK1=>?_);refine aa (λK2 hK2=>?_);refine ad ?_;refine ml (ab rfl) rfl rfl (kn rfl rfl) ?_;refine ml (ab rfl) rfl rfl (PV.nilNil rfl Tryz.underlying20 rfl) ?_;refine aw ?_;refine ac hK2 ?_;clear hK2;refine nZ rfl ?_;refine aj ?_;refine ae ?_;clear hK1;refine aF (dV _) (λ_ s=>ak [0] rfl s) ?_;refine TE.retS0 rfl ?_;refine⟨rfl,rfl,?_⟩;rfl
theorem Ba(ob:Nat)(ok:Bool):DoesD Tryz.prog 116 #[(.pointer (some ⟨ob,0,none⟩))] (.panicking iV) (λ_=>True) [ah ob [(.bool (ok))] 4] (λe u' H=>e= .returned (.tuple #[])∧settle u'= .returning∧H=[ah ob [.bool false] 4]):=by
 refine DoesD.recover2 (vs:=[(.pointer (some ⟨ob,0,none⟩))]) (n:=15) (u':= .panicking [{v:=(.iface 199 (.agg #[])),recovered:=true}]) (rv:=(.iface 199 (.agg #[]))) Tryz.func116 rfl rfl rfl rfl rfl rfl rfl rfl rfl rfl rfl (λc0 cs hu=>by cases c0;simp only at hu;subst hu;rfl) (λw0 F c0 cs hF=>?_);refine aa (λK1 hK1=>?_);refine aa (λK2 hK2=>?_);refine ad ?_;refine ml (ab rfl) rfl rfl (kn rfl rfl) ?_;refine ml (ab rfl) rfl rfl (PV.ifaceNil rfl Tryz.underlying20 rfl) ?_;refine aw ?_;refine ac hK2 ?_;clear hK2;refine Ha rfl ?_;refine aS ?_;refine ac hK1 ?_;clear hK1;refine aa (λK3 hK3=>?_);refine aa (λK4 hK4=>?_);refine ad ?_;refine ml (ab rfl) rfl rfl (kn rfl rfl) ?_;refine ml (ab rfl) rfl rfl (PV.assert rfl IS rfl rfl) ?_;refine ml (ab rfl) rfl rfl (kn rfl rfl) ?_;refine ml (ab rfl) rfl rfl (iy (vs:=[.agg #[], .bool true]) rfl rfl rfl) ?_;refine ml (ab rfl) rfl rfl (iy (vs:=[.agg #[], .bool true]) rfl rfl rfl) ?_;refine qU (ab rfl) rfl rfl rfl Qc (λb2=>?_);change TL _ _ _ _ _ _ _ _ _ [ah b2 [] 199,ah ob [(.bool (ok))] 4];refine bL (vs:=[]) (i:=0) (H':=[ah b2 [] 199,ah ob [(.bool (ok))] 4]) (ab rfl) rfl rfl rfl rfl rfl Om (by simp[Value.oneCell']) rfl rfl (L5 rfl) rfl rfl ?_;refine ml (ab rfl) rfl rfl (Rn rfl rfl) ?_;refine aw ?_;refine ac hK4 ?_;clear hK4;refine aa (λK5 hK5=>?_);refine ad ?_;refine ml (ab rfl) rfl rfl (kn rfl rfl) ?_;refine ml (ab rfl) rfl rfl (nc (r:=false) rfl rfl rfl) ?_;refine aw ?_
 refine ac hK5 ?_;clear hK5;refine Ha rfl ?_;refine aS ?_;refine ac hK3 ?_;clear hK3;refine ad ?_;refine bO (i:=1) (H':=[ah b2 [] 199,ah ob [(.bool false)] 4]) (ab rfl) rfl rfl rfl rfl rfl lE rfl rfl (lb rfl) rfl rfl ?_;refine aw ?_;refine aF (dV _) (λ_ s=>ak [1] rfl s) ?_;refine TE.endS0 rfl ?_;refine⟨rfl,rfl,?_⟩;exact rfl
theorem HU{fid:Nat}{caps:List Value}{x:Value}{bs:List UInt8}{C G:HP}{A:List UInt8→HP}{R:Hl→Prop}(hR: ∀F,R F→IsB x bs F)(hmono: ∀F g,R F→Dj g F→R (jn g F))(hN:Named Tryz.prog fid)
 (hc: ∀rb,DT fid ([Value.pointer (some ⟨rb,0,none⟩)]++caps).toArray R [ah rb [x] 197,C] (vY (λ_ H=>∃x' r,H=[ah rb [x'] 197,A r]∧Tail x bs x' r) (λc H=>c=iV∧∃x',H=[ah rb [x'] 197,G]))):
 DT 83 #[x, .func (.func fid) #[] caps.toArray] R [C] (dH (λv H=>(∃r,v= .bool (decide (r=[]))∧H=[A r])∨(v= .bool false∧H=[G]))):=by
 refine Leg.Does.bodyD (vs:=[x, .func (.func fid) #[] caps.toArray]) (n:=21) Tryz.func83 rfl rfl rfl (λw0 F hF=>sr λ_ J1=>XA z4 λb4=>?_);refine nx J1 (sr λ_ J2=>PS ?_);refine tp (PV.buildOne rfl BW Qd rfl ow rfl (hR _ hF).one) ?_;refine XB λb8=>?_
 refine PS ?_;refine nx J2 (sr λ_ J3=>tp (Rj rfl rfl) ?_);refine TL.deferFn (ab rfl) rfl rfl rfl (nx J3 (aa λ_ J4=>sr λ_ J5=>PS ?_));refine tp (PV.funcNeqNil rfl Tryz.underlying169 rfl) ?_;refine nx J5 (CY (ad (P2 ?_)));refine TL.callPv (ab rfl) rfl rfl rfl rfl hN rfl (hc b8) (λ_ s=>az [0,1] rfl s) (N0 hmono hF) (λcP HP hP=>?_) (λvR HR hR'=>?_);obtain⟨rfl,x',rfl⟩:=hP;refine ay ?_;intro a w fr sm m;refine sh (b:=b4) (e:=4) (A:=[ah b4 [(.bool false)] 4]) (B:=[ah b8 [x'] 197,G]) (H':=[G]) fr sm m (by simp) JU (Ba b4 _) (λ_ s=>az [2] rfl s) (λ_ _ _=>trivial) rfl rfl Y4 rfl (λH1 h1=>?_);subst h1;refine⟨[.bool false], .bool false,fD 0 rfl rfl,rfl,λ_ s=>ak [2] rfl s,?_⟩;exact .inr ⟨rfl,rfl⟩;obtain⟨x',r,rfl,htl⟩:=hR';have hB:=htl F (hR _ hF);rcases hB with⟨rfl,rfl⟩| ⟨b,off,cap,cs,T,z,rfl,hB1,hB2,hB3,hB4⟩
 refine nx J4 (sr λ_ J6=>P2 ?_);refine FA 0 BW ow ?_;refine LA 0 ia ?_;refine tp (tV rfl ia rfl) ?_;refine PS ?_;refine S0 2 lE ?_;refine nx J6 (aj ?_);intro a w fr sm m;refine sh (b:=b4) (e:=4) (A:=[ah b4 [(.bool true)] 4]) (B:=[ah b8 [(.slice none 0 0)] 197,(A [])]) (H':=[(A [])]) fr sm m (by simp) JU (xg b4 _) (λ_ s=>az [2] rfl s) (λ_ _ _=>trivial) rfl rfl Y4 rfl (λH1 h1=>?_);subst h1;refine⟨[.bool true], .bool true,fD 0 rfl rfl,rfl,λ_ s=>ak [2] rfl s,?_⟩;exact .inl ⟨[],rfl,rfl⟩;refine nx J4 (sr λ_ J7=>P2 ?_);refine FA 0 BW ow ?_;refine LA 0 ia ?_;refine tp (tV rfl ia rfl) ?_;refine PS ?_;refine S0 2 lE ?_;refine nx J7 (aj ?_);intro a w fr sm m;refine sh (b:=b4) (e:=4) (A:=[ah b4 [(.bool (decide (((r.length:Nat):Int)=0)))] 4]) (B:=[ah b8 [(.slice (some ⟨b,off,none⟩) (r.length) (cap))] 197,(A r)]) (H':=[(A r)]) fr sm m (by simp) JU (xg b4 _) (λ_ s=>az [2] rfl s) (λ_ _ _=>trivial) rfl rfl Y4 rfl (λH1 h1=>?_);subst h1;refine⟨[.bool (decide (((r.length:Nat):Int)=0))], .bool (decide (((r.length:Nat):Int)=0)),fD 0 rfl rfl,rfl,λ_ s=>ak [2] rfl s,?_⟩;exact .inl ⟨r,by congr 1;rw[decide_eq_decide];cases r<;>simp<;>omega,rfl⟩
theorem zv{fid:Nat}{caps:List Value}{x:Value}{bs:List UInt8}{α β:Type}{C:List HP}{A:α→List HP}{G:β→List HP}{φ:α→List UInt8→Prop}{ψ:β→Prop}{R:Hl→Prop}(hR: ∀F,R F→IsB x bs F)(hmono: ∀F g,R F→Dj g F→R (jn g F))(hN:Named Tryz.prog fid)
 (hc: ∀rb,DT fid ([Value.pointer (some ⟨rb,0,none⟩)]++caps).toArray R (ah rb [x] 197::C) (vY (λ_ H=>∃x' r a,H=ah rb [x'] 197::A a∧Tail x bs x' r∧φ a r) (λc H=>c=iV∧∃x' b,H=ah rb [x'] 197::G b∧ψ b))):
 DT 83 #[x, .func (.func fid) #[] caps.toArray] R C (dH (λv H=>(∃r a,v= .bool (decide (r=[]))∧H=A a∧φ a r)∨(∃b,v= .bool false∧H=G b∧ψ b))):=by
 have h1:=HU (C:=all C) (G:=λh=>∃b,ψ b∧bz (G b) h) (A:=λr h=>∃a,φ a r∧bz (A a) h) hR hmono hN λrb=>
  (hc rb).conv (post':=vY (λ_ H=>∃x' r,H=[ah rb [x'] 197,λh=>∃a,φ a r∧bz (A a) h]∧Tail x bs x' r) (λc H=>c=iV∧∃x',H=[ah rb [x'] 197,λh=>∃b,ψ b∧bz (G b) h]))
   (λh s=>w3 s λ_=>Ms)
   (λe H F w hp m=>by
    cases e with
    |returned v=>
     obtain⟨x',r,a,rfl,ht,hf⟩:=hp;exact⟨[ah rb [x'] 197,λh=>∃a,φ a r∧bz (A a) h],m.mono λh s=>w3 s λh s=>rW ⟨a,hf,s⟩,x',r,rfl,ht⟩
    |panicked c=>
     obtain⟨hc,x',b,rfl,hf⟩:=hp;exact⟨[ah rb [x'] 197,λh=>∃b,ψ b∧bz (G b) h],m.mono λh s=>w3 s λh s=>rW ⟨b,hf,s⟩,hc,x',rfl⟩
    |outgrown=>exact hp.elim)
 refine h1.conv (λh s=>Lu s) λe H F w hp m=>?_
 cases e with
 |returned v=>
  rcases hp with⟨r,hv,rfl⟩| ⟨hv,rfl⟩
  · obtain⟨h,d,e,g1,g2,d',rfl,⟨a,hf,s⟩,_⟩:=m
    exact⟨A a,⟨_,d,e,lY _ s d'⟩, .inl ⟨r,a,hv,rfl,hf⟩⟩
  · obtain⟨h,d,e,g1,g2,d',rfl,⟨b,hf,s⟩,_⟩:=m
    exact⟨G b,⟨_,d,e,lY _ s d'⟩, .inr ⟨b,hv,rfl,hf⟩⟩
 |panicked c=>exact hp.elim
 |outgrown=>exact hp.elim
end Go.Proofs.YtmcjhkbcmmddgaaGreat
end
