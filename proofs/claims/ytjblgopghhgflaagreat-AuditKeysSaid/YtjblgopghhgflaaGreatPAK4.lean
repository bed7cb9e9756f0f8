/-
  Joined texts:what a statement's proof reaches.
-/
import Derived.Test.YtjblgopghhgflaaGreatPAK3
set_option maxHeartbeats 8000000
set_option maxRecDepth 100000
set_option linter.unusedSimpArgs false
set_option linter.unusedVariables false
section
namespace Go.Proofs.YtjblgopghhgflaaGreat
open Go Leg Codec Api Dsk Wal
theorem FE(x:Value)(ps:List (List UInt8)):
 DT 128 #[x] (Ol x ps) [] (RI (.int .u32 (gd ps.flatten)) []):=by
 refine BD 39 Tryz.func128 rfl rfl rfl λw0 F hF=>sr λ_ J1=>PS ?_
 refine nx J1 (sr λ_ J2=>PS ?_);refine nx J2 (aa λ_ J3=>sr λ_ J4=>PS ?_);refine tp (eh rfl vq rfl hF.len) ?_;refine PS ?_;refine nx J4 (aq ?_)
 refine bw (α:=(Nat)) (λk=>k≤ps.length) (λk=>[(2,(.int .u32 0)),(3,(.int .u32 (fy 4294967295 (ps.take k).flatten))),(8,x),(9,(.int .i64 (((ps.length:Nat):Int)))),(10,(.int .i64 (((k:Nat):Int))))]) (λk=>[]) (λk=>ps.length-k) 0
  (aN _) SB
  (λ_ s=>s) (λk hinv=>?_)
 obtain hk:=hinv;refine sr λ_ J5=>PS ?_
 refine ao ?_ ?_<;>intro h11;obtain⟨b_a,off_a,cap_a,cs_a,T_a,z_a,us_a,hv_a,hc_a,hb_a,hl_a,hs_a,hE_a⟩:=IsL.at hF (j:=k) (by omega);obtain⟨u_a,rfl,hu_a⟩:=hE_a;refine nx J5 (aa λ_ J6=>CY (qx J6 (aa λ_ J7=>aq (sr λ_ J8=>tp (bU (r:=off_a+k) hv_a rfl vq nS rfl rfl (by omega) (by omega) (by omega)) ?_))));refine tp (di (v:=u_a) rfl gO rfl rfl (Dz hb_a (λ_ h=>fu h)) (by have:=BJ (j:=0) hs_a rfl;simpa using this)) ?_;refine PS ?_;refine nx J8 (sr λ_ J9=>PS ?_);refine tp (eh rfl gO rfl hu_a.len) ?_;refine PS ?_;refine nx J9 (aq ?_)
 refine bw (α:=(Nat)) (λj=>j≤ps[k].length) (λj=>[(2,(.int .u32 0)),(3,(.int .u32 (fy (fy 4294967295 (ps.take k).flatten) (ps[k].take j)))),(8,x),(9,(.int .i64 (((ps.length:Nat):Int)))),(10,(.int .i64 (((k:Nat):Int)))),(14,u_a),(15,(.int .i64 (((ps[k].length:Nat):Int)))),(16,(.int .i64 (((j:Nat):Int))))]) (λj=>[]) (λj=>ps[k].length-j) 0
  (aN _) SB
  (λ_ s=>s) (λj hinv=>?_)
 obtain hj:=hinv;refine sr λ_ J10=>PS ?_
 refine ao ?_ ?_<;>intro h17;obtain⟨b_b,off_b,cap_b,cs_b,T_b,z_b,hv_b,hb_b,hcs_b,hcp_b⟩:=IsW.at hu_a (j:=j) (by omega);have hlt_b:=IsW.lt hu_a;refine nx J10 (aa λ_ J11=>CY (qx J11 (aa λ_ J12=>aq (sr λ_ J13=>tp (bU (r:=off_b+j) hv_b rfl gO lB rfl rfl (by omega) (by omega) (by omega)) ?_))));refine tp (di (v:=(.int .u8 (((((ps[k]).getD j 0).toNat:Nat):Int)))) rfl Y5 rfl rfl (Dz hb_b (λ_ h=>fu h)) (hcs_b j (by omega))) ?_;refine PS ?_;refine nx J13 (sr λ_ J14=>P2 ?_);refine tp (eB (r:=((((ps[k]).getD j 0).toNat:Nat):Int)) rfl Y5 Bi rfl (kB (by omega) (by have:=(ps[k].getD j 0).toNat_lt;omega))) ?_;refine tp (PV.xor (r:=pG .u32 (fy (fy 4294967295 (ps.take k).flatten) (ps[k].take j)) (((((ps[k]).getD j 0).toNat:Nat):Int))) rfl rfl rfl rfl) ?_;refine PS ?_;refine nx J14 (sr λ_ J15=>PS ?_);refine nx J15 (aq ?_)
 refine bw (α:=(Nat)) (λi=>i≤8) (λi=>[(2,(.int .u32 0)),(3,(.int .u32 (mO (pG .u32 (fy (fy 4294967295 (ps.take k).flatten) (ps[k].take j)) ((((ps[k]).getD j 0).toNat:Nat):Int)) i))),(8,x),(9,(.int .i64 (((ps.length:Nat):Int)))),(10,(.int .i64 (((k:Nat):Int)))),(14,u_a),(15,(.int .i64 (((ps[k].length:Nat):Int)))),(16,(.int .i64 (((j:Nat):Int)))),(24,(.int .i64 (((i:Nat):Int))))]) (λi=>[]) (λi=>8-i) 0
  (aN _) SB
  (λ_ s=>s) (λi hinv=>?_)
 obtain hi:=hinv;refine sr λ_ J16=>PS ?_
 refine ao ?_ ?_<;>intro h25;refine nx J16 (aa λ_ J17=>CY (qx J17 (aa λ_ J18=>aq (sr λ_ J19=>PS ?_))));refine tp (tt (r:=tl .u32 (mO (pG .u32 (fy (fy 4294967295 (ps.take k).flatten) (ps[k].take j)) ((((ps[k]).getD j 0).toNat:Nat):Int)) i) 1) rfl rfl rfl rfl) ?_;refine PS ?_;refine ao ?_ ?_<;>intro h28;refine nx J19 (CY (ae (PS ?_)));refine tp (l8 (r:=(mO (pG .u32 (fy (fy 4294967295 (ps.take k).flatten) (ps[k].take j)) ((((ps[k]).getD j 0).toNat:Nat):Int)) i).fdiv 2) rfl rfl rfl (by omega) rfl) ?_;refine tp (PV.xor (r:=pG .u32 ((mO (pG .u32 (fy (fy 4294967295 (ps.take k).flatten) (ps[k].take j)) ((((ps[k]).getD j 0).toNat:Nat):Int)) i).fdiv 2) 3988292384) rfl rfl rfl rfl) ?_;refine PS ?_;refine au (ag (ac J18 (ae (AD ?_))));refine PS ?_;refine au ?_
 exact aK ((i+1):(Nat)) (by omega) (by show 8- (i+1)<8-i;omega)
  (aT (bz rfl (congrArg (Value.int .u32) (by rw[mO,EY,if_pos h28])) SB))
  (λ_ s=>s)
 refine nx J19 (CN (ae (PS ?_)));refine tp (l8 (r:=(mO (pG .u32 (fy (fy 4294967295 (ps.take k).flatten) (ps[k].take j)) ((((ps[k]).getD j 0).toNat:Nat):Int)) i).fdiv 2) rfl rfl rfl (by omega) rfl) ?_;refine PS ?_;refine au (ag (ac J18 (ae (AD ?_))));refine PS ?_;refine au ?_
 exact aK ((i+1):(Nat)) (by omega) (by show 8- (i+1)<8-i;omega)
  (aT (bz rfl (congrArg (Value.int .u32) (by rw[mO,EY,if_neg h28])) SB))
  (λ_ s=>s)
 refine nx J16 (aa λ_ J20=>CN (aX (aA (aA (br (ag (ac J12 (ae (AD ?_)))))))));refine PS ?_;refine au ?_
 exact aK ((j+1):(Nat)) (by omega) (by show ps[k].length- (j+1)<ps[k].length-j;omega)
  (aT (bz rfl (congrArg (Value.int .u32) (by obtain rfl:i=8:=(by omega);rw[C7 (by omega)];rfl)) SB))
  (λ_ s=>s)
 refine nx J10 (aa λ_ J21=>CN (aX (aA (aA (br (ag (ac J7 (ae (AD ?_)))))))));refine PS ?_;refine au ?_
 exact aK ((k+1):(Nat)) (by omega) (by show ps.length- (k+1)<ps.length-k;omega)
  (aT (bz rfl (congrArg (Value.int .u32) (by rw[show j=ps[k].length by omega,iA,C8 (by omega)])) SB))
  (λ_ s=>s)
 refine nx J5 (aa λ_ J22=>CN (aX (aA (aA (br (ac J3 (sr λ_ J23=>PS ?_)))))));refine tp (PV.com (r:=pG .u32 4294967295 (fy 4294967295 (ps.take k).flatten)) rfl rfl rfl) ?_;refine PS ?_;refine nx J23 (ai (WK [] (av rfl rfl ?_)));obtain rfl:k=ps.length:=by omega
 rw[iA];exact⟨rfl,rfl⟩
theorem uB(x:Value)(bs:List UInt8)(hb:bs.length≤1000000000):
 DT 90 #[x] (IsW x bs) [] (dz (λv H=>H=[dW v (pu bs) 5])):=by
 refine BD 29 Tryz.func90 rfl rfl rfl λw0 F hF=>sr λ_ J1=>PS ?_
 refine nx J1 (sr λ_ J2=>PS ?_);refine aW (cells:=#[x]) (ab rfl) rfl rfl rfl vq Hc rfl rfl rfl (s9 hF.one (by simp)) (λb6=>CF Ll (FE (.slice (some ⟨b6,0,none⟩) (1) (1)) [bs]) ID (Cz hF 0 rfl rfl) ?_);rw[show [bs].flatten=bs by simp];refine PS ?_;refine nx J2 (sr λ_ J3=>PS ?_);refine tp (eh rfl gO rfl hF.len) ?_;refine AD ?_;refine TL.makeB (0) (bs.length+4) (ab rfl) rfl rfl rfl gO zv rfl rfl rfl (by omega) (by omega) (by omega) (λb11=>cA (H':=[dW (.slice (some ⟨b11,0,none⟩) 0 (bs.length+4)) ([]) 5,ak b6 [x] 93]) (λ_ s=>Fx 0 rfl rfl (by omega) (by simp only[maxLen];omega) (by simp[ej]) rfl s) (PS ?_));refine nx J3 (sr λ_ J4=>P2 ?_);refine cL (k:=0) (news:=ej (bs)) (nn':=(bs:List UInt8).length) (xs':=ej (bs)) (ab rfl) rfl rfl rfl gO zv rfl rfl rfl rfl rfl rfl (λ_ _=>hF.src (λ_ h=>fu h)) (eY _) (by simp only[maxLen,aD];omega) (by simp only[aD];omega) (by simp) (bO _) (λv14 ov14=>PS ?_);refine nx J4 (sr λ_ J5=>P2 ?_);refine tp (eB (r:=(((r8 (gd bs)).toNat:Nat):Int)) rfl Bi Y5 rfl (r8_wrap _)) ?_;refine PS ?_;refine tp (l8 (r:=(gd bs).fdiv 256) rfl rfl rfl (by omega) rfl) ?_;refine tp (eB (r:=(((r8 ((gd bs).fdiv 256)).toNat:Nat):Int)) rfl Bi Y5 rfl (r8_wrap _)) ?_;refine PS ?_;refine tp (l8 (r:=(gd bs).fdiv 65536) rfl rfl rfl (by omega) rfl) ?_;refine tp (eB (r:=(((r8 ((gd bs).fdiv 65536)).toNat:Nat):Int)) rfl Bi Y5 rfl (r8_wrap _)) ?_;refine PS ?_
 refine tp (l8 (r:=(gd bs).fdiv 16777216) rfl rfl rfl (by omega) rfl) ?_;refine tp (eB (r:=(((r8 ((gd bs).fdiv 16777216)).toNat:Nat):Int)) rfl Bi Y5 rfl (r8_wrap _)) ?_;refine aW (cells:=#[(.int .u8 ((((r8 (gd bs)).toNat:Nat):Int))),(.int .u8 ((((r8 ((gd bs).fdiv 256)).toNat:Nat):Int))),(.int .u8 ((((r8 ((gd bs).fdiv 65536)).toNat:Nat):Int))),(.int .u8 ((((r8 ((gd bs).fdiv 16777216)).toNat:Nat):Int)))]) (ab rfl) rfl rfl rfl gO zv rfl rfl rfl (by as_aux_lemma=>kernel_rfl) (λb27=>cL (k:=1) (news:=ej ([(r8 (gd bs)),(r8 ((gd bs).fdiv 256)),(r8 ((gd bs).fdiv 65536)),(r8 ((gd bs).fdiv 16777216))])) (nn':=(bs++[(r8 (gd bs)),(r8 ((gd bs).fdiv 256)),(r8 ((gd bs).fdiv 65536)),(r8 ((gd bs).fdiv 16777216))]:List UInt8).length) (xs':=ej (bs++[(r8 (gd bs)),(r8 ((gd bs).fdiv 256)),(r8 ((gd bs).fdiv 65536)),(r8 ((gd bs).fdiv 16777216))])) (ab rfl) rfl rfl rfl gO zv rfl rfl rfl rfl rfl rfl (λ_ _=>jK rfl (RO 0) rfl) (eY [(r8 (gd bs)),(r8 ((gd bs).fdiv 256)),(r8 ((gd bs).fdiv 65536)),(r8 ((gd bs).fdiv 16777216))]) (by simp only[maxLen];omega) (by omega) (by simp) (ji _ _).symm (λv28 ov28=>PS ?_));exact nx J5 (ai (WK [1] (av rfl rfl rfl)))
theorem Gi(a:Option Addr)(c:Nat)(bs:List UInt8)(hc:bs.length≤c)(hb:bs.length≤1000000000):
 DT 167 #[(.slice a bs.length c)] (IsW (.slice a bs.length c) bs) [] (dz (λv H=>(mr bs=none∧v= .tuple #[.slice none 0 0, .bool false]∧H=[])∨∃t u,mr bs=some t∧v= .tuple #[u, .bool true]∧H=[dW u t 5])):=by
 refine BD 50 Tryz.func167 rfl rfl rfl λw0 F hF=>sr λ_ J1=>P2 ?_
 refine nx J1 (aa λ_ J2=>sr λ_ J3=>PS ?_);refine tp (eh rfl gO rfl ⟨_,_,rfl⟩) ?_;refine PS ?_;refine ao ?_ ?_<;>intro h9;refine nx J3 (CY (sr λ_ J4=>P2 ?_));refine nx J4 (ai (af (WK [] (iP rfl rfl rfl ?_))));exact .inl ⟨by rw[mr,if_pos (by omega)],rfl,rfl⟩;have hT:IsW (j5 (.slice a bs.length c) 0 (bs.length-4)) (bs.take (bs.length-4)) F:=by have:=hF.cut (lo:=0) (hi:=bs.length-4) (by omega) (by omega);simpa using this
 have hU:IsW (j5 (.slice a bs.length c) (bs.length-4) bs.length) (bs.drop (bs.length-4)) F:=by have:=hF.cut (lo:=bs.length-4) (hi:=bs.length) (by omega) (by omega);rwa [iA]at this
 have hq:(bs.drop (bs.length-4)).length=4:=by rw[eb];omega
 obtain⟨b_b,off_b,cap_b,cs_b,T_b,z_b,hv_b,hb_b,hcs_b,hcp_b⟩:=IsW.at hU (j:=0) (by omega);have hlt_b:=IsW.lt hU;refine nx J3 (CN (qx J2 (aa λ_ J5=>D0 dN ?_)));refine PD 0 ?_;refine PD 1 ?_;refine ta 2 rfl (eh rfl gO rfl ⟨_,_,rfl⟩) ?_;refine ta 3 rfl (jd (r:=(((bs.length-4:Nat):Nat):Int)) rfl rfl rfl (by rw[show(((bs.length:Nat):Int)-4)=((bs.length-4:Nat):Int)by omega];exact bV (by omega) (by omega))) ?_;refine ta 4 rfl (PV.sliceH (hi:=bs.length-4) rfl gO lB rfl rfl rfl (by omega)) ?_;refine PD 5 ?_;refine PD 6 ?_;refine ta 7 rfl (eh rfl gO rfl ⟨_,_,rfl⟩) ?_;refine ta 8 rfl (jd (r:=(((bs.length-4:Nat):Nat):Int)) rfl rfl rfl (by rw[show(((bs.length:Nat):Int)-4)=((bs.length-4:Nat):Int)by omega];exact bV (by omega) (by omega))) ?_;refine ta 9 rfl (PV.sliceL (lo:=bs.length-4) rfl gO lB rfl rfl rfl (by omega)) ?_;refine PD 10 ?_;refine PD 11 ?_;refine DN (ac J5 (aa λ_ J6=>D0 dN ?_));refine PD 0 ?_;refine ta 1 rfl (bU (r:=off_b) hv_b rfl gO lB rfl rfl (by omega) (by omega) (by omega)) ?_;refine ta 2 rfl (di (v:=(.int .u8 ((((((bs.drop (bs.length-4))).getD 0 0).toNat:Nat):Int)))) rfl Y5 rfl rfl (Dz hb_b (λ_ h=>h.1)) (hcs_b 0 (by omega))) ?_;refine ta 3 rfl (eB (r:=(((((bs.drop (bs.length-4))).getD 0 0).toNat:Nat):Int)) rfl Y5 Bi rfl (kB (by omega) (by have:=UInt8.toNat_lt (n:=(bs.drop (bs.length-4)).getD 0 0);omega))) ?_;refine PD 4 ?_
 refine ta 5 rfl (bU (r:=off_b+1) hv_b rfl gO lB rfl rfl (by omega) (by omega) (by omega)) ?_;refine ta 6 rfl (di (v:=(.int .u8 ((((((bs.drop (bs.length-4))).getD 1 0).toNat:Nat):Int)))) rfl Y5 rfl rfl (Dz hb_b (λ_ h=>h.1)) (hcs_b 1 (by omega))) ?_;refine ta 7 rfl (eB (r:=(((((bs.drop (bs.length-4))).getD 1 0).toNat:Nat):Int)) rfl Y5 Bi rfl (kB (by omega) (by have:=UInt8.toNat_lt (n:=(bs.drop (bs.length-4)).getD 1 0);omega))) ?_;refine ta 8 rfl (yI (r:=IntKind.u32.wrap ((((((bs.drop (bs.length-4))).getD 1 0).toNat:Nat):Int)*2^8)) rfl rfl rfl (by omega) rfl) ?_;refine ta 9 rfl (Jo (r:=iS .u32 (((((bs.drop (bs.length-4))).getD 0 0).toNat:Nat):Int) (IntKind.u32.wrap ((((((bs.drop (bs.length-4))).getD 1 0).toNat:Nat):Int)*2^8))) rfl rfl rfl rfl) ?_;refine PD 10 ?_;refine ta 11 rfl (bU (r:=off_b+2) hv_b rfl gO lB rfl rfl (by omega) (by omega) (by omega)) ?_;refine ta 12 rfl (di (v:=(.int .u8 ((((((bs.drop (bs.length-4))).getD 2 0).toNat:Nat):Int)))) rfl Y5 rfl rfl (Dz hb_b (λ_ h=>h.1)) (hcs_b 2 (by omega))) ?_;refine ta 13 rfl (eB (r:=(((((bs.drop (bs.length-4))).getD 2 0).toNat:Nat):Int)) rfl Y5 Bi rfl (kB (by omega) (by have:=UInt8.toNat_lt (n:=(bs.drop (bs.length-4)).getD 2 0);omega))) ?_;refine ta 14 rfl (yI (r:=IntKind.u32.wrap ((((((bs.drop (bs.length-4))).getD 2 0).toNat:Nat):Int)*2^16)) rfl rfl rfl (by omega) rfl) ?_
 refine ta 15 rfl (Jo (r:=iS .u32 (iS .u32 (((((bs.drop (bs.length-4))).getD 0 0).toNat:Nat):Int) (IntKind.u32.wrap ((((((bs.drop (bs.length-4))).getD 1 0).toNat:Nat):Int)*2^8))) (IntKind.u32.wrap ((((((bs.drop (bs.length-4))).getD 2 0).toNat:Nat):Int)*2^16))) rfl rfl rfl rfl) ?_;refine PD 16 ?_;refine ta 17 rfl (bU (r:=off_b+3) hv_b rfl gO lB rfl rfl (by omega) (by omega) (by omega)) ?_;refine ta 18 rfl (di (v:=(.int .u8 ((((((bs.drop (bs.length-4))).getD 3 0).toNat:Nat):Int)))) rfl Y5 rfl rfl (Dz hb_b (λ_ h=>h.1)) (hcs_b 3 (by omega))) ?_;refine ta 19 rfl (eB (r:=(((((bs.drop (bs.length-4))).getD 3 0).toNat:Nat):Int)) rfl Y5 Bi rfl (kB (by omega) (by have:=UInt8.toNat_lt (n:=(bs.drop (bs.length-4)).getD 3 0);omega))) ?_;refine ta 20 rfl (yI (r:=IntKind.u32.wrap ((((((bs.drop (bs.length-4))).getD 3 0).toNat:Nat):Int)*2^24)) rfl rfl rfl (by omega) rfl) ?_;refine ta 21 rfl (Jo (r:=IQ ((bs.drop (bs.length-4)).getD 0 0) ((bs.drop (bs.length-4)).getD 1 0) ((bs.drop (bs.length-4)).getD 2 0) ((bs.drop (bs.length-4)).getD 3 0)) rfl rfl rfl rfl) ?_;refine PD 22 ?_;refine DN (ac J6 (aa λ_ J7=>sr λ_ J8=>PS ?_));refine aW (cells:=#[(j5 (.slice a bs.length c) 0 (bs.length-4))]) (ab rfl) rfl rfl rfl vq Hc rfl rfl rfl (s9 hT.one (by simp)) (λb43=>CF Ll (FE (.slice (some ⟨b43,0,none⟩) (1) (1)) [(bs.take (bs.length-4))]) ID (Cz hT 0 rfl rfl) ?_)
 rw[show [(bs.take (bs.length-4))].flatten=(bs.take (bs.length-4))by simp];refine P2 ?_;refine ao ?_ ?_<;>intro h46;refine nx J8 (CY (sr λ_ J9=>P2 ?_));refine nx J9 (ai (af (WK [] (iP rfl rfl rfl ?_))));exact .inl ⟨by rw[mr,if_neg (by omega),if_neg h46],rfl,rfl⟩;refine nx J8 (CN (qx J7 (sr λ_ J10=>Dr (ab rfl) rfl rfl rfl gO lB (λv47=>PS ?_))));refine cL (k:=0) (news:=ej ((bs.take (bs.length-4)))) (nn':=((bs.take (bs.length-4)):List UInt8).length) (xs':=ej ((bs.take (bs.length-4)))) (ab rfl) rfl rfl rfl gO zv rfl rfl rfl rfl rfl rfl (λ_ _=>hT.src (λ_ h=>fu h)) (eY _) (by simp only[maxLen,aD,bo];omega) (by simp only[aD,bo];omega) (by simp) (bO _) (λv49 ov49=>P2 ?_);refine nx J10 (ai (WK [0] (iP rfl rfl rfl ?_)));exact .inr ⟨_,_,by rw[mr,if_neg (by omega),if_pos (by simpa using h46)],rfl,rfl⟩
theorem yX(x:Value)(bs:List UInt8)(hb:bs.length≤1000000000):DT 167 #[x] (IsW x bs) [] (dz (λv H=>(mr bs=none∧v= .tuple #[.slice none 0 0, .bool false]∧H=[])∨∃t u,mr bs=some t∧v= .tuple #[u, .bool true]∧H=[dW u t 5])):=λw G h m=>by
 obtain⟨a,c,rfl,hc,_⟩:=h.form;exact Gi a c bs hc hb w G h m
theorem uN(n:Nat)(hn:n≤1000000000000):
 DT 176 #[(.int .i64 (((n:Nat):Int)))] T0 [] (RI (.int .i64 ((aZ n:Nat):Int)) []):=by
 refine BD 9 Tryz.func176 rfl rfl rfl λw0 F hF=>sr λ_ J1=>PS ?_
 refine nx J1 (aa λ_ J2=>sr λ_ J3=>P2 ?_);refine ao ?_ ?_<;>intro h4;refine nx J3 (CY (sr λ_ J4=>PS ?_));refine nx J4 (ai (af (WK [] (av rfl rfl ?_))));obtain rfl:n=0:=by omega
 exact⟨rfl,rfl⟩;refine nx J3 (CN (qx J2 (sr λ_ J5=>PS ?_)));refine tp (jd rfl rfl rfl (bV (by omega) (by omega))) ?_;refine tp (PV.quo (r:=(((n-1) / 52:Nat):Int)) rfl rfl rfl (by omega) (by rw[show(((n:Nat):Int)-1)=((n-1:Nat):Int)by omega];exact L2 (n-1) 52 (by omega))) ?_;refine AD ?_;refine PS ?_;refine nx J5 (ai (WK [] (av rfl rfl ?_)));rw[aZ,if_neg (by omega)];exact⟨by simp,rfl⟩
theorem D8{number:Int}{bs:List UInt8}{k:Nat}:m7 number bs (k+1)=m7 number bs k++[pu (jk number k (aZ bs.length) (gA bs k))++[1]]:=D7 number bs k
theorem Ao(a:Option Addr)(c number:Nat)(bs:List UInt8)(hc:bs.length≤c)(hb:bs.length≤3000):
 DT 178 #[(.int .i64 (((number:Nat):Int))),(.slice a bs.length c)] (IsW (.slice a bs.length c) bs) [] (dz (λv H=>H=[my 93 5 v (bh ((number:Nat):Int) bs)])):=by
 refine BD 68 Tryz.func178 rfl rfl rfl λw0 F hF=>sr λ_ J1=>PS ?_
 refine nx J1 (sr λ_ J2=>PS ?_);refine tp (eh rfl gO rfl ⟨_,_,rfl⟩) ?_;refine CE K0 (uN bs.length (by omega)) ID ?_;refine PS ?_;refine nx J2 (sr λ_ J3=>PS ?_);refine nx J3 (aa λ_ J4=>sr λ_ J5=>P2 ?_);refine nx J5 (aq ?_)
 refine bw (α:=(Nat)×(Value)) (λ⟨k,vr⟩=>k≤aZ bs.length∧vr.oneCell'=true) (λ⟨k,vr⟩=>[(0,(.int .i64 (((number:Nat):Int)))),(1,(.slice a bs.length c)),(4,(.slice none 0 0)),(5,(.int .i64 (((aZ bs.length:Nat):Int)))),(6,vr),(14,(.int .i64 (((aZ bs.length:Nat):Int)))),(15,(.int .i64 (((k:Nat):Int))))]) (λ⟨k,vr⟩=>[my 93 5 vr (m7 ((number:Nat):Int) bs k)]) (λ⟨k,vr⟩=>aZ bs.length-k) (0,(.slice none 0 0))
  ⟨aN _,rfl⟩ SB
  (λ_ s=>uD 93 5 s) (λ⟨k,vr⟩ hinv=>?_)
 obtain⟨hk,hvr⟩:=hinv;refine sr λ_ J6=>PS ?_
 refine ao ?_ ?_<;>intro h16;have hkn:=J0 (n:=bs.length) (k:=k) (by omega);have hpe:=Ka bs k;have hP:IsW (j5 (.slice a bs.length c) (k*52) (min ((k+1)*52) bs.length)) (gA bs k) F:=by rw[←hpe];exact hF.cut (by omega) (by omega)
 have hpl:=qA bs k;have hpk:=oR hb;have hP2:=hP.len;refine nx J6 (aa λ_ J7=>CY (qx J7 (aa λ_ J8=>aq (sr λ_ J9=>P2 ?_))));refine nx J9 (sr λ_ J10=>P2 ?_);refine tp (KK (r:=((k*52:Nat):Int)) rfl rfl rfl (by rw[show((k:Nat):Int)*52=((k*52:Nat):Int)by omega];exact bV (by omega) (by omega))) ?_;refine PS ?_;refine AD ?_;refine tp (KK (r:=(((k+1)*52:Nat):Int)) rfl rfl rfl (by rw[show(((k:Nat):Int)+1)*52=(((k+1)*52:Nat):Int)by omega];exact bV (by omega) (by omega))) ?_;refine PS ?_;refine tp (eh rfl gO rfl ⟨_,_,rfl⟩) ?_;refine tp (PV.minI rfl rfl rfl) ?_;refine tp (PV.sliceLH (lo:=k*52) (hi:=min ((k+1)*52) bs.length) rfl gO lB rfl rfl rfl rfl (by omega) (by omega) (by omega)) ?_;refine PS ?_;refine nx J10 (sr λ_ J11=>TL.makeB (59) (59) (ab rfl) rfl rfl rfl gO zv rfl rfl rfl rfl (by omega) (by omega) (λb28=>PS ?_));refine nx J11 (aa λ_ J12=>sr λ_ J13=>PS ?_);refine nx J13 (aq (rY 5 (sr λ_ J14=>PS ?_)));refine nx J14 (aa λ_ J15=>CY (qx J15 (aa λ_ J16=>aq (sr λ_ J17=>P2 ?_))));refine nx J17 (ae (P4 ?_));refine tp (jd (r:=3) rfl rfl rfl (by decide)) ?_;refine tp (KK (r:=24) rfl rfl rfl (by decide)) ?_;refine tp (l8 (r:=((number:Nat):Int).fdiv 16777216) rfl rfl rfl (by omega) rfl) ?_;refine tp (eB (r:=(((r8 (((number:Nat):Int).fdiv 16777216)).toNat:Nat):Int)) rfl Y3 Y5 rfl (r8_wrap _)) ?_
 refine tp (jL (r:=0) rfl gO lB rfl rfl (by first|omega|decide) (by first|omega|decide) rfl) ?_;refine S0 0 lB ?_;refine au (ag (ac J16 (ae (tp (cC (r:=1) rfl rfl rfl (by decide)) ?_))));refine PS ?_;refine au (eA (sr λ_ J18=>PS ?_));refine nx J18 (aa λ_ J19=>CY (qx J19 (aa λ_ J20=>aq (sr λ_ J21=>P2 ?_))));refine nx J21 (ae (P4 ?_));refine tp (jd (r:=2) rfl rfl rfl (by decide)) ?_;refine tp (KK (r:=16) rfl rfl rfl (by decide)) ?_;refine tp (l8 (r:=((number:Nat):Int).fdiv 65536) rfl rfl rfl (by omega) rfl) ?_;refine tp (eB (r:=(((r8 (((number:Nat):Int).fdiv 65536)).toNat:Nat):Int)) rfl Y3 Y5 rfl (r8_wrap _)) ?_;refine tp (jL (r:=1) rfl gO lB rfl rfl (by first|omega|decide) (by first|omega|decide) rfl) ?_;refine S0 0 lB ?_;refine au (ag (ac J20 (ae (tp (cC (r:=2) rfl rfl rfl (by decide)) ?_))));refine PS ?_;refine au (eA (sr λ_ J22=>PS ?_));refine nx J22 (aa λ_ J23=>CY (qx J23 (aa λ_ J24=>aq (sr λ_ J25=>P2 ?_))));refine nx J25 (ae (P4 ?_));refine tp (jd (r:=1) rfl rfl rfl (by decide)) ?_;refine tp (KK (r:=8) rfl rfl rfl (by decide)) ?_;refine tp (l8 (r:=((number:Nat):Int).fdiv 256) rfl rfl rfl (by omega) rfl) ?_;refine tp (eB (r:=(((r8 (((number:Nat):Int).fdiv 256)).toNat:Nat):Int)) rfl Y3 Y5 rfl (r8_wrap _)) ?_;refine tp (jL (r:=2) rfl gO lB rfl rfl (by first|omega|decide) (by first|omega|decide) rfl) ?_;refine S0 0 lB ?_
 refine au (ag (ac J24 (ae (tp (cC (r:=3) rfl rfl rfl (by decide)) ?_))));refine PS ?_;refine au (eA (sr λ_ J26=>PS ?_));refine nx J26 (aa λ_ J27=>CY (qx J27 (aa λ_ J28=>aq (sr λ_ J29=>P2 ?_))));refine nx J29 (ae (P4 ?_));refine tp (jd (r:=0) rfl rfl rfl (by decide)) ?_;refine tp (KK (r:=0) rfl rfl rfl (by decide)) ?_;refine tp (l8 (r:=((number:Nat):Int)) rfl rfl rfl (by omega) (Int.fdiv_one _)) ?_;refine tp (eB (r:=(((r8 (((number:Nat):Int))).toNat:Nat):Int)) rfl Y3 Y5 rfl (r8_wrap _)) ?_;refine tp (jL (r:=3) rfl gO lB rfl rfl (by first|omega|decide) (by first|omega|decide) rfl) ?_;refine S0 0 lB ?_;refine au (ag (ac J28 (ae (tp (cC (r:=4) rfl rfl rfl (by decide)) ?_))));refine PS ?_;refine au (eA (sr λ_ J30=>PS ?_));refine nx J30 (aa λ_ J31=>CN (aX (aA (aA (br (ac J12 (sr λ_ J32=>P4 ?_)))))));refine tp (eB (r:=(((r8 (((k:Nat):Int))).toNat:Nat):Int)) rfl Y3 Y5 rfl (r8_wrap _)) ?_;refine PS ?_;refine tp (eB (r:=(((r8 (((aZ bs.length:Nat):Int))).toNat:Nat):Int)) rfl Y3 Y5 rfl (r8_wrap _)) ?_;refine PS ?_;refine tp (eh rfl gO rfl hP2) ?_;refine tp (eB (r:=(((r8 ((((gA bs k).length:Nat):Int))).toNat:Nat):Int)) rfl Y3 Y5 rfl (r8_wrap _)) ?_;refine tp (jL (r:=4) rfl gO lB rfl rfl (by first|omega|decide) (by first|omega|decide) rfl) ?_;refine S0 0 lB ?_;refine tp (jL (r:=5) rfl gO lB rfl rfl (by first|omega|decide) (by first|omega|decide) rfl) ?_;refine S0 0 lB ?_
 refine tp (jL (r:=6) rfl gO lB rfl rfl (by first|omega|decide) (by first|omega|decide) rfl) ?_;refine S0 0 lB ?_;refine nx J32 (sr λ_ J33=>PS ?_);refine tp (PV.sliceLo (k:=7) (v:=(.slice (some ⟨b28,7,none⟩) (52) (52))) rfl gO lB rfl rfl rfl (by decide) rfl) ?_;refine PS ?_;refine MH (i:=0) (m:=(gA bs k).length) (news:=(ej (gA bs k))) (H':=[ak b28 (ej (jk ((number:Nat):Int) k (aZ bs.length) (gA bs k))) 5,my 93 5 vr (m7 ((number:Nat):Int) bs k)]) (ab rfl) rfl rfl rfl gO lB rfl rfl rfl rfl (λ_ _=>hP.src (λ_ h=>fu h)) (eY _) (by show 7+min (gA bs k).length 52≤59;omega) (Gh (number:=((number:Nat):Int)) (place:=k) (all:=aZ bs.length) hpl) rfl (nx J33 (ae (P2 ?_)));refine CQ M5 (uB (.slice (some ⟨b28,0,none⟩) (59) (59)) (jk ((number:Nat):Int) k (aZ bs.length) (gA bs k)) (by rw[jC hpl];decide)) ID (λg d s=>Js (Cy 0 59 (jC hpl) (by decide) rfl rfl g d s)) λvR HR hR=>?_
 subst hR;refine aW (cells:=#[(.int .u8 1)]) (ab rfl) rfl rfl rfl gO zv rfl rfl rfl (by as_aux_lemma=>kernel_rfl) (λb62=>cL (k:=1) (news:=ej ([1])) (nn':=(pu (jk ((number:Nat):Int) k (aZ bs.length) (gA bs k))++[1]:List UInt8).length) (xs':=ej (pu (jk ((number:Nat):Int) k (aZ bs.length) (gA bs k))++[1])) (ab rfl) rfl rfl rfl gO zv rfl rfl rfl rfl rfl rfl (λ_ _=>jK rfl (RO 0) rfl) (eY [1]) (by rw[kO,jC hpl];simp only[maxLen];omega) (by rw[kO,jC hpl];omega) (by simp) (ji _ _).symm (λv63 ov63=>aW (cells:=#[v63]) (ab rfl) rfl rfl rfl vq Hc rfl rfl rfl (s9 ov63 (by simp)) (λb64=>?_)));change TL _ _ _ _ _ _ _ _ _ [ak b64 [v63] 93,ak b62 [(.int .u8 1)] 5,dW v63 (pu (jk ((number:Nat):Int) k (aZ bs.length) (gA bs k))++[1]) 5,ak b28 (ej (jk ((number:Nat):Int) k (aZ bs.length) (gA bs k))) 5,my 93 5 vr (m7 ((number:Nat):Int) bs k)];refine cA (λ_ s=>aC [4] rfl s) (Ly (λus65=>cL (k:=0) (m:=1) (news:=[v63]) (nn':=(m7 ((number:Nat):Int) bs k).length+1) (xs':=us65++[v63]) (ab rfl) rfl rfl rfl vq Hc rfl rfl rfl rfl rfl rfl (λ_ _=>jK rfl (RO 2) rfl) (List.forall_mem_cons.2 ⟨ov63,λ_ h=>by cases h⟩) (by rw[y3];simp only[maxLen];omega) (by rw[y3];omega) rfl rfl (λv65 ov65=>?_)))
 change TL _ _ _ _ _ _ _ _ _ [own v65 ((m7 ((number:Nat):Int) bs k).length+1) (us65++[v63]) 93 1,eH us65 (m7 ((number:Nat):Int) bs k) 5,ak b64 [v63] 93,ak b62 [(.int .u8 1)] 5,dW v63 (pu (jk ((number:Nat):Int) k (aZ bs.length) (gA bs k))++[1]) 5,ak b28 (ej (jk ((number:Nat):Int) k (aZ bs.length) (gA bs k))) 5];refine cA (λ_ s=>Am 4 rfl rfl s) (cA (H':=[own v65 ((m7 ((number:Nat):Int) bs k).length+1) (us65++[v63]) 93 1,eH us65 (m7 ((number:Nat):Int) bs k) 5,gL v63 (pu (jk ((number:Nat):Int) k (aZ bs.length) (gA bs k))++[1]) 5,ak b64 [v63] 93,ak b62 [(.int .u8 1)] 5,ak b28 (ej (jk ((number:Nat):Int) k (aZ bs.length) (gA bs k))) 5]) (λ_ s=>aC [0,0,2] rfl s) (cA (λ_ s=>uF s) ?_));rw[←D8];refine PS ?_;refine au (ag (ac J8 (ae (AD ?_))));refine PS ?_;refine au ?_
 exact aK ((k+1,v65):(Nat)×(Value)) ⟨by omega,ov65⟩ (by show aZ bs.length- (k+1)<aZ bs.length-k;omega)
  SB
  (λ_ s=>am [0] rfl s)
 refine nx J6 (aa λ_ J34=>CN (aX (aA (aA (br (ac J4 (sr λ_ J35=>P2 ?_)))))));refine nx J35 (ai (WK [0] (av rfl rfl ?_)));obtain rfl:k=aZ bs.length:=by omega
 exact rfl
theorem Ap(x:Value)(number:Nat)(bs:List UInt8)(hb:bs.length≤3000):DT 178 #[.int .i64 ((number:Nat):Int),x] (IsW x bs) [] (dz (λv H=>H=[my 93 5 v (bh ((number:Nat):Int) bs)])):=λw G h m=>by
 obtain⟨a,c,rfl,hc,_⟩:=h.form;exact Ao a c number bs hc hb w G h m
theorem wV(s:hJ)(number place:Int)(hs:s.length=64):
 DT 159 #[(.agg (ej s).toArray),(.int .i64 (number)),(.int .i64 (place))] T0 [] (dz (λv H=>(e7 s number place=none∧v= .tuple #[.slice none 0 0, .int .i64 0, .bool false]∧H=[])∨∃b all u,e7 s number place=some (b,all)∧v= .tuple #[u, .int .i64 all, .bool true]∧H=[gL u b 5])):=by
 refine BD 74 Tryz.func159 rfl rfl rfl λw0 F hF=>sr λ_ J1=>XY (ej s) λb3=>?_
 refine P3 ?_;refine nx J1 (sr λ_ J2=>tp (Pz (k:=63) rfl py lB rfl rfl (by omega) (by omega) rfl) ?_);refine CQ K8 (yX (.slice (some ⟨b3,0,none⟩) (63) (64)) (s.take 63) (by rw[bo];omega)) ID (λg d s'=>Js (Ha 0 63 (by omega) (by omega) (by decide) (by rw[az (by rw[ba];omega)]) hs.symm rfl rfl g d s')) λvR HR hR=>?_
 rcases hR with⟨ht,rfl,rfl⟩| ⟨t,u,ht,rfl,rfl⟩
 refine P4 ?_;refine PS ?_;refine nx J2 (aa λ_ J3=>sr λ_ J4=>PS ?_);refine PS ?_;refine PS ?_
 iterate 3 refine UT ?_
 refine PS ?_;refine nx J4 (CY (sr λ_ J5=>P3 ?_));exact nx J5 (ai (af (WK [] (nq rfl rfl rfl rfl (.inl ⟨AB ht,rfl,rfl⟩)))));have htl:=yY ht;rw[bo]at htl;have ht59:t.length=59:=by omega
 refine j7 0 rfl rfl (by omega) (λg cap hv hcap=>P4 ?_);refine PS ?_;refine nx J2 (aa λ_ J6=>sr λ_ J7=>PS ?_);refine PS ?_;refine PS ?_;refine IX 63 py lB ?_;refine LT 1 Y5 (.int .u8 ((((s.getD 63 0).toNat:Nat):Int))) ?_ (hc:=by exact q8 (by omega));refine PS ?_;refine ao ?_ ?_<;>intro h26;refine PS ?_;refine nx J7 (CY (sr λ_ J8=>P3 ?_));refine nx J8 (ai (af (WK [] (nq rfl rfl rfl rfl ?_))));exact .inl ⟨m9 (λh=>h26 (by rw[h];rfl)),rfl,rfl⟩;refine PS ?_;refine nx J7 (CN (qx J6 (sr λ_ J9=>PS ?_)));refine nx J9 (aa λ_ J10=>sr λ_ J11=>PS ?_);refine tp (PG (PV.sliceH (a:=some ⟨g,0,none⟩) (len:=t.length) (cap:=cap) (hi:=4) rfl gO lB (by rw[←hv];rfl) rfl rfl (by omega)) (Kw (by omega))) ?_;refine tp (tr rfl gO rfl) ?_;refine PS ?_;refine nx J11 (aq ?_)
 refine bw (α:=(Nat)) (λk=>k≤4) (λk=>[(1,(.int .i64 (number))),(2,(.int .i64 (place))),(6,(.slice none 0 0)),(7,(.int .i64 0)),(8,(.bool false)),(9,u),(11,(.int .i64 (Dl (t.take k)))),(29,(.slice (some ⟨g,0,none⟩) (4) (cap))),(30,(.int .i64 4)),(31,(.int .i64 (((k:Nat):Int))))]) (λk=>[dW u (t) 5,ak b3 (ej s) 128]) (λk=>4-k) 0
  (aN _) SB
  (λ_ s=>s) (λk hinv=>?_)
 obtain hk:=hinv;refine sr λ_ J12=>PS ?_
 refine ao ?_ ?_<;>intro h32;refine nx J12 (aa λ_ J13=>CY (qx J13 (aa λ_ J14=>aq (sr λ_ J15=>tp (jL (r:=k) rfl gO lB rfl rfl (by first|omega|decide) (by first|omega|decide) (by omega)) ?_))));refine tp (di (v:=(.int .u8 ((((t.getD k 0).toNat:Nat):Int)))) rfl Y5 rfl rfl (gm 0 rfl hv rfl) (q8 (by omega))) ?_;refine PS ?_;refine nx J15 (ae (PS ?_));refine tp (yI (r:=IntKind.i64.wrap ((Dl (t.take k))*2^8)) rfl rfl rfl (by omega) rfl) ?_;refine PS ?_;refine tp (eB (r:=(((t.getD k 0).toNat:Nat):Int)) rfl Y5 Y3 rfl (bV (by omega) (by have:=UInt8.toNat_lt (n:=t.getD k 0);omega))) ?_;refine tp (Jo (r:=iS .i64 (IntKind.i64.wrap ((Dl (t.take k))*2^8)) (((t.getD k 0).toNat:Nat):Int)) rfl rfl rfl rfl) ?_;refine PS ?_;refine au (ag (ac J14 (ae (AD ?_))));refine PS ?_;refine au ?_
 exact aK ((k+1):(Nat)) (by omega) (by show 4- (k+1)<4-k;omega)
  (aT (aT (aT (aT (aT (aT (bz rfl (congrArg (Value.int .i64) (Je (by omega)).symm) SB)))))))
  (λ_ s=>s)
 refine nx J12 (aa λ_ J16=>CN (aX (aA (aA (br (ac J10 (aa λ_ J17=>rR (λw=>Frm F w∧Hx g (ej (t)) w∧True) dN rfl (λ_ s=>⟨fu s,gm 0 rfl hv rfl _ s,trivial⟩) (PD 0 ?_))))))));refine ta 1 rfl (bU (r:=5) hv rfl gO lB rfl rfl (by omega) (by omega) rfl) ?_;refine ta 2 rfl (di (v:=(.int .u8 ((((t.getD 5 0).toNat:Nat):Int)))) rfl Y5 rfl rfl (λ_ h=>h.2.1) (q8 (by omega))) ?_;refine ta 3 rfl (eB (r:=(((t.getD 5 0).toNat:Nat):Int)) rfl Y5 Y3 rfl (bV (by omega) (by have:=UInt8.toNat_lt (n:=t.getD 5 0);omega))) ?_;refine PD 4 ?_;refine ta 5 rfl (bU (r:=6) hv rfl gO lB rfl rfl (by omega) (by omega) rfl) ?_;refine ta 6 rfl (di (v:=(.int .u8 ((((t.getD 6 0).toNat:Nat):Int)))) rfl Y5 rfl rfl (λ_ h=>h.2.1) (q8 (by omega))) ?_;refine ta 7 rfl (eB (r:=(((t.getD 6 0).toNat:Nat):Int)) rfl Y5 Y3 rfl (bV (by omega) (by have:=UInt8.toNat_lt (n:=t.getD 6 0);omega))) ?_;refine PD 8 ?_;refine PD 9 ?_;refine DN (ac J17 (aa λ_ J18=>sr λ_ J19=>P3 ?_));refine ao ?_ ?_<;>intro h51;refine PS ?_
 iterate 6 refine UT ?_
 refine P2 ?_
 iterate 3 refine UT ?_
 refine P2 ?_;refine UT ?_;refine UT ?_;refine PS ?_;refine nx J19 (CY (sr λ_ J20=>P3 ?_));refine nx J20 (ai (af (WK [] (nq rfl rfl rfl rfl ?_))));exact .inl ⟨mG ht (.inl (by have:k=4:=(by omega);subst this;exact h51)),rfl,rfl⟩;refine P2 ?_;refine tq (bU (r:=4) hv rfl gO lB rfl rfl (by omega) (by omega) rfl) ?_;refine tq (di (v:=(.int .u8 ((((t.getD 4 0).toNat:Nat):Int)))) rfl Y5 rfl rfl (gm 0 rfl hv rfl) (q8 (by omega))) ?_;refine tq (eB (r:=(((t.getD 4 0).toNat:Nat):Int)) rfl Y5 Y3 rfl (bV (by omega) (by have:=UInt8.toNat_lt (n:=t.getD 4 0);omega))) ?_;refine P2 ?_;refine ao ?_ ?_<;>intro h58;refine P2 ?_
 iterate 3 refine UT ?_
 refine P2 ?_;refine UT ?_;refine UT ?_;refine PS ?_;refine nx J19 (CY (sr λ_ J21=>P3 ?_));exact nx J21 (ai (af (WK [] (nq rfl rfl rfl rfl (.inl ⟨mG ht (.inr (.inl h58)),rfl,rfl⟩)))))
 iterate 5 refine PS ?_
 refine ao ?_ ?_<;>intro h63;refine P2 ?_;refine UT ?_;refine UT ?_;refine PS ?_;refine nx J19 (CY (sr λ_ J22=>P3 ?_));exact nx J22 (ai (af (WK [] (nq rfl rfl rfl rfl (.inl ⟨mG ht (.inr (.inr (.inl h63))),rfl,rfl⟩)))));refine P4 ?_;refine ao ?_ ?_<;>intro h67;refine PS ?_;refine nx J19 (CY (sr λ_ J23=>P3 ?_));exact nx J23 (ai (af (WK [] (nq rfl rfl rfl rfl (.inl ⟨mG ht (.inr (.inr (.inr h67))),rfl,rfl⟩)))));refine PS ?_;refine nx J19 (CN (qx J18 (sr λ_ J24=>P2 ?_)));refine tp (cC (r:=((7+(t.getD 6 0).toNat:Nat):Int)) rfl rfl rfl (by rw[show(7:Int)+(((t.getD 6 0).toNat:Nat):Int)=((7+(t.getD 6 0).toNat:Nat):Int)by omega];have:=UInt8.toNat_lt (n:=t.getD 6 0);exact bV (by omega) (by omega))) ?_;refine tp (PG (PV.sliceLH (a:=some ⟨g,0,none⟩) (len:=t.length) (cap:=cap) (lo:=7) (hi:=7+(t.getD 6 0).toNat) rfl gO lB (by rw[←hv];rfl) rfl rfl rfl rfl (by omega) (by omega)) (congrArg (λq=>j5 q 7 (7+(t.getD 6 0).toNat)) hv.symm)) ?_;refine P4 ?_;refine nx J24 (ai (aF (H':=[gL (j5 u 7 (7+(t.getD 6 0).toNat)) ((t.drop 7).take (t.getD 6 0).toNat) 5]) (dK _) (λ_ s'=>am [0] rfl (wz 0 rfl rfl hv (by omega) (by omega) (by omega) (by rw[oF,cp]) s')) (nq rfl rfl rfl rfl ?_)));obtain rfl:k=4:=by omega
 have h1:s.getD 63 0=1:=UInt8.toNat_inj.1 (by have h1':(1:UInt8).toNat=1:=rfl;omega);exact .inr ⟨_,_,_,Ci ht h1 (by omega),rfl,rfl⟩
end Go.Proofs.YtjblgopghhgflaaGreat
end

section
namespace Wal
open Go Leg Codec Api Dsk
theorem uh(i:Nat){us:List Value}{ls:List (List UInt8)}{e k:Nat}{B:List HP}{F:Hl}(hk:k<ls.length)(hi:Nat.blt i B.length=true)(hH:B.getD i (λ_=>True)=eH us ls e): ∀g,Dj g F→bG B g→IsB (us.getD k undef) ls[k] (jn g F):=λg d s=>by
 obtain⟨h1,h2,d',rfl,a,_⟩:=eZ i (lb hi) s;rw[hH]at a;obtain⟨hl,a⟩:=a;obtain⟨u,e1,k1,k2,dk,rfl,a3⟩:=xM us ls e _ hl a k hk;rw[List.getD_eq_getElem?_getD,e1];exact BI a3 λb o e=>hY (hY (hY e))
theorem In.read{s ws:fo}(h1:In s)(h2:In ws)(at':Int)(h: ¬(0≤at'∧at'<2048)): ∀k,k≤ws.length→iC s ws at' k=zs
 |0,_=>by
  show eU s at'=zs
  induction s with
  |nil=>rfl
  |cons p s ih=>
   obtain⟨a,b⟩:=p;simp only[eU];have hh:=h1 (a,b) (by simp);rw[if_neg (λe=>h (by simp only at hh;omega))];exact ih λq hq=>h1 q (by simp[hq])
 |k+1,hk=>by
  simp only[iC];rw[if_neg,In.read h1 h2 at' h k (by omega)];intro e;rw[tG (by omega)]at e;have hh:=h2 ws[k] (ec _);exact h (by omega)
theorem DS.In.read{D:DS}(h:Wal.DS.In D){at':Int}(h2: ¬(0≤at'∧at'<2048)):D.read at'=zs:=Wal.In.read h.1 h.2 at' h2 _ (aH _)
theorem GJ(number place:Int):e7 zs number place=none:=m9 (by decide)
theorem w8{rd:Int→hJ}{number at' all:Int}: ∀(m:Nat) {b:List UInt8},kQ rd number at' all m=some b→∀k,k<m→∃x,e7 (rd (at'+k)) number k=some (x,all)
 |0,_,_,k,hk=>by omega
 |m+1,b,h,k,hk=>by
  simp only[kQ]at h;split at h
  · cases h
  · rename_i b' hb
    split at h
    · cases h
    · rename_i x same hx
      split at h
      · rename_i hs
        by_cases e:k=m
        · subst e;exact⟨x,by rw[hx,hs]⟩
        · exact w8 m hb k (by omega)
      · cases h
theorem jX{rd:Int→hJ}{number at' all:Int}{b:List UInt8}(hl:(rd at').length=64)(h:fA rd number at'=some (b,all)):0<all∧all≤255∧∀k:Nat,(k:Int)<all→∃x,e7 (rd (at'+k)) number k=some (x,all):=by
 unfold fA at h;split at h
 · cases h
 · rename_i x al hp
   obtain⟨f1,f2,_⟩:=oS hl hp;obtain⟨c,hc,e⟩:=Option.map_eq_some_iff.1 h;injection e with e1 e2
   subst e1;subst e2;exact⟨f1,f2,λk hk=>w8 _ hc k (by omega)⟩
theorem oM{D:DS}(hI:Wal.DS.In D)(hD:D.Ok){number at' all:Int}{b:List UInt8}(h0:0≤at')(h:fA D.read number at'=some (b,all)):at'+all≤2048:=by
 obtain⟨f1,f2,f3⟩:=jX (mg hD _) h;obtain⟨x,hx⟩:=f3 (all-1).toNat (by omega)
 by_cases q:at'+all≤2048
 · exact q
 · rw[DS.In.read hI (by omega),GJ]at hx;cases hx
theorem qz{rd:Int→hJ}{f:Nat}{cnt used:Int}(h:fA rd (cnt+1) used=none):fJ rd f cnt used=([],used):=by
 cases f with
 |zero=>rfl
 |succ f=>simp only[fJ,h]
theorem Aq{rd:Int→hJ}{f:Nat}{cnt used all:Int}{b:List UInt8}(h:fA rd (cnt+1) used=some (b,all)):fJ rd (f+1) cnt used=(b::(fJ rd f (cnt+1) (used+all)).1,(fJ rd f (cnt+1) (used+all)).2):=by simp only[fJ,h]
def Scan(D:DS)(f:Nat)(rs:List (List UInt8))(used:Int):Prop:=
 fJ D.read ie 0 0=(rs++(fJ D.read f rs.length used).1,(fJ D.read f rs.length used).2)∧0≤used∧used≤2048∧2049≤(f:Int)+used∧(rs.length:Int)≤used
theorem Scan.start(D:DS):Scan D ie [] 0:=by
 refine⟨?_,by omega,by omega,by rw[qa];omega,by simp⟩;have e:((([]:List (List UInt8)).length:Nat):Int)=0:=rfl;rw[bO,e]
theorem Scan.next{D:DS}(hI:Wal.DS.In D)(hD:D.Ok){f:Nat}{rs:List (List UInt8)}{used all:Int}{b:List UInt8}(h:Scan D f rs used)(h2:fA D.read ((rs.length:Int)+1) used=some (b,all)): ∃f',f=f'+1∧Scan D f' (rs++[b]) (used+all):=by
 obtain⟨h1,h0,h3,h4,h5⟩:=h;have hr:=oM hI hD h0 h2;have hf:=(jX (mg hD _) h2).1;obtain⟨f',rfl⟩: ∃f',f=f'+1:=⟨f-1,by omega⟩;refine⟨f',rfl,?_,by omega,by omega,by omega,by simp;omega⟩;rw[h1,Aq h2];simp
theorem Scan.stop{D:DS}{f:Nat}{rs:List (List UInt8)}{used:Int}(h:Scan D f rs used)(h2:fA D.read ((rs.length:Int)+1) used=none):fJ D.read ie 0 0=(rs,used):=by
 rw[h.1,qz h2];simp
theorem Bt{D:DS}{at':Int}(h:2048≤at'):gn (2048-at').toNat at' D=(0,D):=by rw[show(2048-at').toNat=0 by omega];rfl
theorem F7{D:DS}{at':Int}(h:at'<2048)(h2:D.read at'=zs):gn (2048-at').toNat at' D=gn (2048- (at'+1)).toNat (at'+1) D:=by
 rw[show(2048-at').toNat=(2048- (at'+1)).toNat+1 by omega,gn,if_pos h2]
theorem JG{D:DS}{at':Int}(h:at'<2048)(h2:D.read at'≠zs)(h3:(D.write at' []).1=0):gn (2048-at').toNat at' D=gn (2048- (at'+1)).toNat (at'+1) (D.write at' []).2:=by
 rw[show(2048-at').toNat=(2048- (at'+1)).toNat+1 by omega,gn,if_neg h2,if_pos h3]
theorem F8{D:DS}{at':Int}(h:at'<2048)(h2:D.read at'≠zs)(h3:(D.write at' []).1≠0):gn (2048-at').toNat at' D=D.write at' []:=by
 rw[show(2048-at').toNat=(2048- (at'+1)).toNat+1 by omega,gn,if_neg h2,if_neg h3]
theorem wY{D D':DS}{rs:List (List UInt8)}{used e:Int}(h:fJ D.read ie 0 0=(rs,used))(h2:gn (2048-used).toNat used D=(e,D'))(h3:e≠0):bH D=⟨e,[],0,D'⟩:=by
 simp only[bH,h,h2];rw[if_pos h3]
theorem Ei{D D':DS}{rs:List (List UInt8)}{used:Int}(h:fJ D.read ie 0 0=(rs,used))(h2:gn (2048-used).toNat used D=(0,D'))(h3:D'.sync.1≠0):bH D=⟨D'.sync.1,[],0,D'.sync.2⟩:=by
 simp only[bH,h,h2,ne_eq,not_true_eq_false,if_false];rw[if_pos h3]
theorem AF{D D':DS}{rs:List (List UInt8)}{used:Int}(h:fJ D.read ie 0 0=(rs,used))(h2:gn (2048-used).toNat used D=(0,D'))(h3:D'.sync.1=0):bH D=⟨0,rs,used,D'.sync.2⟩:=by
 simp only[bH,h,h2,ne_eq,not_true_eq_false,if_false];rw[if_neg (by simp[h3])]
def fH:List hJ→Int→DS→Int×DS
 | [],_,D=>(0,D)
 |s::ss,at',D=>if(D.write at' s).1=0 then fH ss (at'+1) (D.write at' s).2 else D.write at' s
structure PutR where
 err:Int
 cnt:Nat
 used:Int
 D:DS
def la(D:DS)(cnt:Nat)(used:Int)(bs:List UInt8):PutR:=
 if 3000<bs.length then⟨2,cnt,used,D⟩
 else if(aZ bs.length:Int)>2048-used then⟨3,cnt,used,D⟩
 else
  let w:=fH (bh ((cnt+1:Nat):Int) bs) used D
  if w.1≠0 then⟨w.1,cnt,used,w.2⟩else if w.2.sync.1≠0 then⟨w.2.sync.1,cnt,used,w.2.sync.2⟩else⟨0,cnt+1,used+aZ bs.length,w.2.sync.2⟩
theorem Bq{ss:List hJ}{at':Int}{D:DS}{k:Nat}(hk:k<ss.length)(h:(D.write (at'+k) ss[k]).1=0):fH (ss.drop k) (at'+k) D=fH (ss.drop (k+1)) (at'+(k+1:Nat)) (D.write (at'+k) ss[k]).2:=by
 rw[dA hk,fH,if_pos h];congr 1;omega
theorem Br{ss:List hJ}{at':Int}{D:DS}{k:Nat}(hk:k<ss.length)(h:(D.write (at'+k) ss[k]).1≠0):fH (ss.drop k) (at'+k) D=D.write (at'+k) ss[k]:=by
 rw[dA hk,fH,if_neg h]
section
variable {D D':DS} {cnt:Nat} {used:Int} {bs:List UInt8}
theorem If(h:3000<bs.length):la D cnt used bs=⟨2,cnt,used,D⟩:=by rw[la,if_pos h]
theorem Cf(h: ¬3000<bs.length)(h2:(aZ bs.length:Int)>2048-used):la D cnt used bs=⟨3,cnt,used,D⟩:=by rw[la,if_neg h,if_pos h2]
theorem zc{e:Int}(h: ¬3000<bs.length)(h2: ¬(aZ bs.length:Int)>2048-used)(h3:fH (bh ((cnt+1:Nat):Int) bs) used D=(e,D'))(h4:e≠0):la D cnt used bs=⟨e,cnt,used,D'⟩:=by
 rw[la,if_neg h,if_neg h2];simp only[h3];rw[if_pos h4]
theorem GE(h: ¬3000<bs.length)(h2: ¬(aZ bs.length:Int)>2048-used)(h3:fH (bh ((cnt+1:Nat):Int) bs) used D=(0,D'))(h4:D'.sync.1≠0):la D cnt used bs=⟨D'.sync.1,cnt,used,D'.sync.2⟩:=by
 rw[la,if_neg h,if_neg h2];simp only[h3,ne_eq,not_true_eq_false,if_false];rw[if_pos h4]
theorem put_ok(h: ¬3000<bs.length)(h2: ¬(aZ bs.length:Int)>2048-used)(h3:fH (bh ((cnt+1:Nat):Int) bs) used D=(0,D'))(h4:D'.sync.1=0):la D cnt used bs=⟨0,cnt+1,used+aZ bs.length,D'.sync.2⟩:=by
 rw[la,if_neg h,if_neg h2];simp only[h3,ne_eq,not_true_eq_false,if_false];rw[if_neg (by simp[h4])]
end
end Wal
end

section
namespace Go.Proofs.YtjblgopghhgflaaGreat
open Go Leg Codec Api Dsk Wal
abbrev FT(lg d:Nat)(cnt used:Int):HP:=ak lg [.pointer (some ⟨d,0,none⟩), .int .i64 cnt, .int .i64 used] 210
abbrev OF(v:Value)(ls:List (List UInt8)):HP:=my 93 5 v ls
theorem BU(d:Nat)(D:DS)(number at':Int)(hD:D.Ok)(hb:D.ws.length≤1000000000)(ha:0≤at'∧at'≤1000000):
 DT 129 #[(.pointer (some ⟨d,0,none⟩)),(.int .i64 (number)),(.int .i64 (at'))] T0 [dk d (D)] (dz (λv H=>(fA D.read number at'=none∧v= .tuple #[.slice none 0 0, .int .i64 0, .bool false]∧H=[dk d D])∨∃b all u,fA D.read number at'=some (b,all)∧v= .tuple #[u, .int .i64 all, .bool true]∧H=[gL u b 5,dk d D])):=by
 refine BD 56 Tryz.func129 rfl rfl rfl λw0 F hF=>sr λ_ J1=>P3 ?_
 refine nx J1 (sr λ_ J2=>P2 ?_);refine CR Iw (A3 d (D) at' hD hb) ID λvR HR hR=>?_
 obtain⟨hv,rfl⟩:=hR;subst hv;refine PS ?_;refine CR La (wV ((D).read at') number 0 (mg hD _)) ID λvR HR hR=>?_
 rcases hR with⟨hp,rfl,rfl⟩| ⟨b,all,u,hp,rfl,rfl⟩
 refine P4 ?_;refine P3 ?_;refine nx J2 (aa λ_ J3=>sr λ_ J4=>PS ?_);refine PS ?_;refine nx J4 (CY (sr λ_ J5=>P3 ?_));exact nx J5 (ai (af (WK [0] (nq rfl rfl rfl rfl (.inl ⟨qQ hp,rfl,rfl⟩)))));refine TL.subLen 0 rfl rfl (λhul hu=>?_);have hpf:=oS (mg hD _) hp;refine P4 ?_;refine P3 ?_;refine nx J2 (aa λ_ J6=>sr λ_ J7=>PS ?_);refine PS ?_;refine nx J7 (CN (qx J6 (aa λ_ J8=>sr λ_ J9=>PS ?_)));refine nx J9 (aq ?_)
 refine bw (α:=(Nat)×(List UInt8)×(Value)) (λ⟨k,c,w⟩=>1≤k∧k≤all.toNat∧kQ D.read number at' all k=some c∧c.length≤k*52∧w.oneCell'=true) (λ⟨k,c,w⟩=>[(0,(.pointer (some ⟨d,0,none⟩))),(1,(.int .i64 (number))),(2,(.int .i64 (at'))),(9,w),(10,(.int .i64 (all))),(12,(.int .i64 (((k:Nat):Int))))]) (λ⟨k,c,w⟩=>[gL w (c) 5,dk d (D)]) (λ⟨k,c,w⟩=>all.toNat-k) (1,b,u)
  ⟨aH _,by omega,GZ hp,by omega,hu⟩ SB
  (λ_ s=>s) (λ⟨k,c,w⟩ hinv=>?_)
 obtain⟨hk1,hk2,hk3,hk4,hw⟩:=hinv;refine aa λ_ J10=>sr λ_ J11=>P3 ?_
 refine ao ?_ ?_<;>intro h29;refine nx J11 (CY (qx J10 (aa λ_ J12=>aq (sr λ_ J13=>P3 ?_))));refine AD ?_;refine CR Iw (A3 d (D) (at'+((k:Nat):Int)) hD hb) (SM [1]) λvR HR hR=>?_
 obtain⟨hv,rfl⟩:=hR;subst hv;refine P2 ?_;refine CR La (wV ((D).read (at'+((k:Nat):Int))) number ((k:Nat):Int) (mg hD _)) ID λvR HR hR=>?_
 rcases hR with⟨hp2,rfl,rfl⟩| ⟨b2,all2,u2,hp2,rfl,rfl⟩
 refine P4 ?_;refine P3 ?_;refine nx J13 (aa λ_ J14=>sr λ_ J15=>PS ?_);refine PS ?_;refine PS ?_
 iterate 3 refine UT ?_
 refine PS ?_;refine nx J15 (CY (sr λ_ J16=>P3 ?_));refine nx J16 (ai (af (aJ (af (af (aJ (af (WK [0] (nq rfl rfl rfl rfl ?_)))))))));exact .inl ⟨qP hp (w7 (.inl hp2) _ (by omega)),rfl,rfl⟩;refine TL.subLen 0 rfl rfl (λhul2 hu2=>?_);have hpf2:=oS (mg hD _) hp2;refine P4 ?_;refine P3 ?_;refine nx J13 (aa λ_ J17=>sr λ_ J18=>PS ?_);refine PS ?_;refine P4 ?_;refine ao ?_ ?_<;>intro h49;refine PS ?_;refine nx J18 (CY (sr λ_ J19=>P3 ?_));refine nx J19 (ai (af (aJ (af (af (aJ (af (WK [1] (nq rfl rfl rfl rfl ?_)))))))));exact .inl ⟨qP hp (w7 (.inr ⟨b2,all2,hp2,h49⟩) _ (by omega)),rfl,rfl⟩;refine PS ?_;refine nx J18 (CN (qx J17 (ae (P2 ?_))));refine TL.appendS (k:=2) (news:=b2) (bs':=c++b2) (ab rfl) rfl rfl rfl gO zv rfl rfl rfl rfl (λ_ s=>Src.sub 0 rfl rfl s) (by omega) rfl (λv53 ov53=>PS ?_);refine au (ag (ac J12 (ae (PS ?_))));refine AD ?_;refine PS ?_;refine au ?_
 exact aK ((k+1,c++b2,v53):(Nat)×(List UInt8)×(Value)) ⟨by omega,by omega,w9 hk3 (by rw[hp2,show all2=all by omega]),by rw[ah];omega,ov53⟩ (by show all.toNat- (k+1)<all.toNat-k;omega)
  SB
  (λ_ s=>am [2,1] rfl s)
 refine nx J11 (CN (aX (aA (aA (br (ac J8 (sr λ_ J20=>?_)))))))
 iterate 5 refine PS ?_
 refine nx J20 (ai (WK [0,0] (nq rfl rfl rfl rfl ?_)));exact .inr ⟨c,all,w,sH hp (by rw[show all.toNat=k by omega];exact hk3),rfl,rfl⟩
theorem Gx(lg d:Nat)(cnt used:Int)(h:0≤used∧used≤2048):
 DT 177 #[(.pointer (some ⟨lg,0,none⟩))] T0 [ak lg [(.pointer (some ⟨d,0,none⟩)),(.int .i64 (cnt)),(.int .i64 (used))] 210] (RI (.int .i64 (2048-used)) [FT lg d cnt used]):=by
 refine BD 8 Tryz.func177 rfl rfl rfl λw0 F hF=>sr λ_ J1=>PS ?_
 refine nx J1 (sr λ_ J2=>P2 ?_);refine FA 2 qM aQ ?_;refine LA 0 Y3 ?_;refine tp (jd rfl rfl rfl (bV (by omega) (by omega))) ?_;refine PS ?_;exact nx J2 (ai (WK [0] (av rfl rfl ⟨rfl,rfl⟩)))
theorem Bz(lg d cnt:Nat)(used:Int)(x:Value)(bs:List UInt8)(D:DS)(hD:D.Ok)(hb:D.ws.length≤1000000)(hu:0≤used∧used≤2048)(hc:cnt≤1000000):
 DT 166 #[(.pointer (some ⟨lg,0,none⟩)),x] (IsW x bs) [ak lg [(.pointer (some ⟨d,0,none⟩)),(.int .i64 (((cnt:Nat):Int))),(.int .i64 (used))] 210,dk d (D)] (RI (.int .i64 (la D cnt used bs).err) [FT lg d (((la D cnt used bs).cnt:Nat):Int) (la D cnt used bs).used,dk d (la D cnt used bs).D]):=by
 refine BD 72 Tryz.func166 rfl rfl rfl λw0 F hF=>sr λ_ J1=>PS ?_
 refine nx J1 (aa λ_ J2=>sr λ_ J3=>PS ?_);refine tp (eh rfl gO rfl hF.len) ?_;refine PS ?_;refine ao ?_ ?_<;>intro h12;refine nx J3 (CY (sr λ_ J4=>PS ?_));refine nx J4 (ai (af (WK [0,0] (av rfl rfl ?_))));rw[If (by omega)];exact⟨rfl,rfl⟩;refine nx J3 (CN (qx J2 (sr λ_ J5=>PS ?_)));refine tp (eh rfl gO rfl hF.len) ?_;refine CE K0 (uN bs.length (by omega)) ID ?_;refine PS ?_;refine nx J5 (aa λ_ J6=>sr λ_ J7=>P2 ?_);refine CE Np (Gx lg d ((cnt:Nat):Int) used hu) ID ?_;refine PS ?_;refine ao ?_ ?_<;>intro h19;refine nx J7 (CY (sr λ_ J8=>PS ?_));refine nx J8 (ai (af (WK [0,0] (av rfl rfl ?_))));rw[Cf (by omega) (by omega)];exact⟨rfl,rfl⟩;refine nx J7 (CN (qx J6 (aa λ_ J9=>sr λ_ J10=>P2 ?_)));refine FA 1 qM aQ ?_;refine LA 0 Y3 ?_;refine tp (PG (v':=(.int .i64 (((cnt+1:Nat):Int)))) (cC rfl rfl rfl (bV (by omega) (by omega))) rfl) ?_;refine PS ?_;refine CQ No (Ap x (cnt+1) bs (by omega)) ID (λg d _=>Oj hF d) λvR HR hR=>?_
 have hR:=hR;subst hR;change TL _ _ _ _ _ _ _ _ _ [my 93 5 vR (bh ((cnt+1:Nat):Int) bs),ak lg [(.pointer (some ⟨d,0,none⟩)),(.int .i64 (((cnt:Nat):Int))),(.int .i64 (used))] 210,dk d (D)];refine TL.recsLen 0 rfl rfl (λhrl hro=>?_);rw[cx]at hrl;refine tp (eh rfl vq rfl hrl) ?_;refine PS ?_;refine nx J10 (aq ?_)
 refine bw (α:=(Nat)×(DS)) (λ⟨k,D'⟩=>k≤aZ bs.length∧fH (bh ((cnt+1:Nat):Int) bs) used D=fH ((bh ((cnt+1:Nat):Int) bs).drop k) (used+(k:Nat)) D'∧D'.Ok∧D'.ws.length≤D.ws.length+k) (λ⟨k,D'⟩=>[(0,(.pointer (some ⟨lg,0,none⟩))),(5,(.int .i64 (((aZ bs.length:Nat):Int)))),(26,vR),(27,(.int .i64 ((((aZ bs.length):Nat):Int)))),(28,(.int .i64 (((k:Nat):Int))))]) (λ⟨k,D'⟩=>[ak lg [(.pointer (some ⟨d,0,none⟩)),(.int .i64 (((cnt:Nat):Int))),(.int .i64 (used))] 210,dk d (D'),my 93 5 vR (bh ((cnt+1:Nat):Int) bs)]) (λ⟨k,D'⟩=>aZ bs.length-k) (0,D)
  ⟨aN _,by simp,hD,by omega⟩ SB
  (λ_ s=>aC [1,1,0] rfl s) (λ⟨k,D'⟩ hinv=>?_)
 obtain⟨hk,hwr,hD',hws⟩:=hinv;refine sr λ_ J11=>PS ?_
 refine ao ?_ ?_<;>intro h29;refine cA (λ_ s=>aC [2] rfl s) (Ly (λus=>?_));change TL _ _ _ _ _ _ _ _ _ [own vR ((bh ((cnt+1:Nat):Int) bs).length) (us) 93 1,eH us (bh ((cnt+1:Nat):Int) bs) 5,ak lg [(.pointer (some ⟨d,0,none⟩)),(.int .i64 (((cnt:Nat):Int))),(.int .i64 (used))] 210,dk d (D')];refine yC (p:=us.length=(bh ((cnt+1:Nat):Int) bs).length*1) (λw m=>m.own_len (i:=0) (lb rfl) rfl) (λhul=>?_);rw[cx,fP]at hul;have hkl:k< (bh ((cnt+1:Nat):Int) bs).length:=by rw[cx];omega
 obtain⟨sk,hsk⟩: ∃x,(bh ((cnt+1:Nat):Int) bs)[k]=x:=⟨_,rfl⟩;refine j7 0 rfl rfl (by omega) (λg cap hv hcap=>nx J11 (aa λ_ J12=>CY (qx J12 (aa λ_ J13=>aq (sr λ_ J14=>PS ?_)))));refine tp (bU (r:=k) hv rfl vq nS rfl rfl (by omega) (by omega) (by omega)) ?_;refine tp (di (v:=(us.getD k undef)) rfl gO rfl rfl (gm 0 rfl hv rfl) (by simp[List.getD_eq_getElem?_getD,show k<us.length by omega])) ?_;refine P2 ?_;refine nx J14 (aa λ_ J15=>D1 2 dN ?_);refine PD 0 ?_;refine PD 1 ?_;refine FD 2 0 qM pg ?_;refine LX 3 tm (.pointer (some ⟨d,0,none⟩)) ?_ (hc:=by exact rfl);refine PD 4 ?_;refine PD 5 ?_;refine FD 6 2 qM aQ ?_;refine LX 7 Y3 (.int .i64 (used)) ?_ (hc:=by exact rfl);refine PD 8 ?_;refine ta 9 rfl (cC rfl rfl rfl (bV (by omega) (by omega))) ?_;refine PD 10 ?_;refine AL 11 ?_;refine CQ Me (xG d D' (used+((k:Nat):Int)) (us.getD k undef) sk hD' (by omega)) (SM [3]) (λg d s=>Js (hsk▸uh 1 hkl rfl rfl g d s)) λvR HR hR=>?_
 obtain⟨hv2,rfl⟩:=hR;subst hv2;refine EN (PD 12 ?_);refine DN (ac J15 (sr λ_ J16=>P2 ?_));refine ao ?_ ?_<;>intro h46;refine nx J16 (CY (sr λ_ J17=>P2 ?_));refine nx J17 (ai (aJ (af (af (aJ (af (WK [3,0] (av rfl rfl ?_))))))));have hf:=Br (D:=D') (at':=used) hkl (by rw[hsk];exact h46);rw[hsk]at hf;rw[zc (by omega) (by omega) (hwr.trans hf) h46];exact⟨rfl,rfl⟩;refine nx J16 (CN (aU (ag (ac J13 (ae (AD ?_))))));refine PS ?_;refine au ?_
 exact aK ((k+1,(D'.write (used+((k:Nat):Int)) sk).2):(Nat)×(DS)) ⟨by omega,by rw[hwr];subst hsk;exact Bq hkl (by simpa using h46),DS.write_ok hD' _ _,by have:=DS.write_ws (D:=D') (at':=used+((k:Nat):Int)) (bs:=sk);omega⟩ (by show aZ bs.length- (k+1)<aZ bs.length-k;omega)
  SB
  (λ_ s=>aC [1,1,0] rfl (bp (p:=λus:List Value=>[own vR (bh ((cnt+1:Nat):Int) bs).length us 93 1,eH us (bh ((cnt+1:Nat):Int) bs) 5]) us (am [1,1,1,0] rfl s)))
 refine nx J11 (aa λ_ J18=>CN (aX (aA (aA (br (ac J9 (aa λ_ J19=>sr λ_ J20=>P2 ?_)))))));refine FA 0 qM pg ?_;refine LA 0 tm ?_;refine CR Md (A2 d (D') hD') (SM [1]) λvR HR hR=>?_
 obtain⟨hv,rfl⟩:=hR;subst hv;refine PS ?_;refine nx J20 (sr λ_ J21=>P2 ?_);refine ao ?_ ?_<;>intro h55;refine nx J21 (CY (sr λ_ J22=>P2 ?_));refine nx J22 (ai (af (WK [1,0] (av rfl rfl ?_))));have hf:fH (bh ((cnt+1:Nat):Int) bs) used D=(0,D'):=by rw[hwr,ci (by rw[cx];omega)];rfl
 rw[GE (by omega) (by omega) hf h55];exact⟨rfl,rfl⟩;refine nx J21 (CN (qx J19 (sr λ_ J23=>P2 ?_)));refine FA 1 qM aQ ?_;refine LA 1 Y3 ?_;refine AD ?_;refine PS ?_;refine FA 1 qM aQ ?_;refine S0 1 aQ ?_;refine nx J23 (sr λ_ J24=>P2 ?_);refine FA 2 qM aQ ?_;refine LA 1 Y3 ?_;refine PS ?_;refine AD ?_;refine PS ?_;refine FA 2 qM aQ ?_;refine S0 1 aQ ?_;refine nx J24 (sr λ_ J25=>PS ?_);refine nx J25 (ai (WK [1,0] (av rfl rfl ?_)));have hf:fH (bh ((cnt+1:Nat):Int) bs) used D=(0,D'):=by rw[hwr,ci (by rw[cx];omega)];rfl
 rw[put_ok (by omega) (by omega) hf (by simpa using h55)];exact⟨rfl,rfl⟩
theorem GP(d:Nat)(D:DS)(hD:D.Ok)(hI:Wal.DS.In D)(hb:D.ws.length≤1000000):
 DT 92 #[(.pointer (some ⟨d,0,none⟩))] T0 [dk d (D)] (dz (λv H=>((bH D).err≠0∧v= .tuple #[.pointer none, .slice none 0 0, .int .i64 (bH D).err]∧H=[dk d (bH D).D])∨((bH D).err=0∧∃lg vr,v= .tuple #[.pointer (some ⟨lg,0,none⟩),vr, .int .i64 0]∧H=[FT lg d (((bH D).recs.length:Nat):Int) (bH D).used,OF vr (bH D).recs,dk d (bH D).D]))):=by
 refine BD 80 Tryz.func92 rfl rfl rfl λw0 F hF=>sr λ_ J1=>P3 ?_
 refine nx J1 (aa λ_ J2=>sr λ_ J3=>PS ?_);refine tp (jf rfl tm rfl rfl) ?_;refine nx J3 (CN (qx J2 (sr λ_ J4=>PS ?_)));refine BV #[(.pointer (some ⟨d,0,none⟩)),(.int .i64 0),(.int .i64 0)] ?_;refine XB λb17=>?_
 refine PS ?_;refine nx J4 (sr λ_ J5=>PS ?_);refine nx J5 (aa λ_ J6=>aq ?_)
 refine bw (α:=(Nat)×(List (List UInt8))×(Int)×(Value)) (λ⟨f,rs,used,vr⟩=>Scan D f rs used∧vr.oneCell'=true) (λ⟨f,rs,used,vr⟩=>[(0,(.pointer (some ⟨d,0,none⟩))),(2,(.pointer none)),(3,(.slice none 0 0)),(4,(.int .i64 0)),(5,(.pointer (some ⟨b17,0,none⟩))),(6,vr)]) (λ⟨f,rs,used,vr⟩=>[ak b17 [(.pointer (some ⟨d,0,none⟩)),(.int .i64 (((rs.length:Nat):Int))),(.int .i64 (used))] 210,dk d (D),my 93 5 vr (rs)]) (λ⟨f,rs,used,vr⟩=>f) (ie,[],0,(.slice none 0 0))
  ⟨Scan.start D,rfl⟩ SB
  (λ_ s=>eu (List.Perm.trans (List.Perm.swap _ _ _) (List.Perm.cons _ (List.Perm.swap _ _ _))) (uD 93 5 s)) (λ⟨f,rs,used,vr⟩ hinv=>?_)
 obtain⟨hsc,hvr⟩:=hinv;obtain⟨hs1,hs2,hs3,hs4,hs5⟩:=id hsc;refine aq (aa λ_ J7=>D1 0 dN ?_);refine PD 0 ?_;refine PD 1 ?_;refine PD 2 ?_;refine FD 3 1 qM aQ ?_;refine LX 4 Y3 (.int .i64 (((rs.length:Nat):Int))) ?_ (hc:=by exact rfl);refine ta 5 rfl (cC rfl rfl rfl (bV (by omega) (by omega))) ?_;refine PD 6 ?_;refine PD 7 ?_;refine FD 8 2 qM aQ ?_;refine LX 9 Y3 (.int .i64 (used)) ?_ (hc:=by exact rfl);refine AL 10 ?_;refine CR NO (BU d D (((rs.length:Nat):Int)+1) used hD (by omega) (by omega)) (SM [1]) λvR HR hR=>?_
 rcases hR with⟨hst,rfl,rfl⟩| ⟨b,all,u,hst,rfl,rfl⟩
 have hss:=Scan.stop hsc hst;refine EN (PD 11 ?_);refine PD 12 ?_;refine PD 13 ?_;refine PD 14 ?_;refine PD 15 ?_;refine PD 16 ?_;refine PD 17 ?_;refine DN (ac J7 (aa λ_ J8=>sr λ_ J9=>PS ?_));refine PS ?_;refine nx J9 (CY (aX (aA (TE.miss (by decide) (aA (br (ac J6 (aa λ_ J10=>sr λ_ J11=>P2 ?_))))))));refine FA 2 qM aQ ?_;refine LA 1 Y3 ?_;refine PS ?_;refine nx J11 (aq ?_)
 refine bw (α:=(Int)×(DS)) (λ⟨at',D'⟩=>used≤at'∧at'≤2048∧gn (2048-used).toNat used D=gn (2048-at').toNat at' D'∧D'.Ok∧D'.ws.length≤D.ws.length+(at'-used).toNat) (λ⟨at',D'⟩=>[(0,(.pointer (some ⟨d,0,none⟩))),(5,(.pointer (some ⟨b17,0,none⟩))),(6,vr),(10,(.int .i64 (at')))]) (λ⟨at',D'⟩=>[ak b17 [(.pointer (some ⟨d,0,none⟩)),(.int .i64 (((rs.length:Nat):Int))),(.int .i64 (used))] 210,dk d (D'),my 93 5 vr (rs)]) (λ⟨at',D'⟩=>(2048-at').toNat) (used,D)
  ⟨by omega,by omega,rfl,hD,by omega⟩ SB
  (λ_ s=>am [1,0,0] rfl s) (λ⟨at',D'⟩ hinv=>?_)
 obtain⟨ha1,ha2,hwi,hD',hws⟩:=hinv;refine aa λ_ J12=>sr λ_ J13=>P2 ?_
 refine ao ?_ ?_<;>intro h59;refine nx J13 (CY (qx J12 (aa λ_ J14=>aq (aa λ_ J15=>sr λ_ J16=>P2 ?_))));refine CR Iw (A3 d (D') at' hD' (by omega)) (SM [1]) λvR HR hR=>?_
 obtain⟨hv,rfl⟩:=hR;subst hv;refine BV ((ej zs).toArray) ?_;refine tp (PV.eqlBy (a:=((D').read at')) (b:=zs) (m:=2) KS KR rfl KT KV KU (mg hD' _) (by decide) rfl rfl rfl) ?_;refine ao ?_ ?_<;>intro h66;refine nx J16 (CY (aX (aA (br (ac J14 (ae (PS ?_)))))));refine AD ?_;refine PS ?_;refine au ?_
 exact aK ((at'+1,D'):(Int)×(DS)) ⟨by omega,by omega,by rw[hwi];exact F7 (by omega) h66,hD',by omega⟩ (by show(2048- (at'+1)).toNat< (2048-at').toNat;omega)
  SB
  (λ_ s=>am [1,0,0] rfl s)
 refine nx J16 (CN (qx J15 (sr λ_ J17=>P2 ?_)));refine CQ Me (xG d (D') at' (.slice none 0 0) ([]) hD' (by omega)) ID (λ_ _ _=> .inl (.inl ⟨rfl,rfl⟩)) λvR HR hR=>?_
 obtain⟨hv,rfl⟩:=hR;subst hv;refine PS ?_;refine nx J17 (sr λ_ J18=>P2 ?_);refine ao ?_ ?_<;>intro h71;refine nx J18 (CY (sr λ_ J19=>P4 ?_));refine nx J19 (ai (aJ (af (af (aJ (af (WK [0] (nq rfl rfl rfl rfl ?_))))))));rw[wY hss (hwi.trans (F8 (by omega) h66 h71)) h71];exact .inl ⟨h71,rfl,rfl⟩;refine nx J18 (CN (aU (ag (ac J14 (ae (PS ?_))))));refine AD ?_;refine PS ?_;refine au ?_
 exact aK ((at'+1,(D'.write at' []).2):(Int)×(DS)) ⟨by omega,by omega,by rw[hwi];exact JG (by omega) h66 (by simpa using h71),DS.write_ok hD' _ _,by have:=DS.write_ws (D:=D') (at':=at') (bs:=[]);omega⟩ (by show(2048- (at'+1)).toNat< (2048-at').toNat;omega)
  SB
  (λ_ s=>am [1,0,0] rfl s)
 refine nx J13 (CN (aX (aA (aA (br (ac J10 (aa λ_ J20=>sr λ_ J21=>PS ?_)))))));refine CR Md (A2 d (D') hD') (SM [1]) λvR HR hR=>?_
 obtain⟨hv,rfl⟩:=hR;subst hv;refine PS ?_;refine nx J21 (sr λ_ J22=>P2 ?_);refine ao ?_ ?_<;>intro h76;refine nx J22 (CY (sr λ_ J23=>P4 ?_));refine nx J23 (ai (af (WK [0] (nq rfl rfl rfl rfl ?_))));rw[Ei hss (hwi.trans (Bt (by omega))) h76];exact .inl ⟨h76,rfl,rfl⟩;refine nx J22 (CN (qx J20 (sr λ_ J24=>?_)))
 iterate 5 refine PS ?_
 refine nx J24 (ai (WK [1,1,0] (nq rfl rfl rfl rfl ?_)));have h76':D'.sync.1=0:=by omega
 rw[AF hss (hwi.trans (Bt (by omega))) h76'];exact .inr ⟨rfl,b17,vr,rfl,rfl⟩;have hro:=oM hI hD (by omega) hst;have hfa:=(jX (mg hD _) hst).1;obtain⟨f',rfl,hsn⟩:=Scan.next hI hD hsc hst;refine TL.subLen 0 rfl rfl (λhul hu=>EN (PD 11 ?_));refine PD 12 ?_;refine PD 13 ?_;refine PD 14 ?_;refine PD 15 ?_;refine PD 16 ?_;refine PD 17 ?_;refine DN (ac J7 (aa λ_ J25=>sr λ_ J26=>PS ?_));refine PS ?_;refine nx J26 (CN (qx J25 (sr λ_ J27=>P2 ?_)));refine aW (cells:=#[u]) (ab rfl) rfl rfl rfl vq Hc rfl rfl rfl (s9 hu (by simp)) (λb37=>?_);change TL _ _ _ _ _ _ _ _ _ [ak b37 [u] 93,gL u (b) 5,dk d (D),ak b17 [(.pointer (some ⟨d,0,none⟩)),(.int .i64 (((rs.length:Nat):Int))),(.int .i64 (used))] 210,my 93 5 vr (rs)];refine cA (λ_ s=>aC [4] rfl s) (Ly (λus38=>cL (k:=0) (m:=1) (news:=[u]) (nn':=(rs).length+1) (xs':=us38++[u]) (ab rfl) rfl rfl rfl vq Hc rfl rfl rfl rfl rfl rfl (λ_ _=>jK rfl (RO 2) rfl) (List.forall_mem_cons.2 ⟨hu,λ_ h=>by cases h⟩) (by simp only[maxLen];omega) (by omega) rfl rfl (λv38 ov38=>?_)));change TL _ _ _ _ _ _ _ _ _ [own v38 ((rs).length+1) (us38++[u]) 93 1,eH us38 (rs) 5,ak b37 [u] 93,gL u (b) 5,dk d (D),ak b17 [(.pointer (some ⟨d,0,none⟩)),(.int .i64 (((rs.length:Nat):Int))),(.int .i64 (used))] 210]
 refine cA (H':=[own v38 ((rs).length+1) (us38++[u]) 93 1,eH us38 (rs) 5,gL u (b) 5,ak b37 [u] 93,dk d (D),ak b17 [(.pointer (some ⟨d,0,none⟩)),(.int .i64 (((rs.length:Nat):Int))),(.int .i64 (used))] 210]) (λ_ s=>aC [0,0,1] rfl s) (cA (λ_ s=>uF s) (PS ?_));refine nx J27 (sr λ_ J28=>P2 ?_);refine FA 1 qM aQ ?_;refine LA 3 Y3 ?_;refine tp (PG (v':=(.int .i64 ((((rs++[b]).length:Nat):Int)))) (cC rfl rfl rfl (bV (by omega) (by omega))) (congrArg (Value.int .i64) (by simp))) ?_;refine PS ?_;refine FA 1 qM aQ ?_;refine S0 3 aQ ?_;refine nx J28 (ae (P2 ?_));refine FA 2 qM aQ ?_;refine LA 3 Y3 ?_;refine PS ?_;refine AD ?_;refine PS ?_;refine FA 2 qM aQ ?_;refine S0 3 aQ ?_;refine au (ag ?_)
 exact aK ((f',rs++[b],used+all,v38):(Nat)×(List (List UInt8))×(Int)×(Value)) ⟨hsn,ov38⟩ (Nat.lt_succ_self _)
  SB
  (λ_ s=>am [3,2,0] rfl s)
end Go.Proofs.YtjblgopghhgflaaGreat
end

section
namespace Wal
open Go Leg Codec Api Dsk
theorem BW(s ws:fo)(j:Int): ∀k,eU (Cw s ws k) j=iC s ws j k
 |0=>rfl
 |k+1=>by
  rw[Cw,iC,kK,BW s ws j k]
  by_cases h:j=(km ws k).1
  · rw[if_pos h,if_pos h.symm]
  · rw[if_neg h,if_neg (λq=>h q.symm)]
theorem HQ{ws x:fo}{k:Nat}(h:k<ws.length):km (ws++x) k=km ws k:=by simp[km,List.getD_eq_getElem?_getD,List.getElem?_append_left h]
theorem wN{s ws x:fo}{j:Int}: ∀k,k≤ws.length→iC s (ws++x) j k=iC s ws j k
 |0,_=>rfl
 |k+1,h=>by rw[iC,iC,HQ (by omega),wN k (by omega)]
theorem GD(s ws:fo)(p:Int×hJ)(j:Int):iC s (ws++[p]) j (ws++[p]).length=if j=p.1 then p.2 else iC s ws j ws.length:=by
 rw[ah,ay,aD,bg,iC,wN _ (aH _)];have:km (ws++[p]) ws.length=p:=by simp[km,List.getD_eq_getElem?_getD]
 rw[this]
 by_cases h:j=p.1
 · rw[if_pos h,if_pos h.symm]
 · rw[if_neg h,if_neg (λq=>h q.symm)]
def tT(D:DS)(at':Int)(bs:List UInt8):DS:= {D with ws:=D.ws++[(at',eJ bs)],lf:=if D.ar=true then D.lf-1 else D.lf,dn:=false}
theorem ln{D:DS}{at':Int}{bs:List UInt8}(h1:0≤at'∧at'<2048)(h2:bs.length≤64)(h3:D.dn=false)(h4:D.ar=false∨0<D.lf):D.write at' bs=(0,tT D at' bs):=by
 rw[DS.write,if_neg (by omega),if_neg]
 · rfl
 · rintro (h| ⟨h,h5⟩)
   · rw[h3]at h;cases h
   · rcases h4 with h4|h4
     · rw[h4]at h;cases h
     · omega
theorem q6{D:DS}{at':Int}{bs:List UInt8}(h1:0≤at'∧at'<2048)(h2:bs.length≤64)(h4:D.ar=true∧D.lf=0):D.write at' bs=(4,{D with dn:=true}):=by
 rw[DS.write,if_neg (by omega),if_pos (.inr h4)]
theorem tS(D:DS)(at':Int)(bs:List UInt8)(j:Int):(tT D at' bs).read j=if j=at' then eJ bs else D.read j:=GD _ _ _ _
theorem vF{D:DS}(h:D.Ok){at':Int}{bs:List UInt8}(h2:bs.length≤64)(h4:D.ar=false∨0<D.lf):(tT D at' bs).Ok:=by
 refine⟨h.s,h.ws.add _ (dH h2),?_⟩;have:=h.lf;show 0≤(if D.ar=true then D.lf-1 else D.lf)∧(if D.ar=true then D.lf-1 else D.lf)≤9223372036854775807;split
 · rename_i h5
   rcases h4 with h4|h4
   · rw[h4]at h5;cases h5
   · omega
 · exact this
theorem vG{D:DS}(h:Wal.DS.In D){at':Int}{bs:List UInt8}(h1:0≤at'∧at'<2048):Wal.DS.In (tT D at' bs):=⟨h.1,λp hp=>by
 rcases cg.1 hp with hp|hp
 · exact h.2 p hp
 · simp only[cF]at hp;subst hp;exact h1⟩
theorem In.put{s:fo}(h:In s){k:Int}{v:hJ}(h1:0≤k∧k<2048):In (od s k v):=by
 induction s with
 |nil=>intro p hp;simp only[od,cF]at hp;subst hp;exact h1
 |cons p s ih=>
  obtain⟨a,b⟩:=p;intro q hq;simp only[od]at hq;split at hq
  · rcases co.1 hq with rfl|hq
    · exact h (a,b) (by simp)
    · exact h q (by simp[hq])
  · rcases co.1 hq with rfl|hq
    · exact h (a,b) (by simp)
    · exact ih (λq hq=>h q (by simp[hq])) q hq
theorem In.lay{s ws:fo}(h:In s)(hw:In ws): ∀k,k≤ws.length→In (Cw s ws k)
 |0,_=>h
 |k+1,hk=>by
  have:=hw (km ws k) (by rw[tG (by omega)];exact ec _);exact(In.lay h hw k (by omega)).put this
theorem In.crash{mask torn:Int}{c:Nat}{s ws:fo}(h:In s)(hw:In ws): ∀k,k≤ws.length→In (gv mask torn c s ws k)
 |0,_=>h
 |k+1,hk=>by
  have h1:=hw (km ws k) (by rw[tG (by omega)];exact ec _);have ih:=In.crash (mask:=mask) (torn:=torn) (c:=c) h hw k (by omega);simp only[gv,jI];split
  · exact ih.put h1
  · split
    · exact ih.put h1
    · exact ih
theorem In.nil:In []:=λ_ h=>absurd h (by simp)
abbrev KN:= @In.nil
structure Calm(D:DS):Prop where
 ok:D.Ok
 inn:Wal.DS.In D
 ar:D.ar=false
 dn:D.dn=false
theorem Calm.new:Calm DS.new:=⟨DS.new_ok,⟨KN,KN⟩,rfl,rfl⟩
theorem Calm.crash{D:DS}(h:D.Ok)(hi:Wal.DS.In D)(mask torn n:Int):Calm (D.crash mask torn n):=⟨DS.crash_ok h _ _ _,⟨hi.1.crash hi.2 _ (aH _),KN⟩,rfl,rfl⟩
abbrev Ou:= @Calm.crash
theorem qw{D:DS}(h:D.dn=false)(j:Int):D.sync.2.read j=D.read j:=by
 unfold DS.sync;rw[if_neg (by simp[h])];exact BW _ _ _ _
theorem lr{D:DS}(h:D.dn=false):D.sync.1=0∧D.sync.2.ws=[]∧D.sync.2.dn=false∧D.sync.2.ar=D.ar∧D.sync.2.lf=D.lf:=by
 unfold DS.sync;rw[if_neg (by simp[h])];exact⟨rfl,rfl,h,rfl,rfl⟩
theorem vD{D:DS}(h:Wal.DS.In D):Wal.DS.In D.sync.2:=by
 unfold DS.sync;split
 · exact h
 · exact⟨h.1.lay h.2 _ (aH _),KN⟩
theorem Calm.sync{D:DS}(h:Calm D):Calm D.sync.2:=by
 obtain⟨_,_,h3,h4,_⟩:=lr h.dn;exact⟨On h.ok,vD h.inn,h4.trans h.ar,h3⟩
theorem Calm.put{D:DS}(h:Calm D){at':Int}{bs:List UInt8}(h1:0≤at'∧at'<2048)(h2:bs.length≤64):Calm (tT D at' bs):=⟨vF h.ok h2 (.inl h.ar),vG h.inn h1,h.ar,rfl⟩
theorem wW:eJ []=zs:=rfl
theorem tC: ∀(n:Nat) (at':Int) (D:DS),Calm D→0≤at'→at'+n≤2048→∃D',gn n at' D=(0,D')∧Calm D'∧∀j,D'.read j=if at'≤j∧j<at'+n then zs else D.read j
 |0,at',D,h,_,_=>⟨D,rfl,h,λj=>by rw[if_neg (by omega)]⟩
 |n+1,at',D,h,h0,h1=>by
  by_cases hz:D.read at'=zs
  · obtain⟨D',e,c,r⟩:=tC n (at'+1) D h (by omega) (by omega)
    refine⟨D',by rw[gn,if_pos hz,e],c,λj=>?_⟩;rw[r j]
    by_cases q:j=at'
    · subst q;rw[if_neg (by omega),if_pos (by omega),hz]
    · by_cases q2:at'+1≤j∧j<at'+1+n
      · rw[if_pos q2,if_pos (by omega)]
      · rw[if_neg q2,if_neg (by omega)]
  · have hw:=ln (D:=D) (at':=at') (bs:=[]) (by omega) (by simp) h.dn (.inl h.ar)
    obtain⟨D',e,c,r⟩:=tC n (at'+1) (tT D at' []) (h.put (by omega) (by simp)) (by omega) (by omega);refine⟨D',by rw[gn,if_neg hz,hw,if_pos rfl,e],c,λj=>?_⟩;rw[r j,tS,wW]
    by_cases q:j=at'
    · subst q;rw[if_neg (by omega),if_pos rfl,if_pos (by omega)]
    · rw[if_neg q]
      by_cases q2:at'+1≤j∧j<at'+1+n
      · rw[if_pos q2,if_pos (by omega)]
      · rw[if_neg q2,if_neg (by omega)]
theorem Gs{D:DS}(h:Calm D):0≤(fJ D.read ie 0 0).2∧(fJ D.read ie 0 0).2≤2048∧((fJ D.read ie 0 0).1.length:Int)≤(fJ D.read ie 0 0).2:=by
 have key: ∀f rs used,Scan D f rs used→∃rs' used',fJ D.read ie 0 0=(rs',used')∧0≤used'∧used'≤2048∧(rs'.length:Int)≤used':=by
  intro f
  induction f with
  |zero=>
   intro rs used hs;cases hst:fA D.read ((rs.length:Int)+1) used with
   |none=>exact⟨rs,used,hs.stop hst,hs.2.1,hs.2.2.1,hs.2.2.2.2⟩
   |some p=>obtain⟨b,all⟩:=p;obtain⟨f',e,_⟩:=Scan.next h.inn h.ok hs hst;omega
  |succ f ih=>
   intro rs used hs;cases hst:fA D.read ((rs.length:Int)+1) used with
   |none=>exact⟨rs,used,hs.stop hst,hs.2.1,hs.2.2.1,hs.2.2.2.2⟩
   |some p=>
    obtain⟨b,all⟩:=p;obtain⟨f',e,hs'⟩:=Scan.next h.inn h.ok hs hst;obtain rfl:f=f':=by omega
    exact ih _ _ hs'
 obtain⟨rs,used,e,h1,h2,h3⟩:=key _ _ _ (Scan.start D);rw[e];exact⟨h1,h2,h3⟩
theorem GR{D:DS}(h:Calm D): ∃D',bH D=⟨0,(fJ D.read ie 0 0).1,(fJ D.read ie 0 0).2,D'⟩∧Calm D'∧D'.ws=[]∧∀j,D'.read j=if(fJ D.read ie 0 0).2≤j∧j<2048 then zs else D.read j:=by
 obtain⟨h1,h2,_⟩:=Gs h;generalize hr:fJ D.read ie 0 0=r at*;obtain⟨rs,used⟩:=r;simp only at h1 h2 ⊢;obtain⟨D',e,c,rd⟩:=tC (2048-used).toNat used D h h1 (by omega);obtain⟨s1,s2,_⟩:=lr c.dn;refine⟨D'.sync.2,AF hr e s1,c.sync,s2,λj=>?_⟩;rw[qw c.dn,rd j]
 by_cases q:used≤j∧j<2048
 · rw[if_pos q,if_pos (by omega)]
 · rw[if_neg q,if_neg (by omega)]
def gB:Nat→List (List UInt8)→List hJ
 |_,[]=>[]
 |n,b::ls=>bh ((n+1:Nat):Int) b++gB (n+1) ls
def cy(ls:List (List UInt8)):Nat:=(gB 0 ls).length
theorem mJ: ∀(a:List (List UInt8)) (n:Nat) (b:List (List UInt8)),gB n (a++b)=gB n a++gB (n+a.length) b
 | [],n,b=>by simp[gB]
 |x::a,n,b=>by
  simp only[pB,gB,mJ a (n+1) b,aR,ay];rw[show n+1+a.length=n+(a.length+1)by omega]
theorem zz: ∀(ls:List (List UInt8)) (n m:Nat),(gB n ls).length=(gB m ls).length
 | [],_,_=>rfl
 |b::ls,n,m=>by simp only[gB,ah,cx,zz ls (n+1) (m+1)]
theorem tM(ls:List (List UInt8))(b:List UInt8):cy (ls++[b])=cy ls+aZ b.length:=by
 simp[cy,mJ,gB,cx]
theorem wu: ∀ls:List (List UInt8),ls.length≤cy ls
 | []=>aH _
 |b::ls=>by
  have h1:=wu ls;have h2:=lP b.length;have h3:=zz ls 1 0;simp only[cy,gB,ah,cx,ay,h3]at*;omega
theorem sL{number:Int}{b:List UInt8}{k:Nat}(h:k< (bh number b).length):(bh number b)[k]=mx number k (aZ b.length) (gA b k):=by simp[bh]
theorem mE(number:Int)(b:List UInt8): ∀s∈bh number b,s.length=64:=λs hs=>by
 obtain⟨i,_,rfl⟩:=eG.1 hs;exact Gr (qA b i)
theorem rr{number:Int}{b:List UInt8}{k:Nat}(h:k< (bh number b).length)(h0:0≤number)(h1:number<4294967296)(hb:b.length≤3000):e7 (bh number b)[k] number k=some (gA b k,((aZ b.length:Nat):Int)):=by
 rw[sL h];rw[cx]at h;exact Cj (qA b k) h0 h1 h (by have:=oR hb;omega)
theorem zk{rd:Int→hJ}{number at':Int}{b:List UInt8}(h0:0≤number)(h1:number<4294967296)(hb:b.length≤3000): ∀k,k≤aZ b.length→(∀j (h:j< (bh number b).length),j<k→rd (at'+j)=(bh number b)[j])→
 kQ rd number at' ((aZ b.length:Nat):Int) k=some ((List.range k).map (gA b)).flatten
 |0,_,_=>rfl
 |k+1,hk,h=>by
  have ih:=zk h0 h1 hb k (by omega) (λj hj hj2=>h j hj (by omega));have hl:k< (bh number b).length:=by rw[cx];omega
  rw[w9 ih (by rw[h k hl (by omega)];exact rr hl h0 h1 hb)];simp[c9]
theorem uC{rd:Int→hJ}{number at':Int}{b:List UInt8}(h0:0≤number)(h1:number<4294967296)(hb:b.length≤3000)(h: ∀j (h:j< (bh number b).length),rd (at'+j)=(bh number b)[j]):fA rd number at'=some (b,((aZ b.length:Nat):Int)):=by
 have hl:0< (bh number b).length:=by rw[cx];exact lP _
 have hp:e7 (rd at') number 0=some (gA b 0,((aZ b.length:Nat):Int)):=by
  have e:=h 0 hl;rw[show at'+((0:Nat):Int)=at' by omega]at e;rw[e];exact rr hl h0 h1 hb
 refine sH hp ?_;rw[Jt,zk h0 h1 hb _ (aH _) (λj hj _=>h j hj),GL b _ (yl _)]
def Shows(rd:Int→hJ)(at':Int)(l:List hJ):Prop:=∀j (h:j<l.length),rd (at'+j)=l[j]
theorem Shows.left{rd:Int→hJ}{at':Int}{a b:List hJ}(h:Shows rd at' (a++b)):Shows rd at' a:=λj hj=>by
 rw[h j (by rw[ah];omega),PA hj]
theorem Shows.right{rd:Int→hJ}{at':Int}{a b:List hJ}(h:Shows rd at' (a++b)):Shows rd (at'+a.length) b:=λj hj=>by
 have:=h (a.length+j) (by rw[ah];omega);rw[show at'+((a.length+j:Nat):Int)=at'+a.length+j by omega]at this;rw[this,OI (by omega)];congr 1;omega
theorem wI{rd:Int→hJ}: ∀(ls:List (List UInt8)) (n:Nat) (at':Int) (f:Nat),(∀b∈ls,b.length≤3000)→n+ls.length<4294967296→Shows rd at' (gB n ls)→
 fJ rd (ls.length+f) n at'=(ls++(fJ rd f ((n+ls.length:Nat):Int) (at'+(gB n ls).length)).1,(fJ rd f ((n+ls.length:Nat):Int) (at'+(gB n ls).length)).2)
 | [],n,at',f,_,_,_=>by simp[gB]
 |b::ls,n,at',f,hl,hn,h=>by
  simp only[gB]at h ⊢;simp only[ay]at hn ⊢;have hs:=uC (rd:=rd) (number:=((n+1:Nat):Int)) (at':=at') (by omega) (by omega) (hl b (by simp)) h.left;have ih:=wI (rd:=rd) ls (n+1) (at'+(bh ((n+1:Nat):Int) b).length) f (λx hx=>hl x (by simp[hx])) (by omega) h.right;rw[cx]at ih;rw[show ls.length+1+f=(ls.length+f)+1 by omega,Aq (b:=b) (all:=((aZ b.length:Nat):Int)) (by rw[←hs];congr 1)];rw[show((n:Nat):Int)+1=((n+1:Nat):Int)by omega,ih];rw[ah,cx,show n+1+ls.length=n+(ls.length+1)by omega,show at'+((aZ b.length+(gB (n+1) ls).length:Nat):Int)=at'+((aZ b.length:Nat):Int)+(((gB (n+1) ls).length:Nat):Int)by omega];simp
structure LogD(D:DS)(ls:List (List UInt8)):Prop where
 ok:D.Ok
 inn:Wal.DS.In D
 ws:D.ws=[]
 short: ∀b∈ls,b.length≤3000
 room:cy ls≤2048
 shows:Shows D.read 0 (gB 0 ls)
 zero: ∀j,((cy ls:Nat):Int)≤j→D.read j=zs
theorem LogD.len{D:DS}{ls:List (List UInt8)}(h:LogD D ls):ls.length≤2048:=by have:=wu ls;have:=h.room;omega
theorem yZ{rd:Int→hJ}{number at':Int}(h:(rd at').getD 63 0≠1):fA rd number at'=none:=qQ (m9 h)
theorem zT:zs.getD 63 0≠1:=by decide
theorem LogD.scan{D:DS}{ls:List (List UInt8)}(h:LogD D ls):fJ D.read ie 0 0=(ls,((cy ls:Nat):Int)):=by
 have hl:=h.len;obtain⟨f,hf⟩: ∃f,ie=ls.length+f:=⟨ie-ls.length,by rw[qa];omega⟩;have:=wI (rd:=D.read) ls 0 0 f h.short (by omega) h.shows;rw[←hf]at this;rw[show((0:Nat):Int)=0 from rfl]at this;have hz:=h.zero _ (Int.le_refl _);simp only[cy]at hz;rw[this,Int.zero_add,qz (yZ (by rw[hz];exact zT))];simp[cy]
theorem LogD.new:LogD DS.new []:=⟨DS.new_ok,⟨KN,KN⟩,rfl,λ_ h=>absurd h (by simp),by decide,λj h=>absurd h (by simp[gB]),λj _=>rfl⟩
theorem LogD.open{D:DS}{ls:List (List UInt8)}(h:LogD D ls)(ha:D.ar=false)(hd:D.dn=false): ∃D',bH D=⟨0,ls,((cy ls:Nat):Int),D'⟩∧LogD D' ls∧D'.ar=false∧D'.dn=false:=by
 obtain⟨D',e,c,hw,hr⟩:=GR (D:=D) ⟨h.ok,h.inn,ha,hd⟩;rw[h.scan]at e hr
 have hrd: ∀j,D'.read j=D.read j:=λj=>by
  rw[hr j];split
  · rename_i q;rw[h.zero j q.1]
  · rfl
 exact⟨D',e,⟨c.ok,c.inn,hw,h.short,h.room,λj hj=>by rw[hrd];exact h.shows j hj,λj hj=>by rw[hrd];exact h.zero j hj⟩,c.ar,c.dn⟩
def pp:Int→List hJ→fo
 |_,[]=>[]
 |at',s::ss=>(at',s)::pp (at'+1) ss
theorem vU: ∀(ss:List hJ) (at':Int),(pp at' ss).length=ss.length
 | [],_=>rfl
 |s::ss,at'=>by simp[pp,vU ss]
theorem si: ∀(ss:List hJ) (at':Int) (k:Nat) (h:k<ss.length),km (pp at' ss) k=(at'+k,ss[k])
 |s::ss,at',0,_=>by simp[pp,km]
 |s::ss,at',k+1,h=>by
  have ih:=si ss (at'+1) k (by simpa using h);simp only[km,pp,List.getD_cons_succ]at ih ⊢;rw[ih];simp only[PY,Prod.mk.injEq,and_true];omega
theorem zh{s:hJ}(h:s.length=64):eJ s=s:=by simp[eJ,h]
theorem ux: ∀(ss:List hJ) (at':Int) (D:DS),D.Ok→Wal.DS.In D→D.dn=false→0≤at'→at'+ss.length≤2048→(∀s∈ss,s.length=64)→
 ∃(m:Nat) (D':DS),m≤ss.length∧fH ss at' D=((if m=ss.length then 0 else 4),D')∧D'.Ok∧Wal.DS.In D'∧D'.s=D.s∧D'.ws=D.ws++pp at' (ss.take m)∧D'.dn=decide (m<ss.length)∧D'.ar=D.ar∧(D.ar=false→m=ss.length)
 | [],at',D,h,hi,hd,_,_,_=>⟨0,D,aH _,rfl,h,hi,rfl,by simp[pp],by simp[hd],rfl,λ_=>rfl⟩
 |s::ss,at',D,h,hi,hd,h0,h1,hs=>by
  simp only[ay]at h1;have hs1:=hs s (by simp)
  by_cases hc:D.ar=true∧D.lf=0
  · have hw:=q6 (D:=D) (at':=at') (bs:=s) (by omega) (by omega) hc
    refine⟨0,{D with dn:=true},aN _,?_,⟨h.s,h.ws,h.lf⟩,hi,rfl,by simp[pp],by simp,rfl,λq=>by rw[q]at hc;cases hc.1⟩;rw[fH,hw];simp
  · have h4:D.ar=false∨0<D.lf:=by
     have:=h.lf;cases q:D.ar
     · exact .inl rfl
     · right
       have:D.lf≠0:=λe=>hc ⟨q,e⟩
       omega
    have hw:=ln (D:=D) (at':=at') (bs:=s) (by omega) (by omega) hd h4;obtain⟨m,D',a1,a2,a3,a4,a5,a6,a7,a8,a9⟩:=ux ss (at'+1) (tT D at' s) (vF h (by omega) h4) (vG hi (by omega)) rfl (by omega) (by omega) (λx hx=>hs x (by simp[hx]));refine⟨m+1,D',by simp;omega,?_,a3,a4,a5.trans rfl,?_,by rw[a7];simp,a8.trans rfl,λq=>by rw[a9 q];rfl⟩
    · rw[fH,hw]
      simp only[if_true,a2,ay,Nat.add_right_cancel_iff]
    · rw[a6]
      simp only[tT,List.take_succ_cons,pp,zh hs1,aR,pB,bO]
theorem Shows.append{rd:Int→hJ}{at':Int}{a b:List hJ}(h:Shows rd at' a)(g:Shows rd (at'+a.length) b):Shows rd at' (a++b):=λj hj=>by
 by_cases q:j<a.length
 · rw[PA q];exact h j q
 · rw[OI (by omega),←g (j-a.length) (by rw[ah]at hj;omega)]
   congr 1;omega
theorem y9(s:fo)(l:List hJ)(at' j:Int): ∀k,k≤l.length→iC s (pp at' l) j k=if at'≤j∧j<at'+k then l.getD (j-at').toNat zs else eU s j
 |0,_=>by rw[if_neg (by omega)];rfl
 |k+1,hk=>by
  rw[iC,si l at' k (by omega),y9 s l at' j k (by omega)]
  by_cases q:at'+k=j
  · rw[if_pos q,if_pos (by omega),show(j-at').toNat=k by omega]
    simp[List.getD_eq_getElem?_getD,show k<l.length by omega]
  · rw[if_neg q]
    by_cases q2:at'≤j∧j<at'+k
    · rw[if_pos q2,if_pos (by omega)]
    · rw[if_neg q2,if_neg (by omega)]
structure Half(D:DS)(ls:List (List UInt8))(bs:List UInt8):Prop where
 ok:D.Ok
 inn:Wal.DS.In D
 short: ∀b∈ls,b.length≤3000
 short':bs.length≤3000
 room:cy ls+aZ bs.length≤2048
 shows:Shows (eU D.s) 0 (gB 0 ls)
 zero: ∀j,((cy ls:Nat):Int)≤j→eU D.s j=zs
 ws: ∃m,m≤aZ bs.length∧D.ws=pp ((cy ls:Nat):Int) ((bh ((ls.length+1:Nat):Int) bs).take m)
theorem LogD.rds{D:DS}{ls:List (List UInt8)}(h:LogD D ls)(j:Int):D.read j=eU D.s j:=by rw[DS.read,h.ws];rfl
theorem Ie{D:DS}{ls:List (List UInt8)}{bs:List UInt8}(h:LogD D ls)(hd:D.dn=false)(hb:bs.length≤3000):
 (2048<cy ls+aZ bs.length∧la D ls.length ((cy ls:Nat):Int) bs=⟨3,ls.length,((cy ls:Nat):Int),D⟩)∨
 (cy ls+aZ bs.length≤2048∧∃D',la D ls.length ((cy ls:Nat):Int) bs=⟨0,ls.length+1,((cy (ls++[bs]):Nat):Int),D'⟩∧LogD D' (ls++[bs])∧D'.dn=false∧D'.ar=D.ar)∨
 (D.ar=true∧∃D',la D ls.length ((cy ls:Nat):Int) bs=⟨4,ls.length,((cy ls:Nat):Int),D'⟩∧Half D' ls bs):=by
 have hl:=h.len;have hp:=oR hb
 by_cases hr:2048<cy ls+aZ bs.length
 · exact .inl ⟨hr,Cf (by omega) (by omega)⟩
 · right
   have hss:(bh ((ls.length+1:Nat):Int) bs).length=aZ bs.length:=cx _ _;obtain⟨m,D',a1,a2,a3,a4,a5,a6,a7,a8,a9⟩:=ux (bh ((ls.length+1:Nat):Int) bs) ((cy ls:Nat):Int) D h.ok h.inn hd (by omega) (by rw[hss];omega) (mE _ _);rw[hss]at a1 a2 a7 a9;rw[h.ws,bO]at a6
   by_cases hm:m=aZ bs.length
   · left
     subst hm;rw[if_pos rfl]at a2;have hdn:D'.dn=false:=by rw[a7];simp
     obtain⟨s1,s2,s3,s4,s5⟩:=lr hdn;rw[az (by rw[hss];exact aH _)]at a6
     have hrd: ∀j,D'.sync.2.read j=if((cy ls:Nat):Int)≤j∧j< ((cy ls:Nat):Int)+aZ bs.length then(bh ((ls.length+1:Nat):Int) bs).getD (j- ((cy ls:Nat):Int)).toNat zs else D.read j:=λj=>by
      rw[qw hdn,DS.read,a6,vU,y9 _ _ _ _ _ (aH _),hss,a5,h.rds]
     have hsz:=tM ls bs;refine⟨by omega,D'.sync.2,?_,⟨On a3,vD a4,s2,λb hb'=>?_,by omega,?_,λj hj=>?_⟩,s3,s4.trans a8⟩
     · rw[put_ok (by omega) (by omega) a2 s1,hsz]
       simp only[PutR.mk.injEq,true_and,and_true];omega
     · rcases cg.1 hb' with hb'|hb'
       · exact h.short b hb'
       · simp only[cF]at hb';subst hb';exact hb
     · rw[mJ]
       refine Shows.append (λj hj=>?_) λj hj=>?_
       · rw[hrd,if_neg (by simp only[cy];omega)];exact h.shows j hj
       · simp only[gB,aP,bg]at hj ⊢
         rw[hrd,if_pos (by simp only[cy];rw[hss]at hj;omega),show(0+(((gB 0 ls).length:Nat):Int)+(j:Int)- ((cy ls:Nat):Int)).toNat=j by simp only[cy];omega];rw[List.getD_eq_getElem?_getD,List.getElem?_eq_getElem hj];rfl
     · rw[hrd,if_neg (by omega)]
       exact h.zero j (by omega)
   · right
     have har:D.ar=true:=by
      cases q:D.ar
      · exact absurd (a9 q) hm
      · rfl
     rw[if_neg hm]at a2;refine⟨har,D',zc (by omega) (by omega) a2 (by decide),⟨a3,a4,h.short,hb,by omega,λj hj=>?_,λj hj=>?_,m,a1,a6⟩⟩
     · rw[a5,←h.rds];exact h.shows j hj
     · rw[a5,←h.rds];exact h.zero j hj
theorem LogD.crash{D:DS}{ls:List (List UInt8)}(h:LogD D ls)(mask torn n:Int):LogD (D.crash mask torn n) ls∧(D.crash mask torn n).ar=false∧(D.crash mask torn n).dn=false:=by
 have hs:(D.crash mask torn n).s=D.s:=by simp only[DS.crash,h.ws];rfl
 have hr: ∀j,(D.crash mask torn n).read j=D.read j:=λj=>by rw[h.rds];show eU (D.crash mask torn n).s j=_;rw[hs]
 have c:=Ou h.ok h.inn mask torn n;exact⟨⟨c.ok,c.inn,rfl,h.short,h.room,λj hj=>by rw[hr];exact h.shows j hj,λj hj=>by rw[hr];exact h.zero j hj⟩,rfl,rfl⟩
theorem rM(mask torn:Int)(c:Nat)(s:fo)(l:List hJ)(at' j:Int): ∀k,k≤l.length→eU (gv mask torn c s (pp at' l) k) j=eU s j∨∃(i:Nat) (h:i<l.length),j=at'+i∧(eU (gv mask torn c s (pp at' l) k) j=l[i]∨eU (gv mask torn c s (pp at' l) k) j=lh (eU s j) l[i] c)
 |0,_=> .inl rfl
 |k+1,hk=>by
  have ih:=rM mask torn c s l at' j k (by omega);simp only[gv,jI,si l at' k (show k<l.length by omega)]
  by_cases q:j=at'+k
  · have ih2:eU (gv mask torn c s (pp at' l) k) (at'+k)=eU s j:=by
     subst q
     have: ∀m,m≤k→eU (gv mask torn c s (pp at' l) m) (at'+k)=eU s (at'+k):=by
      intro m
      induction m with
      |zero=>intro _;rfl
      |succ m ihm=>
       intro hm;simp only[gv,jI,si l at' m (show m<l.length by omega)];split
       · rw[kK,if_neg (by omega)];exact ihm (by omega)
       · split
         · rw[kK,if_neg (by omega)];exact ihm (by omega)
         · exact ihm (by omega)
     exact this k (aH _)
    split
    · right
      refine⟨k,by omega,q, .inr ?_⟩;rw[kK,if_pos q,ih2]
    · split
      · right
        refine⟨k,by omega,q, .inl ?_⟩;rw[kK,if_pos q]
      · exact ih
  · split
    · rw[kK,if_neg q];exact ih
    · split
      · rw[kK,if_neg q];exact ih
      · exact ih
theorem HV{new:hJ}{c:Nat}(hn:new.length=64)(hc:c≤64):lh zs new c=new∨(lh zs new c).getD 63 0≠1:=by
 by_cases h:c=64
 · left;subst h
   simp only[lh];rw[az (by omega),ci (by decide),aP]
 · right
   simp only[lh,List.getD_eq_getElem?_getD];rw[List.getElem?_append_right (by rw[bo];omega),bo,Nat.min_eq_left (by omega),List.getElem?_drop,show c+(63-c)=63 by omega];decide
def Oi(rd:Int→hJ)(ls:List (List UInt8))(bs:List UInt8):Prop:=∀j,((cy ls:Nat):Int)≤j→rd j=zs∨(∃(i:Nat) (h:i< (bh ((ls.length+1:Nat):Int) bs).length),j=((cy ls:Nat):Int)+i∧rd j=(bh ((ls.length+1:Nat):Int) bs)[i])∨(rd j).getD 63 0≠1
theorem Half.crash{D:DS}{ls:List (List UInt8)}{bs:List UInt8}(h:Half D ls bs)(mask torn n:Int):Calm (D.crash mask torn n)∧Shows (D.crash mask torn n).read 0 (gB 0 ls)∧Oi (D.crash mask torn n).read ls bs:=by
 obtain⟨m,hm,hws⟩:=h.ws;have hss:(bh ((ls.length+1:Nat):Int) bs).length=aZ bs.length:=cx _ _
 have hr: ∀j,(D.crash mask torn n).read j=eU (gv mask torn (mN n) D.s (pp ((cy ls:Nat):Int) ((bh ((ls.length+1:Nat):Int) bs).take m)) ((bh ((ls.length+1:Nat):Int) bs).take m).length) j:=λj=>by
  show eU (gv mask torn (mN n) D.s D.ws D.ws.length) j=_;rw[hws,vU]
 refine⟨Ou h.ok h.inn _ _ _,λj hj=>?_,λj hj=>?_⟩
 · rw[hr]
   rcases rM mask torn (mN n) D.s ((bh ((ls.length+1:Nat):Int) bs).take m) ((cy ls:Nat):Int) (0+j) _ (aH _)with e| ⟨i,hi,e,_⟩
   · rw[e];exact h.shows j hj
   · simp only[cy]at e;omega
 · rw[hr]
   rcases rM mask torn (mN n) D.s ((bh ((ls.length+1:Nat):Int) bs).take m) ((cy ls:Nat):Int) j _ (aH _)with e| ⟨i,hi,e,e2|e2⟩
   · left;rw[e];exact h.zero j hj
   · right;left
     refine⟨i,by rw[bo]at hi;omega,e,?_⟩;rw[e2,List.getElem_take]
   · right
     rw[h.zero j hj,List.getElem_take]at e2;have hi2:i< (bh ((ls.length+1:Nat):Int) bs).length:=by rw[bo]at hi;omega
     rcases HV (new:=(bh ((ls.length+1:Nat):Int) bs)[i]) (c:=mN n) (mE _ _ _ (ec _)) (mM n)with q|q
     · left;exact⟨i,hi2,e,by rw[e2,q]⟩
     · right;rw[e2];exact q
end Wal
end

section
namespace Go.Proofs.YtjblgopghhgflaaGreat
open Go Leg Codec Api
theorem DI(wb b off cap:Nat)(v:Value)(bs:List UInt8)(l:List Int)(cs:List Value)(T:TypeId)(z:Nat×Nat)(hlen:bs.length+10*l.length≤140737488355328)(hb: ∀j,j<l.length→cs[off+j]?=some (.int .i64 (l.getD j 0))):
 DT 84 #[(.pointer (some ⟨wb,0,none⟩)),(.slice (some ⟨b,off,none⟩) (l.length) (cap))] (λF=>F b=some (.cells cs.toArray T z)) [ak wb [v] 144,dW v (bs) 5] (ql 144 5 wb (bs++bj l)):=by
 refine BD 45 Tryz.func84 rfl rfl rfl λw0 F hF=>sr λ_ J1=>PS ?_
 refine nx J1 (aa λ_ J2=>sr λ_ J3=>PS ?_);refine tp (tr rfl kl rfl) ?_;refine PS ?_;refine nx J3 (aq ?_)
 refine bw (α:=(Nat)×(Value)×(List UInt8)) (λ⟨k,u,laid⟩=>k≤l.length∧laid++bj (l.drop k)=bs++bj l) (λ⟨k,u,laid⟩=>[(0,(.pointer (some ⟨wb,0,none⟩))),(4,(.pointer none)),(8,(.slice (some ⟨b,off,none⟩) (l.length) (cap))),(9,(.int .i64 (((l.length:Nat):Int)))),(10,(.int .i64 ((k:Nat))))]) (λ⟨k,u,laid⟩=>[ak wb [u] 144,dW u (laid) 5]) (λ⟨k,u,laid⟩=>l.length-k) (0,v,bs)
  ⟨by omega,rfl⟩ SB
  (λ_ s=>s) (λ⟨k,u,laid⟩ hinv=>?_)
 obtain⟨hk,hL⟩:=hinv;refine sr λ_ J4=>PS ?_
 refine ao ?_ ?_<;>intro h11;refine nx J4 (aa λ_ J5=>CY (qx J5 (aa λ_ J6=>aq (sr λ_ J7=>tp (jL (r:=off+k) rfl kl aQ rfl rfl (by first|omega|decide) (by first|omega|decide) (by omega)) ?_))));refine tp (ii (v:=(.int .i64 ((l.getD k 0)))) rfl Y3 rfl rfl (Rd.ro hF) (hb k (by omega))) ?_;refine PS ?_;refine nx J7 (sr λ_ J8=>PS ?_);refine tp (eB (r:=((((l.getD k 0%18446744073709551616).toNat:Nat)):Int)) rfl Y3 Tryz.underlying202 rfl (zV _)) ?_;refine PS ?_;refine nx J8 (aa λ_ J9=>aq ?_)
 refine bw (α:=(Nat)×(Value)×(List UInt8)) (λ⟨m,u2,laid2⟩=>laid2++(uj m++bj (l.drop (k+1)))=bs++bj l) (λ⟨m,u2,laid2⟩=>[(0,(.pointer (some ⟨wb,0,none⟩))),(4,(.pointer none)),(7,(.int .u64 ((m:Nat)))),(8,(.slice (some ⟨b,off,none⟩) (l.length) (cap))),(9,(.int .i64 (((l.length:Nat):Int)))),(10,(.int .i64 ((k:Nat))))]) (λ⟨m,u2,laid2⟩=>[ak wb [u2] 144,dW u2 (laid2) 5]) (λ⟨m,u2,laid2⟩=>m) ((l.getD k 0%18446744073709551616).toNat,u,laid)
  (by rw[←hL,Ho (l:=l) (k:=k) (by omega)];rfl) SB
  (λ_ s=>s) (λ⟨m,u2,laid2⟩ hinv=>?_)
 have hM:=hinv;refine aa λ_ J10=>sr λ_ J11=>P2 ?_
 refine ao ?_ ?_<;>intro h17;refine nx J11 (CY (qx J10 (aq (sr λ_ J12=>P3 ?_))));refine FA 0 Jl nS ?_;refine LA 0 gO ?_;refine PS ?_;refine tp (eB (r:=(IntKind.u8.wrap ((m:Nat):Int))) rfl Tryz.underlying202 Y5 rfl rfl) ?_;refine tp (Jo (r:=(((UInt8.ofNat (m%128+128)).toNat:Nat):Int)) rfl rfl rfl (M3 m)) ?_;refine aW (cells:=#[(.int .u8 ((((UInt8.ofNat (m%128+128)).toNat:Nat):Int)))]) (ab rfl) rfl rfl rfl gO zv rfl rfl rfl (by as_aux_lemma=>kernel_rfl) (λb26=>cL (k:=2) (news:=ej ([(UInt8.ofNat (m%128+128))])) (nn':=(laid2++[(UInt8.ofNat (m%128+128))]:List UInt8).length) (xs':=ej (laid2++[(UInt8.ofNat (m%128+128))])) (ab rfl) rfl rfl rfl gO zv rfl rfl rfl rfl rfl rfl (λ_ _=>jK rfl (RO 0) rfl) (eY [(UInt8.ofNat (m%128+128))]) (by have:=congrArg List.length hM;have:=aV l;have:=qd m;simp only[ah,maxLen]at*;omega) (by have:=congrArg List.length hM;have:=aV l;have:=qd m;simp only[ah]at*;omega) (by simp) (ji _ _).symm (λv27 ov27=>PS ?_));refine FA 0 Jl nS ?_;refine bF (i:=1) (ab rfl) rfl rfl rfl rfl ov27 nS rfl rfl (lb rfl) rfl rfl (nx J12 (ae (PS ?_)));refine tp (l8 (r:=((m / 128:Nat):Int)) rfl rfl rfl (by omega) (OQ m)) ?_;refine PS ?_;refine au (ag ?_)
 exact aK ((m / 128,v27,laid2++[(UInt8.ofNat (m%128+128))]):(Nat)×(Value)×(List UInt8)) (by rw[←hM,o6 (by omega)];simp) (by show m / 128<m;omega)
  SB
  (λ_ s=>am [1,1] rfl s)
 refine nx J11 (CN (aX (aA (aA (br (ac J9 (ae (P3 ?_))))))));refine FA 0 Jl nS ?_;refine LA 0 gO ?_;refine PS ?_;refine tp (eB (r:=(((UInt8.ofNat m).toNat:Nat):Int)) rfl Tryz.underlying202 Y5 rfl (KA (by omega))) ?_;refine aW (cells:=#[(.int .u8 ((((UInt8.ofNat m).toNat:Nat):Int)))]) (ab rfl) rfl rfl rfl gO zv rfl rfl rfl (by as_aux_lemma=>kernel_rfl) (λb39=>cL (k:=2) (news:=ej ([(UInt8.ofNat m)])) (nn':=(laid2++[(UInt8.ofNat m)]:List UInt8).length) (xs':=ej (laid2++[(UInt8.ofNat m)])) (ab rfl) rfl rfl rfl gO zv rfl rfl rfl rfl rfl rfl (λ_ _=>jK rfl (RO 0) rfl) (eY [(UInt8.ofNat m)]) (by have:=congrArg List.length hM;have:=aV l;have:=qd m;simp only[ah,maxLen]at*;omega) (by have:=congrArg List.length hM;have:=aV l;have:=qd m;simp only[ah]at*;omega) (by simp) (ji _ _).symm (λv40 ov40=>PS ?_));refine FA 0 Jl nS ?_;refine bF (i:=1) (ab rfl) rfl rfl rfl rfl ov40 nS rfl rfl (lb rfl) rfl rfl (au (ag (ac J6 (ae (AD ?_)))));refine PS ?_;refine au ?_
 exact aK ((k+1,v40,laid2++[(UInt8.ofNat m)]):(Nat)×(Value)×(List UInt8)) ⟨by omega,by rw[←hM,nK (by omega)];simp⟩ (by show _-_<_-_;omega)
  SB
  (λ_ s=>am [1,1] rfl s)
 refine nx J4 (aa λ_ J13=>CN (aX (aA (aA (br (ac J2 (sr λ_ J14=>P2 ?_)))))));refine nx J14 (ai (WK [0,0] (av rfl rfl ?_)));obtain rfl:laid=bs++bj l:=by rw[←hL,fj (by omega)];simp[bj]
 exact⟨u,rfl,rfl⟩
theorem HL(wb:Nat)(v:Value)(bs:List UInt8):
 DT 84 #[(.pointer (some ⟨wb,0,none⟩)),(.slice none 0 0)] T0 [ak wb [v] 144,dW v (bs) 5] (ql 144 5 wb (bs++bj [])):=by
 refine BD 45 Tryz.func84 rfl rfl rfl λw0 F hF=>sr λ_ J1=>PS ?_
 refine nx J1 (aa λ_ J2=>sr λ_ J3=>PS ?_);refine tp (tr rfl kl rfl) ?_;refine PS ?_;refine nx J3 (aq ?_)
 refine bw (α:=Unit) (λ_u=>True) (λ_u=>[(0,(.pointer (some ⟨wb,0,none⟩))),(4,(.pointer none)),(8,(.slice none 0 0)),(9,(.int .i64 0)),(10,(.int .i64 0))]) (λ_u=>[ak wb [v] 144,dW v (bs) 5]) (λ_u=>0) ()
  trivial SB
  (λ_ s=>s) (λ_u hinv=>?_)
 obtain _:=hinv;refine sr λ_ J4=>PS ?_
 refine nx J4 (aa λ_ J5=>CN (aX (aA (aA (br (ac J2 (sr λ_ J6=>P2 ?_)))))));refine nx J6 (ai (av rfl rfl ?_));exact⟨v,rfl,by rw[xx,aP]⟩
theorem dT(wb:Nat)(v:Value)(bs:List UInt8)(x:Value)(l:List Int)(hlen:bs.length+10*l.length≤140737488355328):DT 84 #[(.pointer (some ⟨wb,0,none⟩)),x] (PB x l) [ak wb [v] 144,dW v bs 5] (ql 144 5 wb (bs++bj l)):=by
 refine Leg.Does.of λF hF=>?_
 rcases id hF with⟨rfl,rfl⟩| ⟨b,off,cap,cs,T,z,rfl,h3,h4⟩
 · exact⟨_,trivial,HL wb v bs⟩
 · exact⟨_,h3,DI wb b off cap v bs l cs T z hlen h4⟩
theorem en(wb:Nat)(v:Value)(bs:List UInt8)(hlen:bs.length≤140737488355328):
 DT 89 #[(.pointer (some ⟨wb,0,none⟩))] T0 [ak wb [v] 144,dW v (bs) 5] (dz (λx H=>∃u,x=u∧H=[ak wb [v] 144,dW v bs 5,dW u bs 5])):=by
 refine Leg.Does.body (vs:=[(.pointer (some ⟨wb,0,none⟩))]) (n:=9) Tryz.func89 rfl rfl rfl (λw0 F hF=>?_);refine sr λ_ J1=>?_
 refine pC ?_;refine nx J1 ?_;refine sr λ_ J2=>?_
 refine Dr (ab rfl) rfl rfl rfl gO lB (λv3=>?_);change TL _ _ _ _ _ _ _ _ _ [dW v3 ([]) 5,ak wb [v] 144,dW v (bs) 5];refine mv ?_;refine tp (gk rfl rfl) ?_;refine tp (aY (r:=0) rfl Jl rfl nS rfl rfl) ?_;refine tp (ii (v:=v) rfl gO rfl rfl (fi 1 rfl rfl) rfl) ?_;refine cL (k:=0) (news:=ej (bs)) (nn':=(bs:List UInt8).length) (xs':=ej (bs)) (ab rfl) rfl rfl rfl gO zv rfl rfl rfl rfl rfl rfl (λ_ s=>PP 2 rfl rfl s) (eY _) (by simp only[maxLen,ay,aD];omega) (by simp only[ay,aD];omega) (by simp) (bO _) (λv8 ov8=>?_);change TL _ _ _ _ _ _ _ _ _ [dW v8 (bs) 5,ak wb [v] 144,dW v (bs) 5];refine pC ?_;refine nx J2 ?_;refine ai ?_;refine aF (dK _) (λ_ s=>am [1,1,0] rfl s) ?_;refine av rfl rfl ?_;exact⟨v8,rfl,rfl⟩
theorem Bp(wb:Nat)(v:Value)(bs:List UInt8)(a0 a1 g0 g1 g2 g3 g4:Int)(hlen:bs.length+70≤140737488355328):
 DT 88 #[(.pointer (some ⟨wb,0,none⟩)),(.agg #[(.int .i64 (a0)),(.int .i64 (a1)),(.int .i64 (g0)),(.int .i64 (g1)),(.int .i64 (g2)),(.int .i64 (g3)),(.int .i64 (g4))])] T0 [ak wb [v] 144,dW v (bs) 5] (ql 144 5 wb (bs++bj [a0,a1,g0,g1,g2,g3,g4])):=by
 refine BD 15 Tryz.func88 rfl rfl rfl λw0 F hF=>sr λ_ J1=>XB λb3=>?_
 refine PS ?_;refine nx J1 (aa λ_ J2=>D1 0 bm ?_);refine PD 0 ?_;refine FD 1 0 eS aQ ?_;refine LX 2 Y3 (.int .i64 (a0)) ?_ (hc:=by exact rfl);refine FD 3 1 eS aQ ?_;refine LX 4 Y3 (.int .i64 (a1)) ?_ (hc:=by exact rfl);refine FD 7 2 eS e8 ?_;refine ta 8 rfl (nO rfl jU aQ rfl) ?_;refine AL 5 ?_;refine aW (cells:=#[(.int .i64 (a0)),(.int .i64 (a1))]) (ab rfl) rfl rfl rfl kl rG rfl rfl rfl (by as_aux_lemma=>kernel_rfl) (λb10=>EN (AL 6 ?_));refine CQ nT (dT wb v (bs) (.slice (some ⟨b10,0,none⟩) (2) (2)) [a0,a1] (by simp only[ah,ay,aD,aB];first|omega| (have:=aV [a0,a1];simp only[ay,aD]at this;omega))) (SM [2,2]) (dL 0 rfl rfl rfl rfl) λvR HR hR=>?_
 obtain⟨u1,rfl,rfl⟩:=hR;refine EN (AL 9 ?_);refine CQ nT (dT wb u1 (bs++bj [a0,a1]) (.slice (some ⟨b3,2,none⟩) (5) (5)) [g0,g1,g2,g3,g4] (by simp only[ah,ay,aD,aB];first|omega| (have:=aV [a0,a1];simp only[ay,aD]at this;omega))) ID (dL 1 rfl rfl rfl rfl) λvR HR hR=>?_
 obtain⟨u2,rfl,rfl⟩:=hR;refine EN (PD 10 ?_);refine DN (ac J2 (ai (WK [0,0] (av rfl rfl ?_))));exact⟨_,rfl,by rw[aR,←qc];rfl⟩
theorem x9(wb:Nat)(v:Value)(bs:List UInt8)(a0 a1 a2:Int)(hlen:bs.length+30≤140737488355328):
 DT 87 #[(.pointer (some ⟨wb,0,none⟩)),(.agg #[(.int .i64 (a0)),(.int .i64 (a1)),(.int .i64 (a2))])] T0 [ak wb [v] 144,dW v (bs) 5] (ql 144 5 wb (bs++bj [a0,a1,a2])):=by
 refine BD 14 Tryz.func87 rfl rfl rfl λw0 F hF=>sr λ_ J1=>XB λb3=>?_
 refine PS ?_;refine nx J1 (sr λ_ J2=>PS ?_);refine FA 0 np aQ ?_;refine LA 0 Y3 ?_;refine FA 1 np aQ ?_;refine LA 0 Y3 ?_;refine FA 2 np aQ ?_;refine LA 0 Y3 ?_;refine aW (cells:=#[(.int .i64 (a0)),(.int .i64 (a1)),(.int .i64 (a2))]) (ab rfl) rfl rfl rfl kl rG rfl rfl rfl (by as_aux_lemma=>kernel_rfl) (λb12=>CQ nT (dT wb v (bs) (.slice (some ⟨b12,0,none⟩) (3) (3)) [a0,a1,a2] (by simp only[ah,ay,aD,aB];first|omega| (have:=aV [a0,a1];simp only[ay,aD]at this;omega))) (SM [2,2]) (dL 0 rfl rfl rfl rfl) λvR HR hR=>?_);obtain⟨u1,rfl,rfl⟩:=hR;refine PS ?_;exact nx J2 (ai (WK [0,0] (av rfl rfl ⟨_,rfl,rfl⟩)))
theorem ya(wb:Nat)(v:Value)(bs:List UInt8)(a0 a1:Int)(hlen:bs.length+20≤140737488355328):
 DT 86 #[(.pointer (some ⟨wb,0,none⟩)),(.agg #[(.int .i64 (a0)),(.int .i64 (a1))])] T0 [ak wb [v] 144,dW v (bs) 5] (ql 144 5 wb (bs++bj [a0,a1])):=by
 refine BD 12 Tryz.func86 rfl rfl rfl λw0 F hF=>sr λ_ J1=>XB λb3=>?_
 refine PS ?_;refine nx J1 (sr λ_ J2=>PS ?_);refine FA 0 kg aQ ?_;refine LA 0 Y3 ?_;refine FA 1 kg aQ ?_;refine LA 0 Y3 ?_;refine aW (cells:=#[(.int .i64 (a0)),(.int .i64 (a1))]) (ab rfl) rfl rfl rfl kl rG rfl rfl rfl (by as_aux_lemma=>kernel_rfl) (λb10=>CQ nT (dT wb v (bs) (.slice (some ⟨b10,0,none⟩) (2) (2)) [a0,a1] (by simp only[ah,ay,aD,aB];first|omega| (have:=aV [a0,a1];simp only[ay,aD]at this;omega))) (SM [2,2]) (dL 0 rfl rfl rfl rfl) λvR HR hR=>?_);obtain⟨u1,rfl,rfl⟩:=hR;refine PS ?_;exact nx J2 (ai (WK [0,0] (av rfl rfl ⟨_,rfl,rfl⟩)))
theorem Bw(wb:Nat)(v:Value)(bs:List UInt8)(a0 a1 g0 g1 g2 g3 g4:Int)(hlen:bs.length+70≤140737488355328):
 DT 127 #[(.pointer (some ⟨wb,0,none⟩)),(.agg #[(.int .i64 (a0)),(.int .i64 (a1)),(.int .i64 (g0)),(.int .i64 (g1)),(.int .i64 (g2)),(.int .i64 (g3)),(.int .i64 (g4))])] T0 [ak wb [v] 144,dW v (bs) 5] (dz (λx H=>∃v',x= .tuple #[]∧H=[ak wb [v'] 144,dW v' (bs++bj [a0,a1,g0,g1,g2,g3,g4]) 5])):=by
 refine BD 14 Tryz.func127 rfl rfl rfl λw0 F hF=>sr λ_ J1=>XB λb3=>?_
 refine nx J1 (D1 0 bm ?_);refine PD 0 ?_;refine FD 1 0 mV aQ ?_;refine LX 2 Y3 (.int .i64 (a0)) ?_ (hc:=by exact rfl);refine FD 3 1 mV aQ ?_;refine LX 4 Y3 (.int .i64 (a1)) ?_ (hc:=by exact rfl);refine FD 7 2 mV e8 ?_;refine ta 8 rfl (nO rfl jU aQ rfl) ?_;refine AL 5 ?_;refine aW (cells:=#[(.int .i64 (a0)),(.int .i64 (a1))]) (ab rfl) rfl rfl rfl kl rG rfl rfl rfl (by as_aux_lemma=>kernel_rfl) (λb9=>EN (AL 6 ?_));refine CQ nT (dT wb v (bs) (.slice (some ⟨b9,0,none⟩) (2) (2)) [a0,a1] (by simp only[ah,ay,aD,aB];first|omega| (have:=aV [a0,a1];simp only[ay,aD]at this;omega))) (SM [2,2]) (dL 0 rfl rfl rfl rfl) λvR HR hR=>?_
 obtain⟨u1,rfl,rfl⟩:=hR;refine EN (AL 9 ?_);refine CQ nT (dT wb u1 (bs++bj [a0,a1]) (.slice (some ⟨b3,2,none⟩) (5) (5)) [g0,g1,g2,g3,g4] (by simp only[ah,ay,aD,aB];first|omega| (have:=aV [a0,a1];simp only[ay,aD]at this;omega))) ID (dL 1 rfl rfl rfl rfl) λvR HR hR=>?_
 obtain⟨u2,rfl,rfl⟩:=hR;refine EN (DN (WK [0,0] (bD rfl ?_)));exact⟨_,rfl,by rw[aR,←qc];rfl⟩
theorem vZ(wb:Nat)(v:Value)(bs:List UInt8)(c:CellT)(hlen:bs.length+70≤140737488355328):DT 127 #[(.pointer (some ⟨wb,0,none⟩)),c.val] T0 [ak wb [v] 144,dW v bs 5] (dz (λx H=>∃v',x= .tuple #[]∧H=[ak wb [v'] 144,dW v' (bs++bj c.flat) 5])):=by
 obtain⟨i,o,g⟩:=c;exact MP (p:=λg=>Leg.Does Tryz.prog 127 #[(.pointer (some ⟨wb,0,none⟩)),CellT.val ⟨i,o,g⟩] (λ_=>True) [ak wb [v] 144,dW v bs 5] (dz (λx H=>∃v',x= .tuple #[]∧H=[ak wb [v'] 144,dW v' (bs++bj (CellT.flat ⟨i,o,g⟩)) 5]))) (λa b c d e=>Bw wb v bs i o a b c d e hlen) g
theorem qZ(wb:Nat)(v:Value)(bs:List UInt8)(x:ViewT)(hlen:bs.length+70≤140737488355328):DT 88 #[(.pointer (some ⟨wb,0,none⟩)),x.val] T0 [ak wb [v] 144,dW v bs 5] (ql 144 5 wb (bs++bj x.flat)):=by
 obtain⟨i,o,g⟩:=x;exact MP (p:=λg=>Leg.Does Tryz.prog 88 #[(.pointer (some ⟨wb,0,none⟩)),ViewT.val ⟨i,o,g⟩] (λ_=>True) [ak wb [v] 144,dW v bs 5] (ql 144 5 wb (bs++bj (ViewT.flat ⟨i,o,g⟩)))) (λa b c d e=>Bp wb v bs i o a b c d e hlen) g
theorem oH(wb:Nat)(v:Value)(bs:List UInt8)(x:ChangeT)(hlen:bs.length+30≤140737488355328):DT 87 #[(.pointer (some ⟨wb,0,none⟩)),x.val] T0 [ak wb [v] 144,dW v bs 5] (ql 144 5 wb (bs++bj x.flat)):=x9 wb v bs x.kind x.who x.heir (by omega)
theorem jA(wb:Nat)(v:Value)(bs:List UInt8)(x:BallotT)(hlen:bs.length+30≤140737488355328):DT 86 #[(.pointer (some ⟨wb,0,none⟩)),x.val] T0 [ak wb [v] 144,dW v bs 5] (ql 144 5 wb (bs++bj x.flat)):=ya wb v bs x.round x.who (by omega)
theorem tB(wb:Nat)(v:Value)(bs:List UInt8)(x:RowT)(hlen:bs.length+2000≤140737488355328):
 DT 85 #[(.pointer (some ⟨wb,0,none⟩)),(.agg (ints x.flat).toArray)] T0 [ak wb [v] 144,dW v (bs) 5] (ql 144 5 wb (bs++dQ x)):=by
 refine BD 50 Tryz.func85 rfl rfl rfl λw0 F hF=>sr λ_ J1=>XY (ints x.flat) λb3=>?_
 refine PS ?_;refine nx J1 (sr λ_ J2=>PS ?_);refine FA 0 ee aQ ?_;refine LT 0 Y3 (.int .i64 (x.version)) ?_ (hc:=by exact RowT.get_version _);refine aW (cells:=#[(.int .i64 (x.version))]) (ab rfl) rfl rfl rfl kl rG rfl rfl rfl (by as_aux_lemma=>kernel_rfl) (λb14=>CQ nT (dT wb v (bs) (.slice (some ⟨b14,0,none⟩) (1) (1)) [x.version] (by have:=congrArg List.length (Eq.refl bs);have:=iy x;simp only[ah,ay,aD]at*;omega)) (SM [2,2]) (dL 0 rfl rfl rfl rfl) λvR HR hR=>?_);obtain⟨u1,rfl,rfl⟩:=hR;refine nx J2 (aa λ_ J3=>sr λ_ J4=>FA 1 ee lH ?_);refine tp (aM (vs:=ints (bL x.cells.toList)) rfl Bm rfl lH rfl (RO 3) (by rw[ints_length,cq];simp) (RowT.get_cells _)) ?_;refine PS ?_;refine nx J4 (aq ?_)
 refine bw (α:=(Nat)×(Value)×(List UInt8)) (λ⟨k,u,laid⟩=>k≤4∧laid++(bj (bL (x.cells.toList.drop k))++fb x 5 0)=bs++dQ x) (λ⟨k,u,laid⟩=>[(0,(.pointer (some ⟨wb,0,none⟩))),(3,(.pointer (some ⟨b3,0,none⟩))),(4,(.pointer none)),(17,(.agg (ints (bL x.cells.toList)).toArray)),(18,(.int .i64 ((k:Nat))))]) (λ⟨k,u,laid⟩=>[ak b3 (ints x.flat) 60,ak wb [u] 144,dW u (laid) 5]) (λ⟨k,u,laid⟩=>4-k) (0,u1,bs++bj [x.version])
  ⟨by omega,by simp[dQ,bj]⟩ SB
  (λ_ s=>am [3,0,0] rfl s) (λ⟨k,u,laid⟩ hinv=>?_)
 obtain⟨hk,hL⟩:=hinv;have hE:=hL;rw[show bj (bL (x.cells.toList.drop k))=bj (bL (x.cells.toList.drop k))from rfl]at hE;refine sr λ_ J5=>PS ?_
 refine ao ?_ ?_<;>intro h19;refine nx J5 (aa λ_ J6=>CY (qx J6 (aa λ_ J7=>aq (sr λ_ J8=>tp (PJ (cs:=ints (bL (x.cells.toList))) (r:=k*7) rfl Bm mV rfl fF rfl rfl (by omega) (by omega) (by omega) (zy (by simp;omega))) ?_))));refine XA Jv λb6=>?_
 refine bN (vs:=ints ((x.cells.toList)[k]'(by simp;omega)).flat) (cs':=ints ((x.cells.toList)[k]'(by simp;omega)).flat) (i:=0) (ab rfl) rfl rfl rfl rfl rfl (by rw[bu];exact fF) (bC _) rfl rfl (by rw[bu];exact aH _) (fX (by rw[bu];rfl)) rfl (nx J8 (ae (PS ?_)));refine tp (aM (vs:=ints ((x.cells.toList)[k]'(by simp;omega)).flat) rfl mV rfl fF rfl (RO 0) (bu _) (by rw[bd,az (by rw[bu];decide)])) ?_;refine CR Lm (vZ wb u (laid) ((x.cells.toList)[k]'(by simp;omega)) (by have:=congrArg List.length hE;have:=iy x;have:=aV ((x.cells.toList)[k]'(by simp;omega)).flat;rw[bA]at this;simp only[ah]at*;omega)) (SM [2,2]) λvR HR hR=>?_
 obtain⟨u2,rfl,rfl⟩:=hR;refine au (ag (ac J7 (ae (AD ?_))));refine PS ?_;refine au ?_
 exact aK ((k+1,u2,laid++bj ((x.cells.toList)[k]'(by simp;omega)).flat):(Nat)×(Value)×(List UInt8)) ⟨by omega,by rw[←hL,o5 (l:=x.cells.toList) (k:=k) (by simp;omega)];simp⟩ (by show _-_<_-_;omega)
  SB
  (λ_ s=>am [3,0,0] rfl s)
 refine nx J5 (aa λ_ J9=>CN (aX (aA (aA (br (ac J3 (aa λ_ J10=>sr λ_ J11=>FA 29 ee e8 ?_)))))));refine tp (aM (vs:=ints x.heir.toList) rfl jU rfl e8 rfl (RO 0) (by rw[ints_length];simp) (RowT.get_heirs _)) ?_;refine PS ?_;refine nx J11 (aq ?_)
 refine bw (α:=(Nat)×(Value)×(List UInt8)) (λ⟨i,u,laid⟩=>i≤5∧laid++fb x (5-i) i=bs++dQ x) (λ⟨i,u,laid⟩=>[(0,(.pointer (some ⟨wb,0,none⟩))),(3,(.pointer (some ⟨b3,0,none⟩))),(4,(.pointer none)),(26,(.agg (ints x.heir.toList).toArray)),(27,(.int .i64 ((i:Nat))))]) (λ⟨i,u,laid⟩=>[ak b3 (ints x.flat) 60,ak wb [u] 144,dW u (laid) 5]) (λ⟨i,u,laid⟩=>5-i) (0,u,laid)
  ⟨by omega,by rw[←hL,fj (by simp;omega)];simp[bL,bj]⟩ SB
  (λ_ s=>am [0,0,0] rfl s) (λ⟨i,u,laid⟩ hinv=>?_)
 obtain⟨hi,hL⟩:=hinv;have hE:=hL;refine sr λ_ J12=>PS ?_
 refine ao ?_ ?_<;>intro h28;refine nx J12 (aa λ_ J13=>CY (qx J13 (aa λ_ J14=>aq (sr λ_ J15=>PS ?_))));refine tp (kZ (cs:=ints x.heir.toList) (v:= .int .i64 (x.heir[i]'(by omega))) (r:=i) rfl jU Y3 rfl aQ rfl rfl (by omega) (by omega) (by omega) (by rw[ints_get _ _ (by simp;omega)];simp[List.getD_eq_getElem?_getD,show i<5 by omega])) ?_;refine P2 ?_;refine nx J15 (sr λ_ J16=>P2 ?_);refine aW (cells:=#[(.int .i64 (x.heir[i]'(by omega)))]) (ab rfl) rfl rfl rfl kl rG rfl rfl rfl (by as_aux_lemma=>kernel_rfl) (λb33=>CQ nT (dT wb u (laid) (.slice (some ⟨b33,0,none⟩) (1) (1)) [x.heir[i]'(by omega)] (by have:=congrArg List.length hE;have:=iy x;simp only[ah,ay,aD]at*;omega)) (SM [2,2]) (dL 0 rfl rfl rfl rfl) λvR HR hR=>?_);obtain⟨u2,rfl,rfl⟩:=hR;refine nx J16 (sr λ_ J17=>P2 ?_);refine ao ?_ ?_<;>intro h36;refine nx J17 (CY (sr λ_ J18=>PS ?_));refine FA 34 ee BC ?_;refine IX (34+i*28) Lx lH ?_;refine tp (aM (vs:=ints (bL (x.left[i]'(by omega)).toList)) rfl Bm rfl lH rfl (RO 3) (by rw[ints_length,cq];simp) (RowT.get_left _ i (by omega))) ?_;refine PS ?_;refine nx J18 (aq ?_)
 refine bw (α:=(Nat)×(Value)×(List UInt8)) (λ⟨k,u3,laid3⟩=>k≤4∧laid3++(bj (bL ((x.left[i]'(by omega)).toList.drop k))++fb x (5- (i+1)) (i+1))=bs++dQ x) (λ⟨k,u3,laid3⟩=>[(0,(.pointer (some ⟨wb,0,none⟩))),(3,(.pointer (some ⟨b3,0,none⟩))),(4,(.pointer none)),(26,(.agg (ints x.heir.toList).toArray)),(27,(.int .i64 ((i:Nat)))),(40,(.agg (ints (bL (x.left[i]'(by omega)).toList)).toArray)),(41,(.int .i64 ((k:Nat))))]) (λ⟨k,u3,laid3⟩=>[ak b3 (ints x.flat) 60,ak wb [u3] 144,dW u3 (laid3) 5]) (λ⟨k,u3,laid3⟩=>4-k) (0,u2,laid++bj [x.heir[i]'(by omega)])
  ⟨by omega,by rw[←hL,qU (i:=i) (by omega),if_pos h36];simp[bj]⟩ SB
  (λ_ s=>am [3,0,0] rfl s) (λ⟨k,u3,laid3⟩ hinv=>?_)
 obtain⟨hk,hM⟩:=hinv;have hE:=hM;refine sr λ_ J19=>PS ?_
 refine ao ?_ ?_<;>intro h42;refine nx J19 (aa λ_ J20=>CY (qx J20 (aa λ_ J21=>aq (sr λ_ J22=>tp (PJ (cs:=ints (bL ((x.left[i]'(by omega)).toList))) (r:=k*7) rfl Bm mV rfl fF rfl rfl (by omega) (by omega) (by omega) (zy (by simp;omega))) ?_))));refine XA Jv λb10=>?_
 refine bN (vs:=ints (((x.left[i]'(by omega)).toList)[k]'(by simp;omega)).flat) (cs':=ints (((x.left[i]'(by omega)).toList)[k]'(by simp;omega)).flat) (i:=0) (ab rfl) rfl rfl rfl rfl rfl (by rw[bu];exact fF) (bC _) rfl rfl (by rw[bu];exact aH _) (fX (by rw[bu];rfl)) rfl (nx J22 (ae (PS ?_)));refine tp (aM (vs:=ints (((x.left[i]'(by omega)).toList)[k]'(by simp;omega)).flat) rfl mV rfl fF rfl (RO 0) (bu _) (by rw[bd,az (by rw[bu];decide)])) ?_;refine CR Lm (vZ wb u3 (laid3) (((x.left[i]'(by omega)).toList)[k]'(by simp;omega)) (by have:=congrArg List.length hE;have:=iy x;have:=aV (((x.left[i]'(by omega)).toList)[k]'(by simp;omega)).flat;rw[bA]at this;simp only[ah]at*;omega)) (SM [2,2]) λvR HR hR=>?_
 obtain⟨u3,rfl,rfl⟩:=hR;refine au (ag (ac J21 (ae (AD ?_))));refine PS ?_;refine au ?_
 exact aK ((k+1,u3,laid3++bj (((x.left[i]'(by omega)).toList)[k]'(by simp;omega)).flat):(Nat)×(Value)×(List UInt8)) ⟨by omega,by rw[←hM,o5 (l:=(x.left[i]'(by omega)).toList) (k:=k) (by simp;omega)];simp⟩ (by show _-_<_-_;omega)
  SB
  (λ_ s=>am [3,0,0] rfl s)
 refine nx J19 (aa λ_ J23=>CN (aX (aA (aA (br (ag (ac J14 (ae (AD ?_)))))))));refine PS ?_;refine au ?_
 exact aK ((i+1,u3,laid3):(Nat)×(Value)×(List UInt8)) ⟨by omega,by rw[←hM,fj (by simp;omega)];simp[bL,bj]⟩ (by show _-_<_-_;omega)
  SB
  (λ_ s=>am [0,0,0] rfl s)
 refine nx J17 (CN (aU (ag (ac J14 (ae (AD ?_))))));refine PS ?_;refine au ?_
 exact aK ((i+1,u2,laid++bj [x.heir[i]'(by omega)]):(Nat)×(Value)×(List UInt8)) ⟨by omega,by rw[←hL,qU (i:=i) (by omega),if_neg h36];simp[bj]⟩ (by show _-_<_-_;omega)
  SB
  (λ_ s=>am [3,0,0] rfl s)
 refine nx J12 (aa λ_ J24=>CN (aX (aA (aA (br (ac J10 (sr λ_ J25=>P2 ?_)))))));refine nx J25 (ai (WK [1,1] (av rfl rfl ?_)));obtain rfl:laid=bs++dQ x:=by rw[←hL,show 5-i=0 by omega];simp[fb]
 exact⟨u,rfl,rfl⟩
theorem CM(m:MsgT):
 DT 205 #[(.agg (ints m.flat).toArray)] T0 [] (dz (λr' H=>∃u,r'=u∧H=[dW u (cS m) 5])):=by
 refine BD 100 Tryz.func205 rfl rfl rfl λw0 F hF=>sr λ_ J1=>XY (ints m.flat) λb1=>?_
 refine PS ?_;refine nx J1 (sr λ_ J2=>XA MM λb4=>?_);refine TL.ownNil 5 (λon=>?_);clear on;refine PS ?_;refine nx J2 (aa λ_ J3=>sr λ_ J4=>FA 0 bf aQ ?_);refine LU 2 Y3 (eX m rfl) ?_;refine nx J4 (aq (aa λ_ J5=>fg (α:=Unit) (λ_u=>True) (λ_u=>[(1,(.pointer (some ⟨b1,0,none⟩))),(2,(.slice none 0 0)),(3,(.pointer (some ⟨b4,0,none⟩))),(6,(.int .i64 (m.kind))),(7,(.bool ((ek m.kind))))]) (λ_u=>[dW (.slice none 0 0) ([]) 5,ak b4 [(.slice none 0 0)] 144,ak b1 (ints m.flat) 178]) (λ_u hinv=>?_) (λtl5=>?_)));have _:=hinv;refine ac J5 (TC.cond rfl (λh7=>?_) (λh7=>?_));refine D1 2 bm ?_;refine PD 0 ?_;refine FD 1 0 bf aQ ?_;refine LR 2 Y3 (eX m rfl) ?_;refine FD 3 1 bf aQ ?_;refine LR 4 Y3 (cn m rfl) ?_;refine FD 7 2 bf be ?_;refine ta 8 rfl (aM (vs:=ints m.row.flat) rfl ee rfl be rfl (λ_ h=>h.2.1) (aj m.row) (mq m 0 rfl (by decide) (whole (aj m.row)))) ?_;refine AL 5 ?_;refine aW (cells:=#[(.int .i64 (m.kind)),(.int .i64 (m.whose))]) (ab rfl) rfl rfl rfl kl rG rfl rfl rfl (by as_aux_lemma=>kernel_rfl) (λb16=>EN (AL 6 ?_));refine CQ nT (dT b4 (.slice none 0 0) ([]) (.slice (some ⟨b16,0,none⟩) (2) (2)) [m.kind,m.whose] (by simp)) (SM [2,1]) (dL 0 rfl rfl rfl rfl) λvR HR hR=>?_
 obtain⟨u1,rfl,rfl⟩:=hR;refine EN (AL 9 ?_);refine CR L9 (tB b4 u1 (bj [m.kind,m.whose]) m.row (by(have:=aV [m.kind,m.whose]);simp only[BallotT.flat,ViewT.flat,ChangeT.flat,ay,aD,aB,ah]at*;omega)) ID λvR HR hR=>?_
 obtain⟨u2,rfl,rfl⟩:=hR;refine EN (DN (ag (ac J3 (sr λ_ J6=>PS ?_))));refine CR ry (en b4 u2 (bj [m.kind,m.whose]++dQ m.row) (by(have:=aV [m.kind,m.whose]);(have:=iy m.row);simp only[BallotT.flat,ViewT.flat,ChangeT.flat,ay,aD,aB,ah]at*;omega)) ID λvR HR hR=>?_
 obtain⟨_,rfl,rfl⟩:=hR;revert vR;intro u3;refine PS ?_;refine nx J6 (ai (WK [2] (av rfl rfl ?_)));exact⟨_,rfl,congrArg (λb=>[dW u3 b 5]) (show(bj [m.kind,m.whose]++dQ m.row)=cS m by simp[cS,bj, *])⟩;refine sr λ_ J7=>PS ?_
 refine ao ?_ ?_<;>intro h22;refine PS ?_;refine nx J7 (CY (ae (PS ?_)));refine FA 0 bf aQ ?_;refine LU 2 Y3 (eX m rfl) ?_;refine FA 176 bf aQ ?_;refine LU 2 Y3 (MsgT.at_version m rfl) ?_;refine aW (cells:=#[(.int .i64 (m.kind)),(.int .i64 (m.version))]) (ab rfl) rfl rfl rfl kl rG rfl rfl rfl (by as_aux_lemma=>kernel_rfl) (λb28=>CQ nT (dT b4 (.slice none 0 0) ([]) (.slice (some ⟨b28,0,none⟩) (2) (2)) [m.kind,m.version] (by simp)) (SM [2,1]) (dL 0 rfl rfl rfl rfl) λvR HR hR=>?_);obtain⟨u1,rfl,rfl⟩:=hR;refine au (ag (ac J3 (sr λ_ J8=>PS ?_)));refine CR ry (en b4 u1 (bj [m.kind,m.version]) (by(have:=aV [m.kind,m.version]);simp only[BallotT.flat,ViewT.flat,ChangeT.flat,ay,aD,aB,ah]at*;omega)) ID λvR HR hR=>?_
 obtain⟨_,rfl,rfl⟩:=hR;revert vR;intro u2;refine PS ?_;refine nx J8 (ai (WK [2] (av rfl rfl ?_)));exact⟨_,rfl,congrArg (λb=>[dW u2 b 5]) (show(bj [m.kind,m.version])=cS m by simp[cS,ek,e5,bj, *])⟩;refine PS ?_;refine nx J7 (CN (aa λ_ J9=>fg (α:=Unit) (λ_u=>True) (λ_u=>[(1,(.pointer (some ⟨b1,0,none⟩))),(2,(.slice none 0 0)),(3,(.pointer (some ⟨b4,0,none⟩))),(6,(.int .i64 (m.kind))),(30,(.bool ((e5 m.kind))))]) (λ_u=>[dW (.slice none 0 0) ([]) 5,ak b4 [(.slice none 0 0)] 144,ak b1 (ints m.flat) 178]) (λ_u hinv=>?_) (λtl9=>?_)));have _:=hinv;refine ac J9 (TC.cond rfl (λh30=>?_) (λh30=>?_));refine D1 2 bm ?_;refine PD 0 ?_;refine FD 1 0 bf aQ ?_;refine LR 2 Y3 (eX m rfl) ?_;refine FD 3 177 bf aQ ?_;refine LR 4 Y3 (eO m rfl) ?_;refine FD 7 178 bf cz ?_;refine ta 8 rfl (aM (vs:=ints m.ballot.flat) rfl kg rfl cz rfl (λ_ h=>h.2.1) (ap m.ballot) (jg m 0 rfl (by decide) (whole (ap m.ballot)))) ?_;refine AL 5 ?_;refine aW (cells:=#[(.int .i64 (m.kind)),(.int .i64 (m.epoch))]) (ab rfl) rfl rfl rfl kl rG rfl rfl rfl (by as_aux_lemma=>kernel_rfl) (λb38=>EN (AL 6 ?_));refine CQ nT (dT b4 (.slice none 0 0) ([]) (.slice (some ⟨b38,0,none⟩) (2) (2)) [m.kind,m.epoch] (by simp)) (SM [2,1]) (dL 0 rfl rfl rfl rfl) λvR HR hR=>?_
 obtain⟨u1,rfl,rfl⟩:=hR;refine EN (AL 9 ?_);refine CR GX (jA b4 u1 (bj [m.kind,m.epoch]) m.ballot (by(have:=aV [m.kind,m.epoch]);simp only[BallotT.flat,ViewT.flat,ChangeT.flat,ay,aD,aB,ah]at*;omega)) ID λvR HR hR=>?_
 obtain⟨u2,rfl,rfl⟩:=hR;refine EN (DN (ag (ac J3 (sr λ_ J10=>PS ?_))));refine CR ry (en b4 u2 (bj [m.kind,m.epoch]++bj m.ballot.flat) (by(have:=aV [m.kind,m.epoch]);(have:=aV (m.ballot.flat));simp only[BallotT.flat,ViewT.flat,ChangeT.flat,ay,aD,aB,ah]at*;omega)) ID λvR HR hR=>?_
 obtain⟨_,rfl,rfl⟩:=hR;revert vR;intro u3;refine PS ?_;refine nx J10 (ai (WK [2] (av rfl rfl ?_)));exact⟨_,rfl,congrArg (λb=>[dW u3 b 5]) (show(bj [m.kind,m.epoch]++bj m.ballot.flat)=cS m by simp[cS,bj, *])⟩;refine sr λ_ J11=>PS ?_
 refine ao ?_ ?_<;>intro h44;refine PS ?_;refine nx J11 (CY (D1 2 bm ?_));refine PD 0 ?_;refine FD 1 0 bf aQ ?_;refine LR 2 Y3 (eX m rfl) ?_;refine FD 3 177 bf aQ ?_;refine LR 4 Y3 (eO m rfl) ?_;refine FD 7 178 bf cz ?_;refine ta 8 rfl (aM (vs:=ints m.ballot.flat) rfl kg rfl cz rfl (λ_ h=>h.2.1) (ap m.ballot) (jg m 0 rfl (by decide) (whole (ap m.ballot)))) ?_;refine FD 10 180 bf cz ?_;refine ta 11 rfl (aM (vs:=ints m.had.flat) rfl kg rfl cz rfl (λ_ h=>h.2.1) (ap m.had) (PW m 0 rfl (by decide) (whole (ap m.had)))) ?_;refine FD 13 182 bf fI ?_;refine ta 14 rfl (aM (vs:=ints m.change.flat) rfl np rfl fI rfl (λ_ h=>h.2.1) (aL m.change) (nt m 0 rfl (by decide) (whole (aL m.change)))) ?_;refine AL 5 ?_;refine aW (cells:=#[(.int .i64 (m.kind)),(.int .i64 (m.epoch))]) (ab rfl) rfl rfl rfl kl rG rfl rfl rfl (by as_aux_lemma=>kernel_rfl) (λb50=>EN (AL 6 ?_));refine CQ nT (dT b4 (.slice none 0 0) ([]) (.slice (some ⟨b50,0,none⟩) (2) (2)) [m.kind,m.epoch] (by simp)) (SM [2,1]) (dL 0 rfl rfl rfl rfl) λvR HR hR=>?_
 obtain⟨u1,rfl,rfl⟩:=hR;refine EN (AL 9 ?_);refine CR GX (jA b4 u1 (bj [m.kind,m.epoch]) m.ballot (by(have:=aV [m.kind,m.epoch]);simp only[BallotT.flat,ViewT.flat,ChangeT.flat,ay,aD,aB,ah]at*;omega)) ID λvR HR hR=>?_
 obtain⟨u2,rfl,rfl⟩:=hR;refine EN (AL 12 ?_);refine CR GX (jA b4 u2 (bj [m.kind,m.epoch]++bj m.ballot.flat) m.had (by(have:=aV [m.kind,m.epoch]);(have:=aV (m.ballot.flat));simp only[BallotT.flat,ViewT.flat,ChangeT.flat,ay,aD,aB,ah]at*;omega)) ID λvR HR hR=>?_
 obtain⟨u3,rfl,rfl⟩:=hR;refine EN (AL 15 ?_);refine CR L8 (oH b4 u3 (bj [m.kind,m.epoch]++bj m.ballot.flat++bj m.had.flat) m.change (by(have:=aV [m.kind,m.epoch]);(have:=aV (m.ballot.flat));(have:=aV (m.had.flat));simp only[BallotT.flat,ViewT.flat,ChangeT.flat,ay,aD,aB,ah]at*;omega)) ID λvR HR hR=>?_
 obtain⟨u4,rfl,rfl⟩:=hR;refine EN (DN (ag (ac J3 (sr λ_ J12=>PS ?_))));refine CR ry (en b4 u4 (bj [m.kind,m.epoch]++bj m.ballot.flat++bj m.had.flat++bj m.change.flat) (by(have:=aV [m.kind,m.epoch]);(have:=aV (m.ballot.flat));(have:=aV (m.had.flat));(have:=aV (m.change.flat));simp only[BallotT.flat,ViewT.flat,ChangeT.flat,ay,aD,aB,ah]at*;omega)) ID λvR HR hR=>?_
 obtain⟨_,rfl,rfl⟩:=hR;revert vR;intro u5;refine PS ?_;refine nx J12 (ai (WK [2] (av rfl rfl ?_)));exact⟨_,rfl,congrArg (λb=>[dW u5 b 5]) (show(bj [m.kind,m.epoch]++bj m.ballot.flat++bj m.had.flat++bj m.change.flat)=cS m by simp[cS,ek,e5,bj, *])⟩;refine PS ?_;refine nx J11 (CN (sr λ_ J13=>PS ?_));refine ao ?_ ?_<;>intro h62;refine PS ?_;refine nx J13 (CY (D1 2 bm ?_));refine PD 0 ?_;refine FD 1 0 bf aQ ?_;refine LR 2 Y3 (eX m rfl) ?_;refine FD 3 177 bf aQ ?_;refine LR 4 Y3 (eO m rfl) ?_;refine FD 7 178 bf cz ?_;refine ta 8 rfl (aM (vs:=ints m.ballot.flat) rfl kg rfl cz rfl (λ_ h=>h.2.1) (ap m.ballot) (jg m 0 rfl (by decide) (whole (ap m.ballot)))) ?_;refine FD 10 182 bf fI ?_;refine ta 11 rfl (aM (vs:=ints m.change.flat) rfl np rfl fI rfl (λ_ h=>h.2.1) (aL m.change) (nt m 0 rfl (by decide) (whole (aL m.change)))) ?_;refine AL 5 ?_;refine aW (cells:=#[(.int .i64 (m.kind)),(.int .i64 (m.epoch))]) (ab rfl) rfl rfl rfl kl rG rfl rfl rfl (by as_aux_lemma=>kernel_rfl) (λb68=>EN (AL 6 ?_));refine CQ nT (dT b4 (.slice none 0 0) ([]) (.slice (some ⟨b68,0,none⟩) (2) (2)) [m.kind,m.epoch] (by simp)) (SM [2,1]) (dL 0 rfl rfl rfl rfl) λvR HR hR=>?_
 obtain⟨u1,rfl,rfl⟩:=hR;refine EN (AL 9 ?_);refine CR GX (jA b4 u1 (bj [m.kind,m.epoch]) m.ballot (by(have:=aV [m.kind,m.epoch]);simp only[BallotT.flat,ViewT.flat,ChangeT.flat,ay,aD,aB,ah]at*;omega)) ID λvR HR hR=>?_
 obtain⟨u2,rfl,rfl⟩:=hR;refine EN (AL 12 ?_);refine CR L8 (oH b4 u2 (bj [m.kind,m.epoch]++bj m.ballot.flat) m.change (by(have:=aV [m.kind,m.epoch]);(have:=aV (m.ballot.flat));simp only[BallotT.flat,ViewT.flat,ChangeT.flat,ay,aD,aB,ah]at*;omega)) ID λvR HR hR=>?_
 obtain⟨u3,rfl,rfl⟩:=hR;refine EN (DN (ag (ac J3 (sr λ_ J14=>PS ?_))));refine CR ry (en b4 u3 (bj [m.kind,m.epoch]++bj m.ballot.flat++bj m.change.flat) (by(have:=aV [m.kind,m.epoch]);(have:=aV (m.ballot.flat));(have:=aV (m.change.flat));simp only[BallotT.flat,ViewT.flat,ChangeT.flat,ay,aD,aB,ah]at*;omega)) ID λvR HR hR=>?_
 obtain⟨_,rfl,rfl⟩:=hR;revert vR;intro u4;refine PS ?_;refine nx J14 (ai (WK [2] (av rfl rfl ?_)));exact⟨_,rfl,congrArg (λb=>[dW u4 b 5]) (show(bj [m.kind,m.epoch]++bj m.ballot.flat++bj m.change.flat)=cS m by simp[cS,ek,e5,bj, *])⟩;refine PS ?_;refine nx J13 (CN (sr λ_ J15=>PS ?_));refine ao ?_ ?_<;>intro h77;refine PS ?_;refine nx J15 (CY (D1 2 bm ?_));refine PD 0 ?_;refine FD 1 0 bf aQ ?_;refine LR 2 Y3 (eX m rfl) ?_;refine FD 5 185 bf bk ?_;refine ta 6 rfl (aM (vs:=ints m.view.flat) rfl eS rfl bk rfl (λ_ h=>h.2.1) (an m.view) (vz m 0 rfl (by decide) (whole (an m.view)))) ?_;refine AL 3 ?_;refine aW (cells:=#[(.int .i64 (m.kind))]) (ab rfl) rfl rfl rfl kl rG rfl rfl rfl (by as_aux_lemma=>kernel_rfl) (λb81=>EN (AL 4 ?_));refine CQ nT (dT b4 (.slice none 0 0) ([]) (.slice (some ⟨b81,0,none⟩) (1) (1)) [m.kind] (by simp)) (SM [2,1]) (dL 0 rfl rfl rfl rfl) λvR HR hR=>?_
 obtain⟨u1,rfl,rfl⟩:=hR;refine EN (AL 7 ?_);refine CR L7 (qZ b4 u1 (bj [m.kind]) m.view (by(have:=aV [m.kind]);simp only[BallotT.flat,ViewT.flat,ChangeT.flat,ay,aD,aB,ah]at*;omega)) ID λvR HR hR=>?_
 obtain⟨u2,rfl,rfl⟩:=hR;refine EN (DN (ag (ac J3 (sr λ_ J16=>PS ?_))));refine CR ry (en b4 u2 (bj [m.kind]++bj m.view.flat) (by(have:=aV [m.kind]);(have:=aV (m.view.flat));simp only[BallotT.flat,ViewT.flat,ChangeT.flat,ay,aD,aB,ah]at*;omega)) ID λvR HR hR=>?_
 obtain⟨_,rfl,rfl⟩:=hR;revert vR;intro u3;refine PS ?_;refine nx J16 (ai (WK [2] (av rfl rfl ?_)));exact⟨_,rfl,congrArg (λb=>[dW u3 b 5]) (show(bj [m.kind]++bj m.view.flat)=cS m by simp[cS,ek,e5,bj, *])⟩;refine PS ?_;refine nx J15 (CN (sr λ_ J17=>PS ?_));refine ao ?_ ?_<;>intro h87;refine PS ?_;refine nx J17 (CY (D1 2 bm ?_));refine PD 0 ?_;refine FD 1 0 bf aQ ?_;refine LR 2 Y3 (eX m rfl) ?_;refine FD 3 1 bf aQ ?_;refine LR 4 Y3 (cn m rfl) ?_;refine FD 7 185 bf bk ?_;refine ta 8 rfl (aM (vs:=ints m.view.flat) rfl eS rfl bk rfl (λ_ h=>h.2.1) (an m.view) (vz m 0 rfl (by decide) (whole (an m.view)))) ?_;refine AL 5 ?_;refine aW (cells:=#[(.int .i64 (m.kind)),(.int .i64 (m.whose))]) (ab rfl) rfl rfl rfl kl rG rfl rfl rfl (by as_aux_lemma=>kernel_rfl) (λb93=>EN (AL 6 ?_));refine CQ nT (dT b4 (.slice none 0 0) ([]) (.slice (some ⟨b93,0,none⟩) (2) (2)) [m.kind,m.whose] (by simp)) (SM [2,1]) (dL 0 rfl rfl rfl rfl) λvR HR hR=>?_
 obtain⟨u1,rfl,rfl⟩:=hR;refine EN (AL 9 ?_);refine CR L7 (qZ b4 u1 (bj [m.kind,m.whose]) m.view (by(have:=aV [m.kind,m.whose]);simp only[BallotT.flat,ViewT.flat,ChangeT.flat,ay,aD,aB,ah]at*;omega)) ID λvR HR hR=>?_
 obtain⟨u2,rfl,rfl⟩:=hR;refine EN (DN (ag (ac J3 (sr λ_ J18=>PS ?_))));refine CR ry (en b4 u2 (bj [m.kind,m.whose]++bj m.view.flat) (by(have:=aV [m.kind,m.whose]);(have:=aV (m.view.flat));simp only[BallotT.flat,ViewT.flat,ChangeT.flat,ay,aD,aB,ah]at*;omega)) ID λvR HR hR=>?_
 obtain⟨_,rfl,rfl⟩:=hR;revert vR;intro u3;refine PS ?_;refine nx J18 (ai (WK [2] (av rfl rfl ?_)));exact⟨_,rfl,congrArg (λb=>[dW u3 b 5]) (show(bj [m.kind,m.whose]++bj m.view.flat)=cS m by simp[cS,ek,e5,bj, *])⟩;refine PS ?_;refine nx J17 (CN (aU (ag (ac J3 (sr λ_ J19=>PS ?_)))));refine CR ry (en b4 (.slice none 0 0) ([]) (by simp)) (SM [1,0]) λvR HR hR=>?_
 obtain⟨_,rfl,rfl⟩:=hR;revert vR;intro u1;refine PS ?_;refine nx J19 (ai (WK [2] (av rfl rfl ?_)));exact⟨_,rfl,congrArg (λb=>[dW u1 b 5]) (show([]:List UInt8)=cS m by simp[cS,bj, *])⟩;refine sr λ_ J20=>P2 ?_
 refine ao ?_ ?_<;>intro h30;refine nx J20 (CY (aU ?_))
 exact aF
  (aT (aT (aT (aT (bz rfl (by simp[e5, *]) SB)))))
  (λ_ s=>s)
  (tl9 (():Unit) trivial)
 refine nx J20 (CN (ae (PS ?_)));refine ao ?_ ?_<;>intro h32;refine PS ?_;refine au ?_
 exact aF
  (aT (aT (aT (aT (bz rfl (by simp[e5, *]) SB)))))
  (λ_ s=>s)
  (tl9 (():Unit) trivial)
 refine PS ?_;refine au ?_
 exact aF
  (aT (aT (aT (aT (bz rfl (by simp[e5, *]) SB)))))
  (λ_ s=>s)
  (tl9 (():Unit) trivial)
 refine sr λ_ J21=>P2 ?_
 refine ao ?_ ?_<;>intro h7;refine nx J21 (CY (aU ?_))
 exact aF
  (aT (aT (aT (aT (bz rfl (by simp[ek, *]) SB)))))
  (λ_ s=>s)
  (tl5 (():Unit) trivial)
 refine nx J21 (CN (sr λ_ J22=>P2 ?_));refine ao ?_ ?_<;>intro h7;refine nx J22 (CY (aU ?_))
 exact aF
  (aT (aT (aT (aT (bz rfl (by simp[ek, *]) SB)))))
  (λ_ s=>s)
  (tl5 (():Unit) trivial)
 refine nx J22 (CN (ae (PS ?_)));refine ao ?_ ?_<;>intro h10;refine PS ?_;refine au ?_
 exact aF
  (aT (aT (aT (aT (bz rfl (by simp[ek, *]) SB)))))
  (λ_ s=>s)
  (tl5 (():Unit) trivial)
 refine PS ?_;refine au ?_
 exact aF
  (aT (aT (aT (aT (bz rfl (by simp[ek, *]) SB)))))
  (λ_ s=>s)
  (tl5 (():Unit) trivial)
theorem Cc(m:RecT):
 DT 50 #[(.agg (ints m.flat).toArray)] T0 [] (dz (λr' H=>∃u,r'=u∧H=[dW u (fO m) 5])):=by
 refine BD 77 Tryz.func50 rfl rfl rfl λw0 F hF=>sr λ_ J1=>XY (ints m.flat) λb1=>?_
 refine PS ?_;refine nx J1 (sr λ_ J2=>XA MM λb4=>?_);refine TL.ownNil 5 (λon=>?_);clear on;refine PS ?_;refine nx J2 (aa λ_ J3=>sr λ_ J4=>FA 0 je aQ ?_);refine LU 2 Y3 (kA m rfl) ?_;refine nx J4 (aq (sr λ_ J5=>PS ?_));refine ao ?_ ?_<;>intro h8;refine PS ?_;refine nx J5 (CY (D1 2 bm ?_));refine PD 0 ?_;refine FD 1 0 je aQ ?_;refine LR 2 Y3 (kA m rfl) ?_;refine FD 5 2 je be ?_;refine ta 6 rfl (aM (vs:=ints m.row.flat) rfl ee rfl be rfl (λ_ h=>h.2.1) (aj m.row) (rU m 0 rfl (by decide) (whole (aj m.row)))) ?_;refine AL 3 ?_;refine aW (cells:=#[(.int .i64 (m.kind))]) (ab rfl) rfl rfl rfl kl rG rfl rfl rfl (by as_aux_lemma=>kernel_rfl) (λb12=>EN (AL 4 ?_));refine CQ nT (dT b4 (.slice none 0 0) ([]) (.slice (some ⟨b12,0,none⟩) (1) (1)) [m.kind] (by simp)) (SM [2,1]) (dL 0 rfl rfl rfl rfl) λvR HR hR=>?_
 obtain⟨u1,rfl,rfl⟩:=hR;refine EN (AL 7 ?_);refine CR L9 (tB b4 u1 (bj [m.kind]) m.row (by(have:=aV [m.kind]);simp only[BallotT.flat,ViewT.flat,ChangeT.flat,ay,aD,aB,ah]at*;omega)) ID λvR HR hR=>?_
 obtain⟨u2,rfl,rfl⟩:=hR;refine EN (DN (ag (ac J3 (sr λ_ J6=>PS ?_))));refine CR ry (en b4 u2 (bj [m.kind]++dQ m.row) (by(have:=aV [m.kind]);(have:=iy m.row);simp only[BallotT.flat,ViewT.flat,ChangeT.flat,ay,aD,aB,ah]at*;omega)) ID λvR HR hR=>?_
 obtain⟨_,rfl,rfl⟩:=hR;revert vR;intro u3;refine PS ?_;refine nx J6 (ai (WK [2] (av rfl rfl ?_)));exact⟨_,rfl,congrArg (λb=>[dW u3 b 5]) (show(bj [m.kind]++dQ m.row)=fO m by simp[fO,ek,e5,bj, *])⟩;refine PS ?_;refine nx J5 (CN (sr λ_ J7=>PS ?_));refine ao ?_ ?_<;>intro h18;refine PS ?_;refine nx J7 (CY (D1 2 bm ?_));refine PD 0 ?_;refine FD 1 0 je aQ ?_;refine LR 2 Y3 (kA m rfl) ?_;refine FD 3 1 je aQ ?_;refine LR 4 Y3 (F4 m rfl) ?_;refine FD 7 2 je be ?_;refine ta 8 rfl (aM (vs:=ints m.row.flat) rfl ee rfl be rfl (λ_ h=>h.2.1) (aj m.row) (rU m 0 rfl (by decide) (whole (aj m.row)))) ?_;refine AL 5 ?_;refine aW (cells:=#[(.int .i64 (m.kind)),(.int .i64 (m.whose))]) (ab rfl) rfl rfl rfl kl rG rfl rfl rfl (by as_aux_lemma=>kernel_rfl) (λb24=>EN (AL 6 ?_));refine CQ nT (dT b4 (.slice none 0 0) ([]) (.slice (some ⟨b24,0,none⟩) (2) (2)) [m.kind,m.whose] (by simp)) (SM [2,1]) (dL 0 rfl rfl rfl rfl) λvR HR hR=>?_
 obtain⟨u1,rfl,rfl⟩:=hR;refine EN (AL 9 ?_);refine CR L9 (tB b4 u1 (bj [m.kind,m.whose]) m.row (by(have:=aV [m.kind,m.whose]);simp only[BallotT.flat,ViewT.flat,ChangeT.flat,ay,aD,aB,ah]at*;omega)) ID λvR HR hR=>?_
 obtain⟨u2,rfl,rfl⟩:=hR;refine EN (DN (ag (ac J3 (sr λ_ J8=>PS ?_))));refine CR ry (en b4 u2 (bj [m.kind,m.whose]++dQ m.row) (by(have:=aV [m.kind,m.whose]);(have:=iy m.row);simp only[BallotT.flat,ViewT.flat,ChangeT.flat,ay,aD,aB,ah]at*;omega)) ID λvR HR hR=>?_
 obtain⟨_,rfl,rfl⟩:=hR;revert vR;intro u3;refine PS ?_;refine nx J8 (ai (WK [2] (av rfl rfl ?_)));exact⟨_,rfl,congrArg (λb=>[dW u3 b 5]) (show(bj [m.kind,m.whose]++dQ m.row)=fO m by simp[fO,ek,e5,bj, *])⟩;refine PS ?_;refine nx J7 (CN (sr λ_ J9=>PS ?_));refine ao ?_ ?_<;>intro h30;refine PS ?_;refine nx J9 (CY (ae (PS ?_)));refine FA 0 je aQ ?_;refine LU 2 Y3 (kA m rfl) ?_;refine FA 1 je aQ ?_;refine LU 2 Y3 (F4 m rfl) ?_;refine aW (cells:=#[(.int .i64 (m.kind)),(.int .i64 (m.whose))]) (ab rfl) rfl rfl rfl kl rG rfl rfl rfl (by as_aux_lemma=>kernel_rfl) (λb36=>CQ nT (dT b4 (.slice none 0 0) ([]) (.slice (some ⟨b36,0,none⟩) (2) (2)) [m.kind,m.whose] (by simp)) (SM [2,1]) (dL 0 rfl rfl rfl rfl) λvR HR hR=>?_);obtain⟨u1,rfl,rfl⟩:=hR;refine au (ag (ac J3 (sr λ_ J10=>PS ?_)));refine CR ry (en b4 u1 (bj [m.kind,m.whose]) (by(have:=aV [m.kind,m.whose]);simp only[BallotT.flat,ViewT.flat,ChangeT.flat,ay,aD,aB,ah]at*;omega)) ID λvR HR hR=>?_
 obtain⟨_,rfl,rfl⟩:=hR;revert vR;intro u2;refine PS ?_;refine nx J10 (ai (WK [2] (av rfl rfl ?_)));exact⟨_,rfl,congrArg (λb=>[dW u2 b 5]) (show(bj [m.kind,m.whose])=fO m by simp[fO,ek,e5,bj, *])⟩;refine PS ?_;refine nx J9 (CN (sr λ_ J11=>PS ?_));refine ao ?_ ?_<;>intro h39;refine PS ?_;refine nx J11 (CY (D1 2 bm ?_));refine PD 0 ?_;refine FD 1 0 je aQ ?_;refine LR 2 Y3 (kA m rfl) ?_;refine FD 3 176 je aQ ?_;refine LR 4 Y3 (RecT.at_epoch m rfl) ?_;refine FD 7 177 je cz ?_;refine ta 8 rfl (aM (vs:=ints m.ballot.flat) rfl kg rfl cz rfl (λ_ h=>h.2.1) (ap m.ballot) (qN m 0 rfl (by decide) (whole (ap m.ballot)))) ?_;refine AL 5 ?_;refine aW (cells:=#[(.int .i64 (m.kind)),(.int .i64 (m.epoch))]) (ab rfl) rfl rfl rfl kl rG rfl rfl rfl (by as_aux_lemma=>kernel_rfl) (λb45=>EN (AL 6 ?_));refine CQ nT (dT b4 (.slice none 0 0) ([]) (.slice (some ⟨b45,0,none⟩) (2) (2)) [m.kind,m.epoch] (by simp)) (SM [2,1]) (dL 0 rfl rfl rfl rfl) λvR HR hR=>?_
 obtain⟨u1,rfl,rfl⟩:=hR;refine EN (AL 9 ?_);refine CR GX (jA b4 u1 (bj [m.kind,m.epoch]) m.ballot (by(have:=aV [m.kind,m.epoch]);simp only[BallotT.flat,ViewT.flat,ChangeT.flat,ay,aD,aB,ah]at*;omega)) ID λvR HR hR=>?_
 obtain⟨u2,rfl,rfl⟩:=hR;refine EN (DN (ag (ac J3 (sr λ_ J12=>PS ?_))));refine CR ry (en b4 u2 (bj [m.kind,m.epoch]++bj m.ballot.flat) (by(have:=aV [m.kind,m.epoch]);(have:=aV (m.ballot.flat));simp only[BallotT.flat,ViewT.flat,ChangeT.flat,ay,aD,aB,ah]at*;omega)) ID λvR HR hR=>?_
 obtain⟨_,rfl,rfl⟩:=hR;revert vR;intro u3;refine PS ?_;refine nx J12 (ai (WK [2] (av rfl rfl ?_)));exact⟨_,rfl,congrArg (λb=>[dW u3 b 5]) (show(bj [m.kind,m.epoch]++bj m.ballot.flat)=fO m by simp[fO,ek,e5,bj, *])⟩;refine PS ?_;refine nx J11 (CN (sr λ_ J13=>PS ?_));refine ao ?_ ?_<;>intro h51;refine PS ?_;refine nx J13 (CY (D1 2 bm ?_));refine PD 0 ?_;refine FD 1 0 je aQ ?_;refine LR 2 Y3 (kA m rfl) ?_;refine FD 3 176 je aQ ?_;refine LR 4 Y3 (RecT.at_epoch m rfl) ?_;refine FD 7 177 je cz ?_;refine ta 8 rfl (aM (vs:=ints m.ballot.flat) rfl kg rfl cz rfl (λ_ h=>h.2.1) (ap m.ballot) (qN m 0 rfl (by decide) (whole (ap m.ballot)))) ?_;refine FD 10 179 je fI ?_;refine ta 11 rfl (aM (vs:=ints m.change.flat) rfl np rfl fI rfl (λ_ h=>h.2.1) (aL m.change) (MA m 0 rfl (by decide) (whole (aL m.change)))) ?_;refine AL 5 ?_;refine aW (cells:=#[(.int .i64 (m.kind)),(.int .i64 (m.epoch))]) (ab rfl) rfl rfl rfl kl rG rfl rfl rfl (by as_aux_lemma=>kernel_rfl) (λb57=>EN (AL 6 ?_));refine CQ nT (dT b4 (.slice none 0 0) ([]) (.slice (some ⟨b57,0,none⟩) (2) (2)) [m.kind,m.epoch] (by simp)) (SM [2,1]) (dL 0 rfl rfl rfl rfl) λvR HR hR=>?_
 obtain⟨u1,rfl,rfl⟩:=hR;refine EN (AL 9 ?_);refine CR GX (jA b4 u1 (bj [m.kind,m.epoch]) m.ballot (by(have:=aV [m.kind,m.epoch]);simp only[BallotT.flat,ViewT.flat,ChangeT.flat,ay,aD,aB,ah]at*;omega)) ID λvR HR hR=>?_
 obtain⟨u2,rfl,rfl⟩:=hR;refine EN (AL 12 ?_);refine CR L8 (oH b4 u2 (bj [m.kind,m.epoch]++bj m.ballot.flat) m.change (by(have:=aV [m.kind,m.epoch]);(have:=aV (m.ballot.flat));simp only[BallotT.flat,ViewT.flat,ChangeT.flat,ay,aD,aB,ah]at*;omega)) ID λvR HR hR=>?_
 obtain⟨u3,rfl,rfl⟩:=hR;refine EN (DN (ag (ac J3 (sr λ_ J14=>PS ?_))));refine CR ry (en b4 u3 (bj [m.kind,m.epoch]++bj m.ballot.flat++bj m.change.flat) (by(have:=aV [m.kind,m.epoch]);(have:=aV (m.ballot.flat));(have:=aV (m.change.flat));simp only[BallotT.flat,ViewT.flat,ChangeT.flat,ay,aD,aB,ah]at*;omega)) ID λvR HR hR=>?_
 obtain⟨_,rfl,rfl⟩:=hR;revert vR;intro u4;refine PS ?_;refine nx J14 (ai (WK [2] (av rfl rfl ?_)));exact⟨_,rfl,congrArg (λb=>[dW u4 b 5]) (show(bj [m.kind,m.epoch]++bj m.ballot.flat++bj m.change.flat)=fO m by simp[fO,ek,e5,bj, *])⟩;refine PS ?_;refine nx J13 (CN (sr λ_ J15=>PS ?_));refine ao ?_ ?_<;>intro h66;refine PS ?_;refine nx J15 (CY (D1 2 bm ?_));refine PD 0 ?_;refine FD 1 0 je aQ ?_;refine LR 2 Y3 (kA m rfl) ?_;refine FD 5 182 je bk ?_;refine ta 6 rfl (aM (vs:=ints m.view.flat) rfl eS rfl bk rfl (λ_ h=>h.2.1) (an m.view) (Py m 0 rfl (by decide) (whole (an m.view)))) ?_;refine AL 3 ?_;refine aW (cells:=#[(.int .i64 (m.kind))]) (ab rfl) rfl rfl rfl kl rG rfl rfl rfl (by as_aux_lemma=>kernel_rfl) (λb70=>EN (AL 4 ?_));refine CQ nT (dT b4 (.slice none 0 0) ([]) (.slice (some ⟨b70,0,none⟩) (1) (1)) [m.kind] (by simp)) (SM [2,1]) (dL 0 rfl rfl rfl rfl) λvR HR hR=>?_
 obtain⟨u1,rfl,rfl⟩:=hR;refine EN (AL 7 ?_);refine CR L7 (qZ b4 u1 (bj [m.kind]) m.view (by(have:=aV [m.kind]);simp only[BallotT.flat,ViewT.flat,ChangeT.flat,ay,aD,aB,ah]at*;omega)) ID λvR HR hR=>?_
 obtain⟨u2,rfl,rfl⟩:=hR;refine EN (DN (ag (ac J3 (sr λ_ J16=>PS ?_))));refine CR ry (en b4 u2 (bj [m.kind]++bj m.view.flat) (by(have:=aV [m.kind]);(have:=aV (m.view.flat));simp only[BallotT.flat,ViewT.flat,ChangeT.flat,ay,aD,aB,ah]at*;omega)) ID λvR HR hR=>?_
 obtain⟨_,rfl,rfl⟩:=hR;revert vR;intro u3;refine PS ?_;refine nx J16 (ai (WK [2] (av rfl rfl ?_)));exact⟨_,rfl,congrArg (λb=>[dW u3 b 5]) (show(bj [m.kind]++bj m.view.flat)=fO m by simp[fO,ek,e5,bj, *])⟩;refine PS ?_;refine nx J15 (CN (aU (ag (ac J3 (sr λ_ J17=>PS ?_)))));refine CR ry (en b4 (.slice none 0 0) ([]) (by simp)) (SM [1,0]) λvR HR hR=>?_
 obtain⟨_,rfl,rfl⟩:=hR;revert vR;intro u1;refine PS ?_;refine nx J17 (ai (WK [2] (av rfl rfl ?_)));exact⟨_,rfl,congrArg (λb=>[dW u1 b 5]) (show([]:List UInt8)=fO m by simp[fO,ek,e5,bj, *])⟩
open Dsk Wal
theorem qt(who:Int)(hm:cN who=true):DT 34 #[.int .i64 who] T0 [] (dz (λr' H=>∃u,r'=u∧H=[own u 2 [.int .i64 ((who+1)%5), .int .i64 ((who+2)%5)] 3 1])):=by
 have:=pH who;rw[show hO who=[(who+1)%5,(who+2)%5]by rw[hO,if_pos hm]]at this;exact this
theorem Eb(r:Nat)(x:RepT)(op err val:Int)(rs:List ReplyT)(hrs:rs.length≤1000000):
 DT 97 #[(.pointer (some ⟨r,0,none⟩)),(.int .i64 (op)),(.int .i64 (err)),(.int .i64 (val))] T0 [ak r (RepT.cells x) 123,own x.replies ((rs).length) (ints (List.flatMap ReplyT.flat (rs))) 37 3] (dz (λ_ H=>∃v',v'.oneCell'=true∧H=[ak r (RepT.cells {x with replies:=v'}) 123,own v' (rs++[ReplyT.mk op err val]).length (ints (List.flatMap ReplyT.flat (rs++[ReplyT.mk op err val]))) 37 3])):=by
 refine BD 21 Tryz.func97 rfl rfl rfl λw0 F hF=>ae (P3 ?_)
 refine FA 1942 bn yf ?_;refine LT 0 Jz x.replies ?_ (hc:=by exact RepT.at_replies x rfl);refine P3 ?_;refine tp (yL (cs:=ints (ReplyT.mk op err val).flat) (segs:=[[Value.int .i64 0],[Value.int .i64 0],[Value.int .i64 0]]) (res:=[[Value.int .i64 op],[Value.int .i64 err],[Value.int .i64 val]]) (parts:=[(0,[Value.int .i64 op]),(1,[Value.int .i64 err]),(2,[Value.int .i64 val])]) rfl rfl Tryz.underlying37 (by kernel_rfl) (by kernel_rfl) rfl (fm rfl rfl (fm rfl rfl (fm rfl rfl lM))) (ReplyT.eq (ReplyT.mk op err val)).symm) ?_;refine aW (cells:=(ints (ReplyT.mk op err val).flat).toArray) (ab rfl) rfl rfl rfl Jz Hd rfl rfl rfl (mK (ReplyT.len (ReplyT.mk op err val)) (by simp)) (λb17=>?_);change TL _ _ _ _ _ _ _ _ _ [ak b17 (ints (ReplyT.mk op err val).flat) 37,ak r (RepT.cells x) 123,own x.replies ((rs).length) (ints (List.flatMap ReplyT.flat (rs))) 37 3];refine cL (k:=2) (news:=ints (ReplyT.mk op err val).flat) (nn':=(rs++[ReplyT.mk op err val]).length) (xs':=ints (List.flatMap ReplyT.flat (rs++[ReplyT.mk op err val]))) (ab rfl) rfl rfl rfl Jz Hd rfl rfl rfl rfl rfl rfl (λ_ _=>jK (ReplyT.len _) (RO 0) (by rw[bd,iA])) (bC _) (by simp only[maxLen];omega) (by omega) (by simp) (by simp[ints]) (λv18 ov18=>PS ?_);refine FA 1942 bn yf ?_;exact bF (i:=1) (ab rfl) rfl rfl rfl rfl ov18 yf rfl rfl (LB (cY _)) (RepT.set_replies x rfl _) rfl (au (WK [1,1] (bD rfl ⟨_,ov18,rfl⟩)))
theorem Ef(r:Nat)(x:RepT):
 DT 21 #[(.pointer (some ⟨r,0,none⟩))] T0 [ak r (RepT.cells x) 123] (RI (.agg (ints x.view.flat).toArray) [ak r (RepT.cells x) 123]):=by
 refine BD 7 Tryz.func21 rfl rfl rfl λw0 F hF=>sr λ_ J1=>XZ r9 (ints ViewT.zero.flat) λb2=>?_
 refine nx J1 (sr λ_ J2=>P2 ?_);refine FA 2 bn bk ?_;refine LV 1 eS bk an cX (y:=x.view) ?_;refine SW 0 bk an ?_;refine nx J2 (ai (RC 0 [1] eS bk (an _) ?_));exact⟨rfl,rfl⟩
theorem wR(r:Nat)(x:RepT)(who:Int):
 DT 42 #[(.pointer (some ⟨r,0,none⟩)),(.int .i64 (who))] T0 [ak r (RepT.cells x) 123] (RI (.tuple #[.agg (ints (cQ x.mirror who).flat).toArray, .bool (fp x.mirror who)]) [ak r (RepT.cells x) 123]):=by
 refine BD 16 Tryz.func42 rfl rfl rfl λw0 F hF=>sr λ_ J1=>XZ vf (ints RowT.zero.flat) λb4=>?_
 refine PS ?_;refine nx J1 (aa λ_ J2=>D0 bm ?_);refine PD 0 ?_;refine PD 1 ?_;refine FD 2 183 bn oc ?_;refine PD 3 ?_;refine PD 5 ?_;refine PD 6 ?_;refine FD 7 183 bn oc ?_;refine PD 8 ?_;refine AL 4 ?_;refine CE Io (lT r 183 123 (λu=>RepT.cells {x with mirror:=u}) (dZ x) x.mirror who) (SM [1]) ?_;refine EN (AL 9 ?_);refine CE Mb (nd r 183 123 (λu=>RepT.cells {x with mirror:=u}) (dZ x) x.mirror who) ID ?_;refine EN (AL 10 ?_);refine SW 1 be aj ?_;refine EN (PD 11 ?_);refine DN (ac J2 (ai (RT 1 [0] ee be (aj _) ?_)));exact⟨rfl,rfl⟩
theorem Av(r:Nat)(x:RepT)(rs:List ReplyT)(hrs:rs.length≤1000000):
 DT 19 #[(.pointer (some ⟨r,0,none⟩))] T0 [ak r (RepT.cells x) 123,own x.replies ((rs).length) (ints (List.flatMap ReplyT.flat (rs))) 37 3] (dz (λr' H=>∃u,r'=u∧H=[ak r (RepT.cells x) 123,own x.replies rs.length (ints (List.flatMap ReplyT.flat rs)) 37 3,own u rs.length (ints (List.flatMap ReplyT.flat rs)) 37 3])):=by
 refine BD 8 Tryz.func19 rfl rfl rfl λw0 F hF=>sr λ_ J1=>Od 37 3 (λ_=>PS ?_)
 refine nx J1 (sr λ_ J2=>P2 ?_);refine FA 1942 bn yf ?_;refine LT 1 Jz x.replies ?_ (hc:=by exact RepT.at_replies x rfl);refine cL (k:=0) (news:=ints (List.flatMap ReplyT.flat rs)) (nn':=rs.length) (xs':=ints (List.flatMap ReplyT.flat rs)) (ab rfl) rfl rfl rfl Jz Hd rfl rfl rfl rfl rfl rfl (λ_ s=>PP 2 rfl rfl s) (bC _) (by simp only[maxLen];omega) (by omega) (by simp) (by simp) (λv7 ov7=>PS ?_);exact nx J2 (ai (WK [1,1,0] (av rfl rfl ⟨_,rfl,rfl⟩)))
end Go.Proofs.YtjblgopghhgflaaGreat
end

section
namespace Api
open Go Leg Codec Dsk Wal
def iw(w:Int)(x:RowT):RecT:= {RecT.zero with kind:=1,whose:=w,row:=x}
def gM(w:Int):RecT:= {RecT.zero with kind:=2,whose:=w}
def kF(v:ViewT):RecT:= {RecT.zero with kind:=5,view:=v}
def oY(v:Int):MsgT:= {MsgT.zero with kind:=1,version:=v}
def fR(w:Int)(x:RowT):MsgT:= {MsgT.zero with kind:=9,whose:=w,row:=x}
section
variable {x:RepT} {from' w:Int} {y:RowT} {recs:List (List UInt8)}
end
section
variable {x:RepT} {from' w:Int} {v:ViewT} {recs:List (List UInt8)}
end
end Api
end

section
namespace Go.Proofs.YtjblgopghhgflaaGreat
open Go Leg Codec Api Dsk Wal
theorem GI(r:Nat)(x:RepT)(o:OpT):
 DT 96 #[(.pointer (some ⟨r,0,none⟩)),(.agg (ints o.flat).toArray)] T0 [ak r (RepT.cells x) 123] (RI (.tuple #[.agg (ints (jN x o).1.flat).toArray, .int .i64 (jN x o).2.1, .int .i64 (jN x o).2.2]) [ak r (RepT.cells x) 123]):=by
 refine BD 121 Tryz.func96 rfl rfl rfl λw0 F hF=>sr λ_ J1=>XY (ints o.flat) λb3=>?_
 refine XZ vf (ints RowT.zero.flat) λb4=>?_
 refine P2 ?_;refine nx J1 (aa λ_ J2=>aa λ_ J3=>D1 2 bm ?_);refine PD 0 ?_;refine PD 1 ?_;refine FD 2 2 bn bk ?_;refine ta 3 rfl (aM (vs:=ints x.view.flat) rfl eS rfl bk rfl (λ_ h=>h.2.1) (an x.view) (fW x 0 rfl (by decide) (whole (an x.view)))) ?_;refine PD 4 ?_;refine PD 5 ?_;refine FD 6 0 bn aQ ?_;refine LR 7 Y3 (cE x rfl) ?_;refine AL 8 ?_;refine CE p4 (dI x.view x.id) ID ?_;refine bc ?_ ?_<;>intro h17;refine EN (PD 9 ?_);refine DN (ac J3 (CN (qx J2 (aa λ_ J4=>sr λ_ J5=>FA 3 fG aQ ?_))));refine LU 1 Y3 (nz o rfl) ?_;refine PS ?_;refine ao ?_ ?_<;>intro h22;have hkb:lw o.key=false:=decide_eq_false (by omega);refine PS ?_
 iterate 3 refine UT ?_
 refine PS ?_;refine nx J5 (CY (sr λ_ J6=>BV ((ints RowT.zero.flat).toArray) ?_));refine SW 0 be aj ?_;refine P2 ?_;refine nx J6 (ai (af (RU 0 [2] ee be (aj _) ?_)));exact⟨by simp[jN,gi, *],rfl⟩;refine PS ?_;refine FA 3 fG aQ ?_;refine LU 1 Y3 (nz o rfl) ?_;refine PS ?_;refine ao ?_ ?_<;>intro h26;have hkb:lw o.key=false:=decide_eq_false (by omega);refine PS ?_;refine nx J5 (CY (sr λ_ J7=>BV ((ints RowT.zero.flat).toArray) ?_));refine SW 0 be aj ?_;refine P2 ?_;refine nx J7 (ai (af (RU 0 [2] ee be (aj _) ?_)));exact⟨by simp[jN,gi, *],rfl⟩;have hkb:lw o.key=true:=decide_eq_true (by omega);refine PS ?_;refine nx J5 (CN (qx J4 (aa λ_ J8=>sr λ_ J9=>FA 0 fG aQ ?_)));refine LU 1 Y3 (cO o rfl) ?_;refine PS ?_;refine ao ?_ ?_<;>intro h31;refine nx J9 (CY (aa λ_ J10=>D1 1 bm ?_));refine ta 0 rfl (j8 (cells:=(ints RowT.zero.flat).toArray) rfl rfl (by as_aux_lemma=>kernel_rfl)) ?_;refine PD 1 ?_;refine PD 2 ?_;refine FD 3 1068 bn wn ?_;refine FD 4 3 fG aQ ?_;refine LR 5 Y3 (nz o rfl) ?_;refine AL 6 ?_;refine CE Mh (ni r 1068 123 (λu=>RepT.cells {x with book:=u}) (gQ x) x.book o.key) (SM [2]) ?_;refine EN (AL 7 ?_);refine SW 1 be aj ?_;refine EN (PD 8 ?_);refine PD 9 ?_;refine DN (ac J10 (ai (af (RU 1 [0] ee be (aj _) ?_))));exact⟨by simp[jN,gi, *],rfl⟩;refine nx J9 (CN (qx J8 (aa λ_ J11=>sr λ_ J12=>P2 ?_)));refine FA 1938 bn k9 ?_;refine LU 2 Y4 (yH x rfl) ?_;refine bc ?_ ?_<;>intro h42
 refine nx J12 (CY (sr λ_ J13=>BV ((ints RowT.zero.flat).toArray) ?_));refine SW 0 be aj ?_;refine P2 ?_;refine nx J13 (ai (af (RU 0 [2] ee be (aj _) ?_)));exact⟨by simp[jN,gi, *],rfl⟩;refine nx J12 (CN (qx J11 (sr λ_ J14=>XZ vf (ints RowT.zero.flat) λb7=>?_)));refine nx J14 (sr λ_ J15=>PS ?_);refine nx J15 (aa λ_ J16=>sr λ_ J17=>FA 0 fG aQ ?_);refine LU 2 Y3 (cO o rfl) ?_;refine nx J17 (aq (sr λ_ J18=>PS ?_));refine ao ?_ ?_<;>intro h47;refine PS ?_;refine nx J18 (CY (D2 3 2 bm ?_));refine PD 0 ?_;refine PD 1 ?_;refine FD 2 9 bn be ?_;refine ta 3 rfl (aM (vs:=ints x.own.flat) rfl ee rfl be rfl (λ_ h=>h.2.1) (aj x.own) (yF x 0 rfl (by decide) (whole (aj x.own)))) ?_;refine FD 4 3 fG aQ ?_;refine LR 5 Y3 (nz o rfl) ?_;refine FD 6 4 fG aQ ?_;refine LR 7 Y3 (xZ o rfl) ?_;refine AL 8 ?_;refine CE NN (B8 x.own o.key o.n) ID ?_;refine EN (PD 9 ?_);refine PD 10 ?_;refine PD 11 ?_;refine AL 12 ?_;refine SW 0 be aj ?_;refine EN (PD 13 ?_);refine DN (ag (ac J16 (aa λ_ J19=>sr λ_ J20=>P2 ?_)));refine ao ?_ ?_<;>intro h98;refine nx J20 (CY (sr λ_ J21=>BV ((ints RowT.zero.flat).toArray) ?_));refine PS ?_;refine SW 1 be aj ?_;refine P2 ?_;refine nx J21 (ai (af (RU 1 [3] ee be (aj _) ?_)));exact⟨by simp[jN,gi, *],rfl⟩;refine nx J20 (CN (qx J19 (aa λ_ J22=>aa λ_ J23=>D2 2 3 bm ?_)));refine FD 0 0 fG aQ ?_;refine LR 1 Y3 (cO o rfl) ?_;refine PD 2 ?_;refine jc ?_ ?_<;>intro h103
 · exact absurd h47 h103
 refine PD 3 ?_;refine NT 4 ?_;refine NT 5 ?_;refine NT 6 ?_;refine NT 7 ?_;refine NT 8 ?_;refine NT 9 ?_;refine NT 10 ?_;refine NT 11 ?_;refine NT 12 ?_;refine NT 13 ?_;refine NT 14 ?_;refine NT 15 ?_;refine NT 16 ?_;refine PD 17 ?_;refine DN (ac J23 (CN (qx J22 (sr λ_ J24=>LW 0 ee be aj ?_))));refine SW 1 be aj ?_;refine P2 ?_;refine nx J24 (ai (RU 1 [3] ee be (aj _) ?_));exact⟨by simp[jN,gi, *],rfl⟩;refine PS ?_;refine nx J18 (CN (sr λ_ J25=>PS ?_));refine ao ?_ ?_<;>intro h61;refine PS ?_;refine nx J25 (CY (D2 3 2 bm ?_));refine PD 0 ?_;refine PD 1 ?_;refine FD 2 9 bn be ?_;refine ta 3 rfl (aM (vs:=ints x.own.flat) rfl ee rfl be rfl (λ_ h=>h.2.1) (aj x.own) (yF x 0 rfl (by decide) (whole (aj x.own)))) ?_;refine FD 4 3 fG aQ ?_;refine LR 5 Y3 (nz o rfl) ?_;refine FD 6 4 fG aQ ?_;refine LR 7 Y3 (xZ o rfl) ?_;refine AL 8 ?_;refine CE NL (B9 x.own o.key o.n) ID ?_;refine EN (PD 9 ?_);refine PD 10 ?_;refine PD 11 ?_;refine AL 12 ?_;refine SW 0 be aj ?_;refine EN (PD 13 ?_);refine DN (ag (ac J16 (aa λ_ J26=>sr λ_ J27=>P2 ?_)));refine ao ?_ ?_<;>intro h98;refine nx J27 (CY (sr λ_ J28=>BV ((ints RowT.zero.flat).toArray) ?_));refine PS ?_;refine SW 1 be aj ?_;refine P2 ?_;refine nx J28 (ai (af (RU 1 [3] ee be (aj _) ?_)));exact⟨by simp[jN,gi, *],rfl⟩;refine nx J27 (CN (qx J26 (aa λ_ J29=>aa λ_ J30=>D2 2 3 bm ?_)));refine FD 0 0 fG aQ ?_;refine LR 1 Y3 (cO o rfl) ?_;refine PD 2 ?_;refine jc ?_ ?_<;>intro h103;refine PD 3 ?_
 refine PD 4 ?_;refine PD 5 ?_;refine FD 6 1068 bn wn ?_;refine PD 7 ?_;refine PD 8 ?_;refine FD 9 0 bn aQ ?_;refine LR 10 Y3 (cE x rfl) ?_;refine FD 11 3 fG aQ ?_;refine LR 12 Y3 (nz o rfl) ?_;refine FD 14 4 fG aQ ?_;refine LR 15 Y3 (xZ o rfl) ?_;refine AL 13 ?_;refine CE M8 (pm r 1068 123 (λu=>RepT.cells {x with book:=u}) (gQ x) x.book x.id o.key) (SM [3]) ?_;refine EN (PD 16 ?_);refine jc ?_ ?_<;>intro h117;refine PD 17 ?_;refine DN (ac J30 (CY (sr λ_ J31=>BV ((ints RowT.zero.flat).toArray) ?_)));refine SW 2 be aj ?_;refine P2 ?_;refine nx J31 (ai (af (RU 2 [0] ee be (aj _) ?_)));exact⟨by simp[jN,gi, *],rfl⟩;refine PD 17 ?_;refine DN (ac J30 (CN (qx J29 (sr λ_ J32=>LW 1 ee be aj ?_))));refine SW 2 be aj ?_;refine P2 ?_;refine nx J32 (ai (RU 2 [0] ee be (aj _) ?_));exact⟨by simp[jN,gi, *],rfl⟩
 · exact absurd h47 h103
 refine PS ?_;refine nx J25 (CN (sr λ_ J33=>PS ?_));refine ao ?_ ?_<;>intro h75;refine PS ?_;refine nx J33 (CY (aa λ_ J34=>D2 2 3 bm ?_));refine FD 0 2 fG aQ ?_;refine LR 1 Y3 (iH o rfl) ?_;refine PD 2 ?_;refine PD 3 ?_;refine FD 4 0 bn aQ ?_;refine LR 5 Y3 (cE x rfl) ?_;refine PD 6 ?_;refine jc ?_ ?_<;>intro h82;refine DN (ac J34 (CY (D2 3 2 bm ?_)));refine PD 0 ?_;refine PD 1 ?_;refine FD 2 9 bn be ?_;refine ta 3 rfl (aM (vs:=ints x.own.flat) rfl ee rfl be rfl (λ_ h=>h.2.1) (aj x.own) (yF x 0 rfl (by decide) (whole (aj x.own)))) ?_;refine FD 4 3 fG aQ ?_;refine LR 5 Y3 (nz o rfl) ?_;refine FD 6 4 fG aQ ?_;refine LR 7 Y3 (xZ o rfl) ?_;refine FD 8 2 fG aQ ?_;refine LR 9 Y3 (iH o rfl) ?_;refine AL 10 ?_;refine CE NK (At x.own o.key o.n o.to') ID ?_;refine EN (PD 11 ?_);refine PD 12 ?_;refine PD 13 ?_;refine AL 14 ?_;refine SW 0 be aj ?_;refine EN (PD 15 ?_);refine DN (ag (ac J16 (aa λ_ J35=>sr λ_ J36=>P2 ?_)));refine ao ?_ ?_<;>intro h98;refine nx J36 (CY (sr λ_ J37=>BV ((ints RowT.zero.flat).toArray) ?_));refine PS ?_;refine SW 1 be aj ?_;refine P2 ?_;refine nx J37 (ai (af (RU 1 [3] ee be (aj _) ?_)));exact⟨by simp[jN,gi, *],rfl⟩;refine nx J36 (CN (qx J35 (aa λ_ J38=>aa λ_ J39=>D2 2 3 bm ?_)));refine FD 0 0 fG aQ ?_;refine LR 1 Y3 (cO o rfl) ?_;refine PD 2 ?_;refine jc ?_ ?_<;>intro h103;refine PD 3 ?_;refine PD 4 ?_;refine PD 5 ?_;refine FD 6 1068 bn wn ?_;refine PD 7 ?_;refine PD 8 ?_;refine FD 9 0 bn aQ ?_
 refine LR 10 Y3 (cE x rfl) ?_;refine FD 11 3 fG aQ ?_;refine LR 12 Y3 (nz o rfl) ?_;refine FD 14 4 fG aQ ?_;refine LR 15 Y3 (xZ o rfl) ?_;refine AL 13 ?_;refine CE M8 (pm r 1068 123 (λu=>RepT.cells {x with book:=u}) (gQ x) x.book x.id o.key) (SM [3]) ?_;refine EN (PD 16 ?_);refine jc ?_ ?_<;>intro h117;refine PD 17 ?_;refine DN (ac J39 (CY (sr λ_ J40=>BV ((ints RowT.zero.flat).toArray) ?_)));refine SW 2 be aj ?_;refine P2 ?_;refine nx J40 (ai (af (RU 2 [0] ee be (aj _) ?_)));exact⟨by simp[jN,gi, *],rfl⟩;refine PD 17 ?_;refine DN (ac J39 (CN (qx J38 (sr λ_ J41=>LW 1 ee be aj ?_))));refine SW 2 be aj ?_;refine P2 ?_;refine nx J41 (ai (RU 2 [0] ee be (aj _) ?_));exact⟨by simp[jN,gi, *],rfl⟩
 · exact absurd h47 h103
 refine DN (ac J34 (CN (aU (ag (ac J16 (aa λ_ J42=>sr λ_ J43=>P2 ?_))))));refine nx J43 (CY (sr λ_ J44=>BV ((ints RowT.zero.flat).toArray) ?_));refine PS ?_;refine SW 1 be aj ?_;refine P2 ?_;refine nx J44 (ai (af (RU 1 [3] ee be (aj _) ?_)));exact⟨by simp[jN,gi, *],rfl⟩;refine PS ?_;refine nx J33 (CN (aU (ag (ac J16 (aa λ_ J45=>sr λ_ J46=>P2 ?_)))));refine nx J46 (CY (sr λ_ J47=>BV ((ints RowT.zero.flat).toArray) ?_));refine PS ?_;refine SW 1 be aj ?_;refine P2 ?_;refine nx J47 (ai (af (RU 1 [3] ee be (aj _) ?_)));exact⟨by simp[jN,gi, *],rfl⟩;refine EN (PD 9 ?_);refine DN (ac J3 (CY (sr λ_ J48=>BV ((ints RowT.zero.flat).toArray) ?_)));refine SW 0 be aj ?_;refine P2 ?_;refine nx J48 (ai (af (RU 0 [2] ee be (aj _) ?_)));exact⟨by simp[jN,gi, *],rfl⟩
theorem Ey(x:Value)(l:List Int)(v:Int)(hl:l.length≤1000000):
    DT 179 #[x,(.int .i64 (v))] (IsI .i64 x l) [] (dz (λr' H=>∃n:Int,r'= .int .i64 n∧(decide (n≥0)=true↔v∈l)∧H=[])):=by
 refine BD 19 Tryz.func179 rfl rfl rfl λw0 F hF=>sr λ_ J1=>PS ?_
 refine nx J1 (aa λ_ J2=>sr λ_ J3=>PS ?_);refine tp (eh rfl kl rfl hF.len) ?_;refine PS ?_;refine nx J3 (aq ?_)
 refine bw (α:=(Nat)) (λk=>k≤l.length∧∀(j:Nat),j<k→l.getD j 0≠v) (λk=>[(0,x),(1,(.int .i64 (v))),(7,(.int .i64 (((l.length:Nat):Int)))),(8,(.int .i64 (((k:Nat):Int))))]) (λk=>[]) (λk=>l.length-k) 0
     ⟨aN _,λj h=>absurd h (by omega)⟩ SB
     (λ_ s=>s) (λk hinv=>?_)
 obtain⟨hk,hv⟩:=hinv;refine sr λ_ J4=>PS ?_
 refine ao ?_ ?_<;>intro h9;obtain⟨b_a,off_a,cap_a,cs_a,T_a,z_a,hv_a,hb_a,hcs_a,hcp_a⟩:=IsI.at hF (j:=k) (by omega);refine nx J4 (aa λ_ J5=>CY (qx J5 (aa λ_ J6=>aq (sr λ_ J7=>P2 ?_))));refine nx J7 (sr λ_ J8=>P3 ?_);refine tp (bU (r:=off_a+k) hv_a rfl kl aQ rfl rfl (by omega) (by omega) (by omega)) ?_;refine tp (di (v:=(.int .i64 ((l.getD k 0)))) rfl Y3 rfl rfl (Dz hb_a (λ_ h=>fu h)) hcs_a) ?_;refine PS ?_;refine ao ?_ ?_<;>intro h16;refine nx J8 (CY (sr λ_ J9=>P2 ?_));refine nx J9 (ai (aJ (af (af (aJ (af (WK [] (av rfl rfl ?_))))))));exact⟨((k:Nat):Int),rfl,by rw[decide_eq_true_iff];exact⟨λ_=>by rw[h16,List.getD_eq_getElem?_getD,List.getElem?_eq_getElem (by omega)];exact ec _,λ_=>by omega⟩,rfl⟩;refine nx J8 (CN (aU (ag (ac J6 (ae (AD ?_))))));refine PS ?_;refine au ?_
 exact aK ((k+1):(Nat)) ⟨by omega,λj hj=>by
        by_cases q:j=k
        · subst q;exact λe=>h16 e.symm
        · exact hv j (by omega)⟩ (by show l.length- (k+1)<l.length-k;omega)
   SB
   (λ_ s=>s)
 refine nx J4 (aa λ_ J10=>CN (aX (aA (aA (br (ac J2 (sr λ_ J11=>PS ?_)))))));refine nx J11 (ai (WK [] (av rfl rfl ?_)))
 exact⟨-1,rfl,by
      rw[decide_eq_true_iff];constructor
      · intro h;omega
      · intro h
        obtain⟨j,hj,e⟩:=fq h;have:=hv j (by omega);rw[List.getD_eq_getElem?_getD,List.getElem?_eq_getElem hj]at this
        exact absurd e this,rfl⟩
theorem qW(x:Value)(l:List Int)(v:Int)(hl:l.length≤1000000):
 DT 168 #[x,(.int .i64 (v))] (IsI .i64 x l) [] (RI (.bool (decide (v∈l))) []):=by
 refine BD 9 Tryz.func168 rfl rfl rfl λw0 F hF=>sr λ_ J1=>PS ?_
 refine nx J1 (sr λ_ J2=>P2 ?_);refine CQ Nn (Ey x l v hl) ID (λ_ d _=>IsI.more hF d) λvR HR hR=>?_
 obtain⟨n,rfl,hn,rfl⟩:=hR;refine P2 ?_;refine nx J2 (ai (WK [] (av rfl rfl ?_)));exact⟨congrArg Value.bool (by rw[zS,hn,decide_eq_true_iff]),rfl⟩
end Go.Proofs.YtjblgopghhgflaaGreat
end

section
namespace Api
open Go Leg Codec
theorem xt: ∀(a b:List CellT),a.length=b.length→bL a=bL b→a=b
 | [],[],_,_=>rfl
 | [],_::_,h,_=>by cases h
 |_::_,[],h,_=>by cases h
 |x::a,y::b,h,e=>by
  simp only[bL,c8]at e;obtain⟨h1,h2⟩:=List.append_inj e (by simp[CellT.flat]);rw[Hh h1,xt a b (by simpa using h) h2]
theorem zx{v w:Vector CellT 4}(h:bL v.toList=bL w.toList):v=w:=Vector.toList_inj.1 (xt _ _ (by simp) h)
theorem vX{n:Int}(h:(Lit.int .i64 n).wf=true): -9223372036854775808≤n∧n<9223372036854775808:=by
 have m1:IntKind.i64.min= -9223372036854775808:=by decide
 have m2:IntKind.i64.max=9223372036854775807:=by decide
 simp only[Lit.wf,m1,m2,aw,decide_eq_true_eq]at h;omega
theorem se{n:Int}{l:List Int}(h:0≤n∧n<9223372036854775808)(hl:WF l):WF (n::l):=λm hm=>by
 rcases co.1 hm with rfl|hm
 · exact sd h
 · exact hl m hm
theorem mi{a b:List Int}(ha:WF a)(hb:WF b):WF (a++b):=λm hm=>by
 rcases cg.1 hm with hm|hm
 · exact ha m hm
 · exact hb m hm
theorem HN:WF []:=λ_ h=>by cases h
theorem OkB.wf{b:BallotT}(h:OkB b):WF b.flat:=se h.1 (se ⟨h.2.1,by have:=h.2.2;omega⟩ HN)
theorem OkC.wf{c:ChangeT}(h:OkC c):WF c.flat:=se ⟨h.1.1,by have:=h.1.2;omega⟩ (se ⟨h.2.1.1,by have:=h.2.1.2;omega⟩ (se ⟨h.2.2.1,by have:=h.2.2.2;omega⟩ HN))
theorem OG:Nm 0:=⟨by decide,by decide⟩
theorem tc(m:MsgT):(cS m).length≤3000:=by
 have h1:=iy m.row;have h2:=aV m.ballot.flat;have h3:=aV m.had.flat;have h4:=aV m.change.flat;have h5:=aV m.view.flat;have h6:=aV [m.kind,m.whose];have h7:=aV [m.kind,m.version];have h8:=aV [m.kind,m.epoch];have h9:=aV [m.kind];simp only[BallotT.flat,ChangeT.flat,ViewT.flat,ay,aD,aB]at h2 h3 h4 h5 h6 h7 h8 h9;unfold cS;split
 · simp only[ah];omega
 split
 · omega
 split
 · simp only[ah,BallotT.flat];omega
 split
 · simp only[ah,BallotT.flat,ChangeT.flat];omega
 split
 · simp only[ah,BallotT.flat,ChangeT.flat];omega
 split
 · simp only[ah,ViewT.flat];omega
 split
 · simp only[ah,ViewT.flat];omega
 · simp
theorem Cb:gD RowT.zero=true:=by decide+kernel
theorem JY{m:RecT}{bs r:List UInt8}(h:dx bs=some ((m,true),r)):gD m.row=true:=by
 obtain⟨k,r1,_,h⟩:=bl h;split at h
 · obtain⟨_,_,_,h⟩:=bl h
   obtain⟨e,_⟩:=fL h;injection e with e1 e2;subst e1;exact e2
 split at h
 · obtain⟨_,_,_,h⟩:=bl h
   obtain⟨_,_,_,h⟩:=bl h;obtain⟨e,_⟩:=fL h;injection e with e1 e2;subst e1;exact e2
 have fin: ∀{m':RecT} {g:Bool} {b r:List UInt8},pr (m',g) b=some ((m,true),r)→m'.row= .zero→gD m.row=true:=λh e=>by
  obtain⟨e',_⟩:=fL h;injection e' with e1 e2;subst e1;rw[e];exact Cb
 split at h
 · obtain⟨_,_,_,h⟩:=bl h;exact fin h rfl
 split at h
 · obtain⟨_,_,_,h⟩:=bl h;obtain⟨_,_,_,h⟩:=bl h;exact fin h rfl
 split at h
 · obtain⟨_,_,_,h⟩:=bl h;obtain⟨_,_,_,h⟩:=bl h;obtain⟨_,_,_,h⟩:=bl h;exact fin h rfl
 split at h
 · obtain⟨_,_,_,h⟩:=bl h;exact fin h rfl
 · exact fin h rfl
theorem I3(bs:List UInt8):(∃m,jH bs=(m,0)∧bs=fO m∧gD m.row=true∧WF m.row.flat)∨jH bs=(.zero,1):=by
 unfold jH;split
 · rename_i m h
   obtain⟨h1,_,_,_,h5⟩:=Cd h;rw[aP]at h1;exact .inl ⟨m,rfl,h1,JY h,h5.wf⟩
 · exact .inr rfl
open Dsk Wal
structure RcOk(m:RecT):Prop where
 dec:jH (fO m)=(m,0)
 wf:WF m.row.flat
 kind:m.kind≠3∧m.kind≠4
end Api
end

section
namespace Go.Proofs.YtjblgopghhgflaaGreat
open Go Leg Codec Api
theorem wO(ob:Nat)(ok:Bool):DoesD Tryz.prog 120 #[(.pointer (some ⟨ob,0,none⟩))] (.returning) (λ_=>True) [ak ob [(.bool (ok))] 4] (λe u' H=>e= .returned (.tuple #[])∧settle u'= .returning∧H=[ak ob [.bool ok] 4]):=by
 refine DoesD.recover2 (vs:=[(.pointer (some ⟨ob,0,none⟩))]) (n:=15) (u':= .returning) (rv:= .nilIface) Tryz.func120 rfl rfl rfl rfl rfl rfl rfl rfl rfl rfl rfl (λc0 cs hu=>by cases c0;simp only at hu;subst hu;rfl) (λw0 F c0 cs hF=>?_);refine aa (λK1 hK1=>?_);refine aa (λK2 hK2=>?_);refine ae ?_;refine l5 (ab rfl) rfl rfl (jV rfl rfl) ?_;refine l5 (ab rfl) rfl rfl (PV.nilNil rfl Tryz.underlying20 rfl) ?_;refine au ?_;refine ac hK2 ?_;clear hK2;refine ny rfl ?_;refine ai ?_;refine af ?_;clear hK1;refine aF (dK _) (λ_ s=>am [0] rfl s) ?_;refine TE.retS0 rfl ?_;refine⟨rfl,rfl,?_⟩;rfl
theorem Ay(ob:Nat)(ok:Bool):DoesD Tryz.prog 120 #[(.pointer (some ⟨ob,0,none⟩))] (.panicking ix) (λ_=>True) [ak ob [(.bool (ok))] 4] (λe u' H=>e= .returned (.tuple #[])∧settle u'= .returning∧H=[ak ob [.bool false] 4]):=by
 refine DoesD.recover2 (vs:=[(.pointer (some ⟨ob,0,none⟩))]) (n:=15) (u':= .panicking [{v:=(.iface 199 (.agg #[])),recovered:=true}]) (rv:=(.iface 199 (.agg #[]))) Tryz.func120 rfl rfl rfl rfl rfl rfl rfl rfl rfl rfl rfl (λc0 cs hu=>by cases c0;simp only at hu;subst hu;rfl) (λw0 F c0 cs hF=>?_);refine aa (λK1 hK1=>?_);refine aa (λK2 hK2=>?_);refine ae ?_;refine l5 (ab rfl) rfl rfl (jV rfl rfl) ?_;refine l5 (ab rfl) rfl rfl (PV.ifaceNil rfl Tryz.underlying20 rfl) ?_;refine au ?_;refine ac hK2 ?_;clear hK2;refine F2 rfl ?_;refine aU ?_;refine ac hK1 ?_;clear hK1;refine aa (λK3 hK3=>?_);refine aa (λK4 hK4=>?_);refine ae ?_;refine l5 (ab rfl) rfl rfl (jV rfl rfl) ?_;refine l5 (ab rfl) rfl rfl (PV.assert rfl HB rfl rfl) ?_;refine l5 (ab rfl) rfl rfl (jV rfl rfl) ?_;refine l5 (ab rfl) rfl rfl (l9 (vs:=[.agg #[], .bool true]) rfl rfl rfl) ?_;refine l5 (ab rfl) rfl rfl (l9 (vs:=[.agg #[], .bool true]) rfl rfl rfl) ?_;refine qn (ab rfl) rfl rfl rfl OJ (λb2=>?_);change TL _ _ _ _ _ _ _ _ _ [ak b2 [] 199,ak ob [(.bool (ok))] 4];refine bN (vs:=[]) (i:=0) (H':=[ak b2 [] 199,ak ob [(.bool (ok))] 4]) (ab rfl) rfl rfl rfl rfl rfl MV (by simp[Value.oneCell']) rfl rfl (Kl rfl) rfl rfl ?_;refine l5 (ab rfl) rfl rfl (PK rfl rfl) ?_;refine au ?_;refine ac hK4 ?_;clear hK4;refine aa (λK5 hK5=>?_);refine ae ?_;refine l5 (ab rfl) rfl rfl (jV rfl rfl) ?_;refine l5 (ab rfl) rfl rfl (oB (r:=false) rfl rfl rfl) ?_;refine au ?_
 refine ac hK5 ?_;clear hK5;refine F2 rfl ?_;refine aU ?_;refine ac hK3 ?_;clear hK3;refine ae ?_;refine bF (i:=1) (H':=[ak b2 [] 199,ak ob [(.bool false)] 4]) (ab rfl) rfl rfl rfl rfl rfl k9 rfl rfl (lb rfl) rfl rfl ?_;refine au ?_;refine aF (dK _) (λ_ s=>am [1] rfl s) ?_;refine TE.endS0 rfl ?_;refine⟨rfl,rfl,?_⟩;exact rfl
theorem GA{fid:Nat}{caps:List Value}{x:Value}{bs:List UInt8}{C G:HP}{A:List UInt8→HP}{R:Hl→Prop}(hR: ∀F,R F→IsB x bs F)(hmono: ∀F g,R F→Dj g F→R (jn g F))(hN:Named Tryz.prog fid)
 (hc: ∀rb,DT fid ([Value.pointer (some ⟨rb,0,none⟩)]++caps).toArray R [ak rb [x] 197,C] (vv (λ_ H=>∃x' r,H=[ak rb [x'] 197,A r]∧Tail x bs x' r) (λc H=>c=ix∧∃x',H=[ak rb [x'] 197,G]))):
 DT 81 #[x, .func (.func fid) #[] caps.toArray] R [C] (dz (λv H=>(∃r,v= .bool (decide (r=[]))∧H=[A r])∨(v= .bool false∧H=[G]))):=by
 refine Leg.Does.bodyD (vs:=[x, .func (.func fid) #[] caps.toArray]) (n:=21) Tryz.func81 rfl rfl rfl (λw0 F hF=>sr λ_ J1=>XA z4 λb4=>?_);refine nx J1 (sr λ_ J2=>PS ?_);refine tp (PV.buildOne rfl Bj OK rfl nS rfl (hR _ hF).one) ?_;refine XB λb8=>?_
 refine PS ?_;refine nx J2 (sr λ_ J3=>tp (PH rfl rfl) ?_);refine TL.deferFn (ab rfl) rfl rfl rfl (nx J3 (aa λ_ J4=>sr λ_ J5=>PS ?_));refine tp (PV.funcNeqNil rfl Tryz.underlying141 rfl) ?_;refine nx J5 (CY (ae (P2 ?_)));refine TL.callPv (ab rfl) rfl rfl rfl rfl hN rfl (hc b8) (λ_ s=>aC [0,1] rfl s) (MB hmono hF) (λcP HP hP=>?_) (λvR HR hR'=>?_);obtain⟨rfl,x',rfl⟩:=hP;refine ax ?_;intro a w fr sm m;refine rD (b:=b4) (e:=4) (A:=[ak b4 [(.bool false)] 4]) (B:=[ak b8 [x'] 197,G]) (H':=[G]) fr sm m (by simp) IA (Ay b4 _) (λ_ s=>aC [2] rfl s) (λ_ _ _=>trivial) rfl rfl Y4 rfl (λH1 h1=>?_);subst h1;refine⟨[.bool false], .bool false,fi 0 rfl rfl,rfl,λ_ s=>am [2] rfl s,?_⟩;exact .inr ⟨rfl,rfl⟩;obtain⟨x',r,rfl,htl⟩:=hR';have hB:=htl F (hR _ hF);rcases hB with⟨rfl,rfl⟩| ⟨b,off,cap,cs,T,z,rfl,hB1,hB2,hB3,hB4⟩
 refine nx J4 (sr λ_ J6=>P2 ?_);refine FA 0 Bj nS ?_;refine LA 0 gO ?_;refine tp (tr rfl gO rfl) ?_;refine PS ?_;refine S0 2 k9 ?_;refine nx J6 (ai ?_);intro a w fr sm m;refine rD (b:=b4) (e:=4) (A:=[ak b4 [(.bool true)] 4]) (B:=[ak b8 [(.slice none 0 0)] 197,(A [])]) (H':=[(A [])]) fr sm m (by simp) IA (wO b4 _) (λ_ s=>aC [2] rfl s) (λ_ _ _=>trivial) rfl rfl Y4 rfl (λH1 h1=>?_);subst h1;refine⟨[.bool true], .bool true,fi 0 rfl rfl,rfl,λ_ s=>am [2] rfl s,?_⟩;exact .inl ⟨[],rfl,rfl⟩;refine nx J4 (sr λ_ J7=>P2 ?_);refine FA 0 Bj nS ?_;refine LA 0 gO ?_;refine tp (tr rfl gO rfl) ?_;refine PS ?_;refine S0 2 k9 ?_;refine nx J7 (ai ?_);intro a w fr sm m;refine rD (b:=b4) (e:=4) (A:=[ak b4 [(.bool (decide (((r.length:Nat):Int)=0)))] 4]) (B:=[ak b8 [(.slice (some ⟨b,off,none⟩) (r.length) (cap))] 197,(A r)]) (H':=[(A r)]) fr sm m (by simp) IA (wO b4 _) (λ_ s=>aC [2] rfl s) (λ_ _ _=>trivial) rfl rfl Y4 rfl (λH1 h1=>?_);subst h1;refine⟨[.bool (decide (((r.length:Nat):Int)=0))], .bool (decide (((r.length:Nat):Int)=0)),fi 0 rfl rfl,rfl,λ_ s=>am [2] rfl s,?_⟩;exact .inl ⟨r,by congr 1;rw[decide_eq_decide];cases r<;>simp<;>omega,rfl⟩
theorem za{fid:Nat}{caps:List Value}{x:Value}{bs:List UInt8}{α β:Type}{C:List HP}{A:α→List HP}{G:β→List HP}{φ:α→List UInt8→Prop}{ψ:β→Prop}{R:Hl→Prop}(hR: ∀F,R F→IsB x bs F)(hmono: ∀F g,R F→Dj g F→R (jn g F))(hN:Named Tryz.prog fid)
 (hc: ∀rb,DT fid ([Value.pointer (some ⟨rb,0,none⟩)]++caps).toArray R (ak rb [x] 197::C) (vv (λ_ H=>∃x' r a,H=ak rb [x'] 197::A a∧Tail x bs x' r∧φ a r) (λc H=>c=ix∧∃x' b,H=ak rb [x'] 197::G b∧ψ b))):
 DT 81 #[x, .func (.func fid) #[] caps.toArray] R C (dz (λv H=>(∃r a,v= .bool (decide (r=[]))∧H=A a∧φ a r)∨(∃b,v= .bool false∧H=G b∧ψ b))):=by
 have h1:=GA (C:=all C) (G:=λh=>∃b,ψ b∧bG (G b) h) (A:=λr h=>∃a,φ a r∧bG (A a) h) hR hmono hN λrb=>
  (hc rb).conv (post':=vv (λ_ H=>∃x' r,H=[ak rb [x'] 197,λh=>∃a,φ a r∧bG (A a) h]∧Tail x bs x' r) (λc H=>c=ix∧∃x',H=[ak rb [x'] 197,λh=>∃b,ψ b∧bG (G b) h]))
   (λh s=>wA s λ_=>KE)
   (λe H F w hp m=>by
    cases e with
    |returned v=>
     obtain⟨x',r,a,rfl,ht,hf⟩:=hp;exact⟨[ak rb [x'] 197,λh=>∃a,φ a r∧bG (A a) h],m.mono λh s=>wA s λh s=>rk ⟨a,hf,s⟩,x',r,rfl,ht⟩
    |panicked c=>
     obtain⟨hc,x',b,rfl,hf⟩:=hp;exact⟨[ak rb [x'] 197,λh=>∃b,ψ b∧bG (G b) h],m.mono λh s=>wA s λh s=>rk ⟨b,hf,s⟩,hc,x',rfl⟩
    |outgrown=>exact hp.elim)
 refine h1.conv (λh s=>JU s) λe H F w hp m=>?_
 cases e with
 |returned v=>
  rcases hp with⟨r,hv,rfl⟩| ⟨hv,rfl⟩
  · obtain⟨h,d,e,g1,g2,d',rfl,⟨a,hf,s⟩,_⟩:=m
    exact⟨A a,⟨_,d,e,lI _ s d'⟩, .inl ⟨r,a,hv,rfl,hf⟩⟩
  · obtain⟨h,d,e,g1,g2,d',rfl,⟨b,hf,s⟩,_⟩:=m
    exact⟨G b,⟨_,d,e,lI _ s d'⟩, .inr ⟨b,hv,rfl,hf⟩⟩
 |panicked c=>exact hp.elim
 |outgrown=>exact hp.elim
end Go.Proofs.YtjblgopghhgflaaGreat
end
