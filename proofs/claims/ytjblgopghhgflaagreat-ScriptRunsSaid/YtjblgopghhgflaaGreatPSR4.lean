/-
  Joined texts:what a statement's proof reaches.
-/
import Derived.Test.YtjblgopghhgflaaGreatPSR3
set_option maxHeartbeats 8000000
set_option maxRecDepth 100000
set_option linter.unusedSimpArgs false
set_option linter.unusedVariables false
section
namespace Go.Proofs.YtjblgopghhgflaaGreat
open Go Leg Codec Api Dsk Wal
theorem CV(x:Value)(ps:List (List UInt8)):
 DT 128 #[x] (K9 x ps) [] (RI (.int .u32 (fy ps.flatten)) []):=by
 refine BD 39 Tryz.func128 rfl rfl rfl λw0 F hF=>sr λ_ J1=>PS ?_
 refine nx J1 (sr λ_ J2=>PS ?_);refine nx J2 (aa λ_ J3=>sr λ_ J4=>PS ?_);refine tp (cY rfl tD rfl hF.len) ?_;refine PS ?_;refine nx J4 (aq ?_)
 refine bF (α:=(Nat)) (λk=>k≤ps.length) (λk=>[(2,(.int .u32 0)),(3,(.int .u32 (e5 4294967295 (ps.take k).flatten))),(8,x),(9,(.int .i64 (((ps.length:Nat):Int)))),(10,(.int .i64 (((k:Nat):Int))))]) (λk=>[]) (λk=>ps.length-k) 0
  (aR _) SB
  (λ_ s=>s) (λk hinv=>?_)
 obtain hk:=hinv;refine sr λ_ J5=>PS ?_
 refine ao ?_ ?_<;>intro h11;obtain⟨b_a,off_a,cap_a,cs_a,T_a,z_a,us_a,hv_a,hc_a,hb_a,hl_a,hs_a,hE_a⟩:=IsL.at hF (j:=k) (by omega);obtain⟨u_a,rfl,hu_a⟩:=hE_a;refine nx J5 (aa λ_ J6=>CY (qx J6 (aa λ_ J7=>aq (sr λ_ J8=>tp (a8 (r:=off_a+k) hv_a rfl tD mK rfl rfl (by omega) (by omega) (by omega)) ?_))));refine tp (bT (v:=u_a) rfl fq rfl rfl (iL hb_a (λ_ h=>eP h)) (by have:=zz (j:=0) hs_a rfl;simpa using this)) ?_;refine PS ?_;refine nx J8 (sr λ_ J9=>PS ?_);refine tp (cY rfl fq rfl hu_a.len) ?_;refine PS ?_;refine nx J9 (aq ?_)
 refine bF (α:=(Nat)) (λj=>j≤ps[k].length) (λj=>[(2,(.int .u32 0)),(3,(.int .u32 (e5 (e5 4294967295 (ps.take k).flatten) (ps[k].take j)))),(8,x),(9,(.int .i64 (((ps.length:Nat):Int)))),(10,(.int .i64 (((k:Nat):Int)))),(14,u_a),(15,(.int .i64 (((ps[k].length:Nat):Int)))),(16,(.int .i64 (((j:Nat):Int))))]) (λj=>[]) (λj=>ps[k].length-j) 0
  (aR _) SB
  (λ_ s=>s) (λj hinv=>?_)
 obtain hj:=hinv;refine sr λ_ J10=>PS ?_
 refine ao ?_ ?_<;>intro h17;obtain⟨b_b,off_b,cap_b,cs_b,T_b,z_b,hv_b,hb_b,hcs_b,hcp_b⟩:=IsW.at hu_a (j:=j) (by omega);have hlt_b:=IsW.lt hu_a;refine nx J10 (aa λ_ J11=>CY (qx J11 (aa λ_ J12=>aq (sr λ_ J13=>tp (a8 (r:=off_b+j) hv_b rfl fq jh rfl rfl (by omega) (by omega) (by omega)) ?_))));refine tp (bT (v:=(.int .u8 (((((ps[k]).getD j 0).toNat:Nat):Int)))) rfl Y5 rfl rfl (iL hb_b (λ_ h=>eP h)) (hcs_b j (by omega))) ?_;refine PS ?_;refine nx J13 (sr λ_ J14=>P2 ?_);refine tp (cx (r:=((((ps[k]).getD j 0).toNat:Nat):Int)) rfl Y5 y9 rfl (jR (by omega) (by have:=(ps[k].getD j 0).toNat_lt;omega))) ?_;refine tp (PV.xor (r:=ox .u32 (e5 (e5 4294967295 (ps.take k).flatten) (ps[k].take j)) (((((ps[k]).getD j 0).toNat:Nat):Int))) rfl rfl rfl rfl) ?_;refine PS ?_;refine nx J14 (sr λ_ J15=>PS ?_);refine nx J15 (aq ?_)
 refine bF (α:=(Nat)) (λi=>i≤8) (λi=>[(2,(.int .u32 0)),(3,(.int .u32 (lJ (ox .u32 (e5 (e5 4294967295 (ps.take k).flatten) (ps[k].take j)) ((((ps[k]).getD j 0).toNat:Nat):Int)) i))),(8,x),(9,(.int .i64 (((ps.length:Nat):Int)))),(10,(.int .i64 (((k:Nat):Int)))),(14,u_a),(15,(.int .i64 (((ps[k].length:Nat):Int)))),(16,(.int .i64 (((j:Nat):Int)))),(24,(.int .i64 (((i:Nat):Int))))]) (λi=>[]) (λi=>8-i) 0
  (aR _) SB
  (λ_ s=>s) (λi hinv=>?_)
 obtain hi:=hinv;refine sr λ_ J16=>PS ?_
 refine ao ?_ ?_<;>intro h25;refine nx J16 (aa λ_ J17=>CY (qx J17 (aa λ_ J18=>aq (sr λ_ J19=>PS ?_))));refine tp (om (r:=pH .u32 (lJ (ox .u32 (e5 (e5 4294967295 (ps.take k).flatten) (ps[k].take j)) ((((ps[k]).getD j 0).toNat:Nat):Int)) i) 1) rfl rfl rfl rfl) ?_;refine PS ?_;refine ao ?_ ?_<;>intro h28;refine nx J19 (CY (ae (PS ?_)));refine tp (jt (r:=(lJ (ox .u32 (e5 (e5 4294967295 (ps.take k).flatten) (ps[k].take j)) ((((ps[k]).getD j 0).toNat:Nat):Int)) i).fdiv 2) rfl rfl rfl (by omega) rfl) ?_;refine tp (PV.xor (r:=ox .u32 ((lJ (ox .u32 (e5 (e5 4294967295 (ps.take k).flatten) (ps[k].take j)) ((((ps[k]).getD j 0).toNat:Nat):Int)) i).fdiv 2) 3988292384) rfl rfl rfl rfl) ?_;refine PS ?_;refine au (ag (ac J18 (ae (AD ?_))));refine PS ?_;refine au ?_
 exact aL ((i+1):(Nat)) (by omega) (by show 8- (i+1)<8-i;omega)
  (aQ (bo rfl (congrArg (Value.int .u32) (by rw[lJ,Ch,if_pos h28])) SB))
  (λ_ s=>s)
 refine nx J19 (CN (ae (PS ?_)));refine tp (jt (r:=(lJ (ox .u32 (e5 (e5 4294967295 (ps.take k).flatten) (ps[k].take j)) ((((ps[k]).getD j 0).toNat:Nat):Int)) i).fdiv 2) rfl rfl rfl (by omega) rfl) ?_;refine PS ?_;refine au (ag (ac J18 (ae (AD ?_))));refine PS ?_;refine au ?_
 exact aL ((i+1):(Nat)) (by omega) (by show 8- (i+1)<8-i;omega)
  (aQ (bo rfl (congrArg (Value.int .u32) (by rw[lJ,Ch,if_neg h28])) SB))
  (λ_ s=>s)
 refine nx J16 (aa λ_ J20=>CN (bg (aF (aF (bD (ag (ac J12 (ae (AD ?_)))))))));refine PS ?_;refine au ?_
 exact aL ((j+1):(Nat)) (by omega) (by show ps[k].length- (j+1)<ps[k].length-j;omega)
  (aQ (bo rfl (congrArg (Value.int .u32) (by obtain rfl:i=8:=(by omega);rw[AN (by omega)];rfl)) SB))
  (λ_ s=>s)
 refine nx J10 (aa λ_ J21=>CN (bg (aF (aF (bD (ag (ac J7 (ae (AD ?_)))))))));refine PS ?_;refine au ?_
 exact aL ((k+1):(Nat)) (by omega) (by show ps.length- (k+1)<ps.length-k;omega)
  (aQ (bo rfl (congrArg (Value.int .u32) (by rw[show j=ps[k].length by omega,dL,AO (by omega)])) SB))
  (λ_ s=>s)
 refine nx J5 (aa λ_ J22=>CN (bg (aF (aF (bD (ac J3 (sr λ_ J23=>PS ?_)))))));refine tp (PV.com (r:=ox .u32 4294967295 (e5 4294967295 (ps.take k).flatten)) rfl rfl rfl) ?_;refine PS ?_;refine nx J23 (ai (WK [] (ap rfl rfl ?_)));obtain rfl:k=ps.length:=by omega
 rw[dL];exact⟨rfl,rfl⟩
theorem sN(x:Value)(bs:List UInt8)(hb:bs.length≤1000000000):
 DT 90 #[x] (IsW x bs) [] (dG (λv H=>H=[dE v (oR bs) 5])):=by
 refine BD 29 Tryz.func90 rfl rfl rfl λw0 F hF=>sr λ_ J1=>PS ?_
 refine nx J1 (sr λ_ J2=>PS ?_);refine aP (cells:=#[x]) (ab rfl) rfl rfl rfl tD EK rfl rfl rfl (rz hF.one (by simp)) (λb6=>CF Ii (CV (.slice (some ⟨b6,0,none⟩) (1) (1)) [bs]) ID (Ao hF 0 rfl rfl) ?_);rw[show [bs].flatten=bs by simp];refine PS ?_;refine nx J2 (sr λ_ J3=>PS ?_);refine tp (cY rfl fq rfl hF.len) ?_;refine AD ?_;refine TL.makeB (0) (bs.length+4) (ab rfl) rfl rfl rfl fq wG rfl rfl rfl (by omega) (by omega) (by omega) (λb11=>cn (H':=[dE (.slice (some ⟨b11,0,none⟩) 0 (bs.length+4)) ([]) 5,ak b6 [x] 93]) (λ_ s=>CG 0 rfl rfl (by omega) (by simp only[maxLen];omega) (by simp[ef]) rfl s) (PS ?_));refine nx J3 (sr λ_ J4=>P2 ?_);refine co (k:=0) (news:=ef (bs)) (nn':=(bs:List UInt8).length) (xs':=ef (bs)) (ab rfl) rfl rfl rfl fq wG rfl rfl rfl rfl rfl rfl (λ_ _=>hF.src (λ_ h=>eP h)) (eR _) (by simp only[maxLen,az];omega) (by simp only[az];omega) (by simp) (cb _) (λv14 ov14=>PS ?_);refine nx J4 (sr λ_ J5=>P2 ?_);refine tp (cx (r:=(((r8 (fy bs)).toNat:Nat):Int)) rfl y9 Y5 rfl (r8_wrap _)) ?_;refine PS ?_;refine tp (jt (r:=(fy bs).fdiv 256) rfl rfl rfl (by omega) rfl) ?_;refine tp (cx (r:=(((r8 ((fy bs).fdiv 256)).toNat:Nat):Int)) rfl y9 Y5 rfl (r8_wrap _)) ?_;refine PS ?_;refine tp (jt (r:=(fy bs).fdiv 65536) rfl rfl rfl (by omega) rfl) ?_;refine tp (cx (r:=(((r8 ((fy bs).fdiv 65536)).toNat:Nat):Int)) rfl y9 Y5 rfl (r8_wrap _)) ?_;refine PS ?_
 refine tp (jt (r:=(fy bs).fdiv 16777216) rfl rfl rfl (by omega) rfl) ?_;refine tp (cx (r:=(((r8 ((fy bs).fdiv 16777216)).toNat:Nat):Int)) rfl y9 Y5 rfl (r8_wrap _)) ?_;refine aP (cells:=#[(.int .u8 ((((r8 (fy bs)).toNat:Nat):Int))),(.int .u8 ((((r8 ((fy bs).fdiv 256)).toNat:Nat):Int))),(.int .u8 ((((r8 ((fy bs).fdiv 65536)).toNat:Nat):Int))),(.int .u8 ((((r8 ((fy bs).fdiv 16777216)).toNat:Nat):Int)))]) (ab rfl) rfl rfl rfl fq wG rfl rfl rfl (by as_aux_lemma=>kernel_rfl) (λb27=>co (k:=1) (news:=ef ([(r8 (fy bs)),(r8 ((fy bs).fdiv 256)),(r8 ((fy bs).fdiv 65536)),(r8 ((fy bs).fdiv 16777216))])) (nn':=(bs++[(r8 (fy bs)),(r8 ((fy bs).fdiv 256)),(r8 ((fy bs).fdiv 65536)),(r8 ((fy bs).fdiv 16777216))]:List UInt8).length) (xs':=ef (bs++[(r8 (fy bs)),(r8 ((fy bs).fdiv 256)),(r8 ((fy bs).fdiv 65536)),(r8 ((fy bs).fdiv 16777216))])) (ab rfl) rfl rfl rfl fq wG rfl rfl rfl rfl rfl rfl (λ_ _=>gJ rfl (RO 0) rfl) (eR [(r8 (fy bs)),(r8 ((fy bs).fdiv 256)),(r8 ((fy bs).fdiv 65536)),(r8 ((fy bs).fdiv 16777216))]) (by simp only[maxLen];omega) (by omega) (by simp) (iu _ _).symm (λv28 ov28=>PS ?_));exact nx J5 (ai (WK [1] (ap rfl rfl rfl)))
theorem DL(a:Option Addr)(c:Nat)(bs:List UInt8)(hc:bs.length≤c)(hb:bs.length≤1000000000):
 DT 167 #[(.slice a bs.length c)] (IsW (.slice a bs.length c) bs) [] (dG (λv H=>(lX bs=none∧v= .tuple #[.slice none 0 0, .bool false]∧H=[])∨∃t u,lX bs=some t∧v= .tuple #[u, .bool true]∧H=[dE u t 5])):=by
 refine BD 50 Tryz.func167 rfl rfl rfl λw0 F hF=>sr λ_ J1=>P2 ?_
 refine nx J1 (aa λ_ J2=>sr λ_ J3=>PS ?_);refine tp (cY rfl fq rfl ⟨_,_,rfl⟩) ?_;refine PS ?_;refine ao ?_ ?_<;>intro h9;refine nx J3 (CY (sr λ_ J4=>P2 ?_));refine nx J4 (ai (ad (WK [] (hX rfl rfl rfl ?_))));exact .inl ⟨by rw[lX,if_pos (by omega)],rfl,rfl⟩;have hT:IsW (jr (.slice a bs.length c) 0 (bs.length-4)) (bs.take (bs.length-4)) F:=by have:=hF.cut (lo:=0) (hi:=bs.length-4) (by omega) (by omega);simpa using this
 have hU:IsW (jr (.slice a bs.length c) (bs.length-4) bs.length) (bs.drop (bs.length-4)) F:=by have:=hF.cut (lo:=bs.length-4) (hi:=bs.length) (by omega) (by omega);rwa [dL]at this
 have hq:(bs.drop (bs.length-4)).length=4:=by rw[bK];omega
 obtain⟨b_b,off_b,cap_b,cs_b,T_b,z_b,hv_b,hb_b,hcs_b,hcp_b⟩:=IsW.at hU (j:=0) (by omega);have hlt_b:=IsW.lt hU;refine nx J3 (CN (qx J2 (aa λ_ J5=>D0 dF ?_)));refine PD 0 ?_;refine PD 1 ?_;refine ta 2 rfl (cY rfl fq rfl ⟨_,_,rfl⟩) ?_;refine ta 3 rfl (iY (r:=(((bs.length-4:Nat):Nat):Int)) rfl rfl rfl (by rw[show(((bs.length:Nat):Int)-4)=((bs.length-4:Nat):Int)by omega];exact bC (by omega) (by omega))) ?_;refine ta 4 rfl (PV.sliceH (hi:=bs.length-4) rfl fq jh rfl rfl rfl (by omega)) ?_;refine PD 5 ?_;refine PD 6 ?_;refine ta 7 rfl (cY rfl fq rfl ⟨_,_,rfl⟩) ?_;refine ta 8 rfl (iY (r:=(((bs.length-4:Nat):Nat):Int)) rfl rfl rfl (by rw[show(((bs.length:Nat):Int)-4)=((bs.length-4:Nat):Int)by omega];exact bC (by omega) (by omega))) ?_;refine ta 9 rfl (PV.sliceL (lo:=bs.length-4) rfl fq jh rfl rfl rfl (by omega)) ?_;refine PD 10 ?_;refine PD 11 ?_;refine DN (ac J5 (aa λ_ J6=>D0 dF ?_));refine PD 0 ?_;refine ta 1 rfl (a8 (r:=off_b) hv_b rfl fq jh rfl rfl (by omega) (by omega) (by omega)) ?_;refine ta 2 rfl (bT (v:=(.int .u8 ((((((bs.drop (bs.length-4))).getD 0 0).toNat:Nat):Int)))) rfl Y5 rfl rfl (iL hb_b (λ_ h=>h.1)) (hcs_b 0 (by omega))) ?_;refine ta 3 rfl (cx (r:=(((((bs.drop (bs.length-4))).getD 0 0).toNat:Nat):Int)) rfl Y5 y9 rfl (jR (by omega) (by have:=UInt8.toNat_lt (n:=(bs.drop (bs.length-4)).getD 0 0);omega))) ?_;refine PD 4 ?_
 refine ta 5 rfl (a8 (r:=off_b+1) hv_b rfl fq jh rfl rfl (by omega) (by omega) (by omega)) ?_;refine ta 6 rfl (bT (v:=(.int .u8 ((((((bs.drop (bs.length-4))).getD 1 0).toNat:Nat):Int)))) rfl Y5 rfl rfl (iL hb_b (λ_ h=>h.1)) (hcs_b 1 (by omega))) ?_;refine ta 7 rfl (cx (r:=(((((bs.drop (bs.length-4))).getD 1 0).toNat:Nat):Int)) rfl Y5 y9 rfl (jR (by omega) (by have:=UInt8.toNat_lt (n:=(bs.drop (bs.length-4)).getD 1 0);omega))) ?_;refine ta 8 rfl (wV (r:=IntKind.u32.wrap ((((((bs.drop (bs.length-4))).getD 1 0).toNat:Nat):Int)*2^8)) rfl rfl rfl (by omega) rfl) ?_;refine ta 9 rfl (GR (r:=hY .u32 (((((bs.drop (bs.length-4))).getD 0 0).toNat:Nat):Int) (IntKind.u32.wrap ((((((bs.drop (bs.length-4))).getD 1 0).toNat:Nat):Int)*2^8))) rfl rfl rfl rfl) ?_;refine PD 10 ?_;refine ta 11 rfl (a8 (r:=off_b+2) hv_b rfl fq jh rfl rfl (by omega) (by omega) (by omega)) ?_;refine ta 12 rfl (bT (v:=(.int .u8 ((((((bs.drop (bs.length-4))).getD 2 0).toNat:Nat):Int)))) rfl Y5 rfl rfl (iL hb_b (λ_ h=>h.1)) (hcs_b 2 (by omega))) ?_;refine ta 13 rfl (cx (r:=(((((bs.drop (bs.length-4))).getD 2 0).toNat:Nat):Int)) rfl Y5 y9 rfl (jR (by omega) (by have:=UInt8.toNat_lt (n:=(bs.drop (bs.length-4)).getD 2 0);omega))) ?_;refine ta 14 rfl (wV (r:=IntKind.u32.wrap ((((((bs.drop (bs.length-4))).getD 2 0).toNat:Nat):Int)*2^16)) rfl rfl rfl (by omega) rfl) ?_
 refine ta 15 rfl (GR (r:=hY .u32 (hY .u32 (((((bs.drop (bs.length-4))).getD 0 0).toNat:Nat):Int) (IntKind.u32.wrap ((((((bs.drop (bs.length-4))).getD 1 0).toNat:Nat):Int)*2^8))) (IntKind.u32.wrap ((((((bs.drop (bs.length-4))).getD 2 0).toNat:Nat):Int)*2^16))) rfl rfl rfl rfl) ?_;refine PD 16 ?_;refine ta 17 rfl (a8 (r:=off_b+3) hv_b rfl fq jh rfl rfl (by omega) (by omega) (by omega)) ?_;refine ta 18 rfl (bT (v:=(.int .u8 ((((((bs.drop (bs.length-4))).getD 3 0).toNat:Nat):Int)))) rfl Y5 rfl rfl (iL hb_b (λ_ h=>h.1)) (hcs_b 3 (by omega))) ?_;refine ta 19 rfl (cx (r:=(((((bs.drop (bs.length-4))).getD 3 0).toNat:Nat):Int)) rfl Y5 y9 rfl (jR (by omega) (by have:=UInt8.toNat_lt (n:=(bs.drop (bs.length-4)).getD 3 0);omega))) ?_;refine ta 20 rfl (wV (r:=IntKind.u32.wrap ((((((bs.drop (bs.length-4))).getD 3 0).toNat:Nat):Int)*2^24)) rfl rfl rfl (by omega) rfl) ?_;refine ta 21 rfl (GR (r:=Gj ((bs.drop (bs.length-4)).getD 0 0) ((bs.drop (bs.length-4)).getD 1 0) ((bs.drop (bs.length-4)).getD 2 0) ((bs.drop (bs.length-4)).getD 3 0)) rfl rfl rfl rfl) ?_;refine PD 22 ?_;refine DN (ac J6 (aa λ_ J7=>sr λ_ J8=>PS ?_));refine aP (cells:=#[(jr (.slice a bs.length c) 0 (bs.length-4))]) (ab rfl) rfl rfl rfl tD EK rfl rfl rfl (rz hT.one (by simp)) (λb43=>CF Ii (CV (.slice (some ⟨b43,0,none⟩) (1) (1)) [(bs.take (bs.length-4))]) ID (Ao hT 0 rfl rfl) ?_)
 rw[show [(bs.take (bs.length-4))].flatten=(bs.take (bs.length-4))by simp];refine P2 ?_;refine ao ?_ ?_<;>intro h46;refine nx J8 (CY (sr λ_ J9=>P2 ?_));refine nx J9 (ai (ad (WK [] (hX rfl rfl rfl ?_))));exact .inl ⟨by rw[lX,if_neg (by omega),if_neg h46],rfl,rfl⟩;refine nx J8 (CN (qx J7 (sr λ_ J10=>A1 (ab rfl) rfl rfl rfl fq jh (λv47=>PS ?_))));refine co (k:=0) (news:=ef ((bs.take (bs.length-4)))) (nn':=((bs.take (bs.length-4)):List UInt8).length) (xs':=ef ((bs.take (bs.length-4)))) (ab rfl) rfl rfl rfl fq wG rfl rfl rfl rfl rfl rfl (λ_ _=>hT.src (λ_ h=>eP h)) (eR _) (by simp only[maxLen,az,bz];omega) (by simp only[az,bz];omega) (by simp) (cb _) (λv49 ov49=>P2 ?_);refine nx J10 (ai (WK [0] (hX rfl rfl rfl ?_)));exact .inr ⟨_,_,by rw[lX,if_neg (by omega),if_pos (by simpa using h46)],rfl,rfl⟩
theorem xc(x:Value)(bs:List UInt8)(hb:bs.length≤1000000000):DT 167 #[x] (IsW x bs) [] (dG (λv H=>(lX bs=none∧v= .tuple #[.slice none 0 0, .bool false]∧H=[])∨∃t u,lX bs=some t∧v= .tuple #[u, .bool true]∧H=[dE u t 5])):=λw G h m=>by
 obtain⟨a,c,rfl,hc,_⟩:=h.form;exact DL a c bs hc hb w G h m
theorem sW(n:Nat)(hn:n≤1000000000000):
 DT 176 #[(.int .i64 (((n:Nat):Int)))] T0 [] (RI (.int .i64 ((bn n:Nat):Int)) []):=by
 refine BD 9 Tryz.func176 rfl rfl rfl λw0 F hF=>sr λ_ J1=>PS ?_
 refine nx J1 (aa λ_ J2=>sr λ_ J3=>P2 ?_);refine ao ?_ ?_<;>intro h4;refine nx J3 (CY (sr λ_ J4=>PS ?_));refine nx J4 (ai (ad (WK [] (ap rfl rfl ?_))));obtain rfl:n=0:=by omega
 exact⟨rfl,rfl⟩;refine nx J3 (CN (qx J2 (sr λ_ J5=>PS ?_)));refine tp (iY rfl rfl rfl (bC (by omega) (by omega))) ?_;refine tp (PV.quo (r:=(((n-1) / 52:Nat):Int)) rfl rfl rfl (by omega) (by rw[show(((n:Nat):Int)-1)=((n-1:Nat):Int)by omega];exact IJ (n-1) 52 (by omega))) ?_;refine AD ?_;refine PS ?_;refine nx J5 (ai (WK [] (ap rfl rfl ?_)));rw[bn,if_neg (by omega)];exact⟨by simp,rfl⟩
theorem Bv{number:Int}{bs:List UInt8}{k:Nat}:lZ number bs (k+1)=lZ number bs k++[oR (jb number k (bn bs.length) (fU bs k))++[1]]:=Bu number bs k
theorem yk(a:Option Addr)(c number:Nat)(bs:List UInt8)(hc:bs.length≤c)(hb:bs.length≤3000):
 DT 178 #[(.int .i64 (((number:Nat):Int))),(.slice a bs.length c)] (IsW (.slice a bs.length c) bs) [] (dG (λv H=>H=[ly 93 5 v (cg ((number:Nat):Int) bs)])):=by
 refine BD 68 Tryz.func178 rfl rfl rfl λw0 F hF=>sr λ_ J1=>PS ?_
 refine nx J1 (sr λ_ J2=>PS ?_);refine tp (cY rfl fq rfl ⟨_,_,rfl⟩) ?_;refine CE H3 (sW bs.length (by omega)) ID ?_;refine PS ?_;refine nx J2 (sr λ_ J3=>PS ?_);refine nx J3 (aa λ_ J4=>sr λ_ J5=>P2 ?_);refine nx J5 (aq ?_)
 refine bF (α:=(Nat)×(Value)) (λ⟨k,vr⟩=>k≤bn bs.length∧vr.oneCell'=true) (λ⟨k,vr⟩=>[(0,(.int .i64 (((number:Nat):Int)))),(1,(.slice a bs.length c)),(4,(.slice none 0 0)),(5,(.int .i64 (((bn bs.length:Nat):Int)))),(6,vr),(14,(.int .i64 (((bn bs.length:Nat):Int)))),(15,(.int .i64 (((k:Nat):Int))))]) (λ⟨k,vr⟩=>[ly 93 5 vr (lZ ((number:Nat):Int) bs k)]) (λ⟨k,vr⟩=>bn bs.length-k) (0,(.slice none 0 0))
  ⟨aR _,rfl⟩ SB
  (λ_ s=>sP 93 5 s) (λ⟨k,vr⟩ hinv=>?_)
 obtain⟨hk,hvr⟩:=hinv;refine sr λ_ J6=>PS ?_
 refine ao ?_ ?_<;>intro h16;have hkn:=Hk (n:=bs.length) (k:=k) (by omega);have hpe:=Hn bs k;have hP:IsW (jr (.slice a bs.length c) (k*52) (min ((k+1)*52) bs.length)) (fU bs k) F:=by rw[←hpe];exact hF.cut (by omega) (by omega)
 have hpl:=sn bs k;have hpk:=uY hb;have hP2:=hP.len;refine nx J6 (aa λ_ J7=>CY (qx J7 (aa λ_ J8=>aq (sr λ_ J9=>P2 ?_))));refine nx J9 (sr λ_ J10=>P2 ?_);refine tp (HU (r:=((k*52:Nat):Int)) rfl rfl rfl (by rw[show((k:Nat):Int)*52=((k*52:Nat):Int)by omega];exact bC (by omega) (by omega))) ?_;refine PS ?_;refine AD ?_;refine tp (HU (r:=(((k+1)*52:Nat):Int)) rfl rfl rfl (by rw[show(((k:Nat):Int)+1)*52=(((k+1)*52:Nat):Int)by omega];exact bC (by omega) (by omega))) ?_;refine PS ?_;refine tp (cY rfl fq rfl ⟨_,_,rfl⟩) ?_;refine tp (PV.minI rfl rfl rfl) ?_;refine tp (PV.sliceLH (lo:=k*52) (hi:=min ((k+1)*52) bs.length) rfl fq jh rfl rfl rfl rfl (by omega) (by omega) (by omega)) ?_;refine PS ?_;refine nx J10 (sr λ_ J11=>TL.makeB (59) (59) (ab rfl) rfl rfl rfl fq wG rfl rfl rfl rfl (by omega) (by omega) (λb28=>PS ?_));refine nx J11 (aa λ_ J12=>sr λ_ J13=>PS ?_);refine nx J13 (aq (qD 5 (sr λ_ J14=>PS ?_)));refine nx J14 (aa λ_ J15=>CY (qx J15 (aa λ_ J16=>aq (sr λ_ J17=>P2 ?_))));refine nx J17 (ae (P4 ?_));refine tp (iY (r:=3) rfl rfl rfl (by decide)) ?_;refine tp (HU (r:=24) rfl rfl rfl (by decide)) ?_;refine tp (jt (r:=((number:Nat):Int).fdiv 16777216) rfl rfl rfl (by omega) rfl) ?_;refine tp (cx (r:=(((r8 (((number:Nat):Int).fdiv 16777216)).toNat:Nat):Int)) rfl Y3 Y5 rfl (r8_wrap _)) ?_
 refine tp (iZ (r:=0) rfl fq jh rfl rfl (by first|omega|decide) (by first|omega|decide) rfl) ?_;refine S0 0 jh ?_;refine au (ag (ac J16 (ae (tp (cw (r:=1) rfl rfl rfl (by decide)) ?_))));refine PS ?_;refine au (dY (sr λ_ J18=>PS ?_));refine nx J18 (aa λ_ J19=>CY (qx J19 (aa λ_ J20=>aq (sr λ_ J21=>P2 ?_))));refine nx J21 (ae (P4 ?_));refine tp (iY (r:=2) rfl rfl rfl (by decide)) ?_;refine tp (HU (r:=16) rfl rfl rfl (by decide)) ?_;refine tp (jt (r:=((number:Nat):Int).fdiv 65536) rfl rfl rfl (by omega) rfl) ?_;refine tp (cx (r:=(((r8 (((number:Nat):Int).fdiv 65536)).toNat:Nat):Int)) rfl Y3 Y5 rfl (r8_wrap _)) ?_;refine tp (iZ (r:=1) rfl fq jh rfl rfl (by first|omega|decide) (by first|omega|decide) rfl) ?_;refine S0 0 jh ?_;refine au (ag (ac J20 (ae (tp (cw (r:=2) rfl rfl rfl (by decide)) ?_))));refine PS ?_;refine au (dY (sr λ_ J22=>PS ?_));refine nx J22 (aa λ_ J23=>CY (qx J23 (aa λ_ J24=>aq (sr λ_ J25=>P2 ?_))));refine nx J25 (ae (P4 ?_));refine tp (iY (r:=1) rfl rfl rfl (by decide)) ?_;refine tp (HU (r:=8) rfl rfl rfl (by decide)) ?_;refine tp (jt (r:=((number:Nat):Int).fdiv 256) rfl rfl rfl (by omega) rfl) ?_;refine tp (cx (r:=(((r8 (((number:Nat):Int).fdiv 256)).toNat:Nat):Int)) rfl Y3 Y5 rfl (r8_wrap _)) ?_;refine tp (iZ (r:=2) rfl fq jh rfl rfl (by first|omega|decide) (by first|omega|decide) rfl) ?_;refine S0 0 jh ?_
 refine au (ag (ac J24 (ae (tp (cw (r:=3) rfl rfl rfl (by decide)) ?_))));refine PS ?_;refine au (dY (sr λ_ J26=>PS ?_));refine nx J26 (aa λ_ J27=>CY (qx J27 (aa λ_ J28=>aq (sr λ_ J29=>P2 ?_))));refine nx J29 (ae (P4 ?_));refine tp (iY (r:=0) rfl rfl rfl (by decide)) ?_;refine tp (HU (r:=0) rfl rfl rfl (by decide)) ?_;refine tp (jt (r:=((number:Nat):Int)) rfl rfl rfl (by omega) (Int.fdiv_one _)) ?_;refine tp (cx (r:=(((r8 (((number:Nat):Int))).toNat:Nat):Int)) rfl Y3 Y5 rfl (r8_wrap _)) ?_;refine tp (iZ (r:=3) rfl fq jh rfl rfl (by first|omega|decide) (by first|omega|decide) rfl) ?_;refine S0 0 jh ?_;refine au (ag (ac J28 (ae (tp (cw (r:=4) rfl rfl rfl (by decide)) ?_))));refine PS ?_;refine au (dY (sr λ_ J30=>PS ?_));refine nx J30 (aa λ_ J31=>CN (bg (aF (aF (bD (ac J12 (sr λ_ J32=>P4 ?_)))))));refine tp (cx (r:=(((r8 (((k:Nat):Int))).toNat:Nat):Int)) rfl Y3 Y5 rfl (r8_wrap _)) ?_;refine PS ?_;refine tp (cx (r:=(((r8 (((bn bs.length:Nat):Int))).toNat:Nat):Int)) rfl Y3 Y5 rfl (r8_wrap _)) ?_;refine PS ?_;refine tp (cY rfl fq rfl hP2) ?_;refine tp (cx (r:=(((r8 ((((fU bs k).length:Nat):Int))).toNat:Nat):Int)) rfl Y3 Y5 rfl (r8_wrap _)) ?_;refine tp (iZ (r:=4) rfl fq jh rfl rfl (by first|omega|decide) (by first|omega|decide) rfl) ?_;refine S0 0 jh ?_;refine tp (iZ (r:=5) rfl fq jh rfl rfl (by first|omega|decide) (by first|omega|decide) rfl) ?_;refine S0 0 jh ?_
 refine tp (iZ (r:=6) rfl fq jh rfl rfl (by first|omega|decide) (by first|omega|decide) rfl) ?_;refine S0 0 jh ?_;refine nx J32 (sr λ_ J33=>PS ?_);refine tp (wU (k:=7) (v:=(.slice (some ⟨b28,7,none⟩) (52) (52))) rfl fq jh rfl rfl rfl (by decide) rfl) ?_;refine PS ?_;refine Jk (i:=0) (m:=(fU bs k).length) (news:=(ef (fU bs k))) (H':=[ak b28 (ef (jb ((number:Nat):Int) k (bn bs.length) (fU bs k))) 5,ly 93 5 vr (lZ ((number:Nat):Int) bs k)]) (ab rfl) rfl rfl rfl fq jh rfl rfl rfl rfl (λ_ _=>hP.src (λ_ h=>eP h)) (eR _) (by show 7+min (fU bs k).length 52≤59;omega) (DK (number:=((number:Nat):Int)) (place:=k) (all:=bn bs.length) hpl) rfl (nx J33 (ae (P2 ?_)));refine CQ JM (sN (.slice (some ⟨b28,0,none⟩) (59) (59)) (jb ((number:Nat):Int) k (bn bs.length) (fU bs k)) (by rw[iR hpl];decide)) ID (λg d s=>GT (Gl 0 59 (iR hpl) (by decide) rfl rfl g d s)) λvR HR hR=>?_
 subst hR;refine aP (cells:=#[(.int .u8 1)]) (ab rfl) rfl rfl rfl fq wG rfl rfl rfl (by as_aux_lemma=>kernel_rfl) (λb62=>co (k:=1) (news:=ef ([1])) (nn':=(oR (jb ((number:Nat):Int) k (bn bs.length) (fU bs k))++[1]:List UInt8).length) (xs':=ef (oR (jb ((number:Nat):Int) k (bn bs.length) (fU bs k))++[1])) (ab rfl) rfl rfl rfl fq wG rfl rfl rfl rfl rfl rfl (λ_ _=>gJ rfl (RO 0) rfl) (eR [1]) (by rw[jZ,iR hpl];simp only[maxLen];omega) (by rw[jZ,iR hpl];omega) (by simp) (iu _ _).symm (λv63 ov63=>aP (cells:=#[v63]) (ab rfl) rfl rfl rfl tD EK rfl rfl rfl (rz ov63 (by simp)) (λb64=>?_)));change TL _ _ _ _ _ _ _ _ _ [ak b64 [v63] 93,ak b62 [(.int .u8 1)] 5,dE v63 (oR (jb ((number:Nat):Int) k (bn bs.length) (fU bs k))++[1]) 5,ak b28 (ef (jb ((number:Nat):Int) k (bn bs.length) (fU bs k))) 5,ly 93 5 vr (lZ ((number:Nat):Int) bs k)];refine cn (λ_ s=>aA [4] rfl s) (Iw (λus65=>co (k:=0) (m:=1) (news:=[v63]) (nn':=(lZ ((number:Nat):Int) bs k).length+1) (xs':=us65++[v63]) (ab rfl) rfl rfl rfl tD EK rfl rfl rfl rfl rfl rfl (λ_ _=>gJ rfl (RO 2) rfl) (List.forall_mem_cons.2 ⟨ov63,λ_ h=>by cases h⟩) (by rw[xg];simp only[maxLen];omega) (by rw[xg];omega) rfl rfl (λv65 ov65=>?_)))
 change TL _ _ _ _ _ _ _ _ _ [own v65 ((lZ ((number:Nat):Int) bs k).length+1) (us65++[v63]) 93 1,ee us65 (lZ ((number:Nat):Int) bs k) 5,ak b64 [v63] 93,ak b62 [(.int .u8 1)] 5,dE v63 (oR (jb ((number:Nat):Int) k (bn bs.length) (fU bs k))++[1]) 5,ak b28 (ef (jb ((number:Nat):Int) k (bn bs.length) (fU bs k))) 5];refine cn (λ_ s=>yi 4 rfl rfl s) (cn (H':=[own v65 ((lZ ((number:Nat):Int) bs k).length+1) (us65++[v63]) 93 1,ee us65 (lZ ((number:Nat):Int) bs k) 5,gg v63 (oR (jb ((number:Nat):Int) k (bn bs.length) (fU bs k))++[1]) 5,ak b64 [v63] 93,ak b62 [(.int .u8 1)] 5,ak b28 (ef (jb ((number:Nat):Int) k (bn bs.length) (fU bs k))) 5]) (λ_ s=>aA [0,0,2] rfl s) (cn (λ_ s=>sR s) ?_));rw[←Bv];refine PS ?_;refine au (ag (ac J8 (ae (AD ?_))));refine PS ?_;refine au ?_
 exact aL ((k+1,v65):(Nat)×(Value)) ⟨by omega,ov65⟩ (by show bn bs.length- (k+1)<bn bs.length-k;omega)
  SB
  (λ_ s=>aj [0] rfl s)
 refine nx J6 (aa λ_ J34=>CN (bg (aF (aF (bD (ac J4 (sr λ_ J35=>P2 ?_)))))));refine nx J35 (ai (WK [0] (ap rfl rfl ?_)));obtain rfl:k=bn bs.length:=by omega
 exact rfl
theorem yl(x:Value)(number:Nat)(bs:List UInt8)(hb:bs.length≤3000):DT 178 #[.int .i64 ((number:Nat):Int),x] (IsW x bs) [] (dG (λv H=>H=[ly 93 5 v (cg ((number:Nat):Int) bs)])):=λw G h m=>by
 obtain⟨a,c,rfl,hc,_⟩:=h.form;exact yk a c number bs hc hb w G h m
theorem u0(s:ji)(number place:Int)(hs:s.length=64):
 DT 159 #[(.agg (ef s).toArray),(.int .i64 (number)),(.int .i64 (place))] T0 [] (dG (λv H=>(eZ s number place=none∧v= .tuple #[.slice none 0 0, .int .i64 0, .bool false]∧H=[])∨∃b all u,eZ s number place=some (b,all)∧v= .tuple #[u, .int .i64 all, .bool true]∧H=[gg u b 5])):=by
 refine BD 74 Tryz.func159 rfl rfl rfl λw0 F hF=>sr λ_ J1=>XY (ef s) λb3=>?_
 refine P3 ?_;refine nx J1 (sr λ_ J2=>tp (Mh (k:=63) rfl qq jh rfl rfl (by omega) (by omega) rfl) ?_);refine CQ H6 (xc (.slice (some ⟨b3,0,none⟩) (63) (64)) (s.take 63) (by rw[bz];omega)) ID (λg d s'=>GT (EI 0 63 (by omega) (by omega) (by decide) (by rw[aB (by rw[bl];omega)]) hs.symm rfl rfl g d s')) λvR HR hR=>?_
 rcases hR with⟨ht,rfl,rfl⟩| ⟨t,u,ht,rfl,rfl⟩
 refine P4 ?_;refine PS ?_;refine nx J2 (aa λ_ J3=>sr λ_ J4=>PS ?_);refine PS ?_;refine PS ?_
 iterate 3 refine UT ?_
 refine PS ?_;refine nx J4 (CY (sr λ_ J5=>P3 ?_));exact nx J5 (ai (ad (WK [] (mo rfl rfl rfl rfl (.inl ⟨yz ht,rfl,rfl⟩)))));have htl:=xd ht;rw[bz]at htl;have ht59:t.length=59:=by omega
 refine gG 0 rfl rfl (by omega) (λg cap hv hcap=>P4 ?_);refine PS ?_;refine nx J2 (aa λ_ J6=>sr λ_ J7=>PS ?_);refine PS ?_;refine PS ?_;refine IX 63 qq jh ?_;refine LT 1 Y5 (.int .u8 ((((s.getD 63 0).toNat:Nat):Int))) ?_ (hc:=by exact pX (by omega));refine PS ?_;refine ao ?_ ?_<;>intro h26;refine PS ?_;refine nx J7 (CY (sr λ_ J8=>P3 ?_));refine nx J8 (ai (ad (WK [] (mo rfl rfl rfl rfl ?_))));exact .inl ⟨qa (λh=>h26 (by rw[h];rfl)),rfl,rfl⟩;refine PS ?_;refine nx J7 (CN (qx J6 (sr λ_ J9=>PS ?_)));refine nx J9 (aa λ_ J10=>sr λ_ J11=>PS ?_);refine tp (GQ (PV.sliceH (a:=some ⟨g,0,none⟩) (len:=t.length) (cap:=cap) (hi:=4) rfl fq jh (by rw[←hv];rfl) rfl rfl (by omega)) (HG (by omega))) ?_;refine tp (rN rfl fq rfl) ?_;refine PS ?_;refine nx J11 (aq ?_)
 refine bF (α:=(Nat)) (λk=>k≤4) (λk=>[(1,(.int .i64 (number))),(2,(.int .i64 (place))),(6,(.slice none 0 0)),(7,(.int .i64 0)),(8,(.bool false)),(9,u),(11,(.int .i64 (E6 (t.take k)))),(29,(.slice (some ⟨g,0,none⟩) (4) (cap))),(30,(.int .i64 4)),(31,(.int .i64 (((k:Nat):Int))))]) (λk=>[dE u (t) 5,ak b3 (ef s) 128]) (λk=>4-k) 0
  (aR _) SB
  (λ_ s=>s) (λk hinv=>?_)
 obtain hk:=hinv;refine sr λ_ J12=>PS ?_
 refine ao ?_ ?_<;>intro h32;refine nx J12 (aa λ_ J13=>CY (qx J13 (aa λ_ J14=>aq (sr λ_ J15=>tp (iZ (r:=k) rfl fq jh rfl rfl (by first|omega|decide) (by first|omega|decide) (by omega)) ?_))));refine tp (bT (v:=(.int .u8 ((((t.getD k 0).toNat:Nat):Int)))) rfl Y5 rfl rfl (eM 0 rfl hv rfl) (pX (by omega))) ?_;refine PS ?_;refine nx J15 (ae (PS ?_));refine tp (wV (r:=IntKind.i64.wrap ((E6 (t.take k))*2^8)) rfl rfl rfl (by omega) rfl) ?_;refine PS ?_;refine tp (cx (r:=(((t.getD k 0).toNat:Nat):Int)) rfl Y5 Y3 rfl (bC (by omega) (by have:=UInt8.toNat_lt (n:=t.getD k 0);omega))) ?_;refine tp (GR (r:=hY .i64 (IntKind.i64.wrap ((E6 (t.take k))*2^8)) (((t.getD k 0).toNat:Nat):Int)) rfl rfl rfl rfl) ?_;refine PS ?_;refine au (ag (ac J14 (ae (AD ?_))));refine PS ?_;refine au ?_
 exact aL ((k+1):(Nat)) (by omega) (by show 4- (k+1)<4-k;omega)
  (aQ (aQ (aQ (aQ (aQ (aQ (bo rfl (congrArg (Value.int .i64) (GF (by omega)).symm) SB)))))))
  (λ_ s=>s)
 refine nx J12 (aa λ_ J16=>CN (bg (aF (aF (bD (ac J10 (aa λ_ J17=>qv (λw=>Frm F w∧Hx g (ef (t)) w∧True) dF rfl (λ_ s=>⟨eP s,eM 0 rfl hv rfl _ s,trivial⟩) (PD 0 ?_))))))));refine ta 1 rfl (a8 (r:=5) hv rfl fq jh rfl rfl (by omega) (by omega) rfl) ?_;refine ta 2 rfl (bT (v:=(.int .u8 ((((t.getD 5 0).toNat:Nat):Int)))) rfl Y5 rfl rfl (λ_ h=>h.2.1) (pX (by omega))) ?_;refine ta 3 rfl (cx (r:=(((t.getD 5 0).toNat:Nat):Int)) rfl Y5 Y3 rfl (bC (by omega) (by have:=UInt8.toNat_lt (n:=t.getD 5 0);omega))) ?_;refine PD 4 ?_;refine ta 5 rfl (a8 (r:=6) hv rfl fq jh rfl rfl (by omega) (by omega) rfl) ?_;refine ta 6 rfl (bT (v:=(.int .u8 ((((t.getD 6 0).toNat:Nat):Int)))) rfl Y5 rfl rfl (λ_ h=>h.2.1) (pX (by omega))) ?_;refine ta 7 rfl (cx (r:=(((t.getD 6 0).toNat:Nat):Int)) rfl Y5 Y3 rfl (bC (by omega) (by have:=UInt8.toNat_lt (n:=t.getD 6 0);omega))) ?_;refine PD 8 ?_;refine PD 9 ?_;refine DN (ac J17 (aa λ_ J18=>sr λ_ J19=>P3 ?_));refine ao ?_ ?_<;>intro h51;refine PS ?_
 iterate 6 refine UT ?_
 refine P2 ?_
 iterate 3 refine UT ?_
 refine P2 ?_;refine UT ?_;refine UT ?_;refine PS ?_;refine nx J19 (CY (sr λ_ J20=>P3 ?_));refine nx J20 (ai (ad (WK [] (mo rfl rfl rfl rfl ?_))));exact .inl ⟨lG ht (.inl (by have:k=4:=(by omega);subst this;exact h51)),rfl,rfl⟩;refine P2 ?_;refine tq (a8 (r:=4) hv rfl fq jh rfl rfl (by omega) (by omega) rfl) ?_;refine tq (bT (v:=(.int .u8 ((((t.getD 4 0).toNat:Nat):Int)))) rfl Y5 rfl rfl (eM 0 rfl hv rfl) (pX (by omega))) ?_;refine tq (cx (r:=(((t.getD 4 0).toNat:Nat):Int)) rfl Y5 Y3 rfl (bC (by omega) (by have:=UInt8.toNat_lt (n:=t.getD 4 0);omega))) ?_;refine P2 ?_;refine ao ?_ ?_<;>intro h58;refine P2 ?_
 iterate 3 refine UT ?_
 refine P2 ?_;refine UT ?_;refine UT ?_;refine PS ?_;refine nx J19 (CY (sr λ_ J21=>P3 ?_));exact nx J21 (ai (ad (WK [] (mo rfl rfl rfl rfl (.inl ⟨lG ht (.inr (.inl h58)),rfl,rfl⟩)))))
 iterate 5 refine PS ?_
 refine ao ?_ ?_<;>intro h63;refine P2 ?_;refine UT ?_;refine UT ?_;refine PS ?_;refine nx J19 (CY (sr λ_ J22=>P3 ?_));exact nx J22 (ai (ad (WK [] (mo rfl rfl rfl rfl (.inl ⟨lG ht (.inr (.inr (.inl h63))),rfl,rfl⟩)))));refine P4 ?_;refine ao ?_ ?_<;>intro h67;refine PS ?_;refine nx J19 (CY (sr λ_ J23=>P3 ?_));exact nx J23 (ai (ad (WK [] (mo rfl rfl rfl rfl (.inl ⟨lG ht (.inr (.inr (.inr h67))),rfl,rfl⟩)))));refine PS ?_;refine nx J19 (CN (qx J18 (sr λ_ J24=>P2 ?_)));refine tp (cw (r:=((7+(t.getD 6 0).toNat:Nat):Int)) rfl rfl rfl (by rw[show(7:Int)+(((t.getD 6 0).toNat:Nat):Int)=((7+(t.getD 6 0).toNat:Nat):Int)by omega];have:=UInt8.toNat_lt (n:=t.getD 6 0);exact bC (by omega) (by omega))) ?_;refine tp (GQ (PV.sliceLH (a:=some ⟨g,0,none⟩) (len:=t.length) (cap:=cap) (lo:=7) (hi:=7+(t.getD 6 0).toNat) rfl fq jh (by rw[←hv];rfl) rfl rfl rfl rfl (by omega) (by omega)) (congrArg (λq=>jr q 7 (7+(t.getD 6 0).toNat)) hv.symm)) ?_;refine P4 ?_;refine nx J24 (ai (aD (H':=[gg (jr u 7 (7+(t.getD 6 0).toNat)) ((t.drop 7).take (t.getD 6 0).toNat) 5]) (dK _) (λ_ s'=>aj [0] rfl (uD 0 rfl rfl hv (by omega) (by omega) (by omega) (by rw[k8,cj]) s')) (mo rfl rfl rfl rfl ?_)));obtain rfl:k=4:=by omega
 have h1:s.getD 63 0=1:=UInt8.toNat_inj.1 (by have h1':(1:UInt8).toNat=1:=rfl;omega);exact .inr ⟨_,_,_,Aa ht h1 (by omega),rfl,rfl⟩
end Go.Proofs.YtjblgopghhgflaaGreat
end

section
namespace Wal
open Go Leg Codec Api Dsk
theorem sB(i:Nat){us:List Value}{ls:List (List UInt8)}{e k:Nat}{B:List HP}{F:Hl}(hk:k<ls.length)(hi:Nat.blt i B.length=true)(hH:B.getD i (λ_=>True)=ee us ls e): ∀g,Dj g F→bI B g→IsB (us.getD k undef) ls[k] (jn g F):=λg d s=>by
 obtain⟨h1,h2,d',rfl,a,_⟩:=en i (lb hi) s;rw[hH]at a;obtain⟨hl,a⟩:=a;obtain⟨u,e1,k1,k2,dk,rfl,a3⟩:=vL us ls e _ hl a k hk;rw[List.getD_eq_getElem?_getD,e1];exact zy a3 λb o e=>fR (fR (fR e))
theorem In.read{s ws:fh}(h1:In s)(h2:In ws)(at':Int)(h: ¬(0≤at'∧at'<2048)): ∀k,k≤ws.length→iy s ws at' k=zs
 |0,_=>by
  show kl s at'=zs
  induction s with
  |nil=>rfl
  |cons p s ih=>
   obtain⟨a,b⟩:=p;simp only[kl];have hh:=h1 (a,b) (by simp);rw[if_neg (λe=>h (by simp only at hh;omega))];exact ih λq hq=>h1 q (by simp[hq])
 |k+1,hk=>by
  simp only[iy];rw[if_neg,In.read h1 h2 at' h k (by omega)];intro e;rw[ua (by omega)]at e;have hh:=h2 ws[k] (cL _);exact h (by omega)
theorem DS.In.read{D:DS}(h:Wal.DS.In D){at':Int}(h2: ¬(0≤at'∧at'<2048)):D.read at'=zs:=Wal.In.read h.1 h.2 at' h2 _ (aN _)
theorem Em(number place:Int):eZ zs number place=none:=qa (by decide)
theorem vg{rd:Int→ji}{number at' all:Int}: ∀(m:Nat) {b:List UInt8},j7 rd number at' all m=some b→∀k,k<m→∃x,eZ (rd (at'+k)) number k=some (x,all)
 |0,_,_,k,hk=>by omega
 |m+1,b,h,k,hk=>by
  simp only[j7]at h;split at h
  · cases h
  · rename_i b' hb
    split at h
    · cases h
    · rename_i x same hx
      split at h
      · rename_i hs
        by_cases e:k=m
        · subst e;exact⟨x,by rw[hx,hs]⟩
        · exact vg m hb k (by omega)
      · cases h
theorem kw{rd:Int→ji}{number at' all:Int}{b:List UInt8}(hl:(rd at').length=64)(h:fm rd number at'=some (b,all)):0<all∧all≤255∧∀k:Nat,(k:Int)<all→∃x,eZ (rd (at'+k)) number k=some (x,all):=by
 unfold fm at h;split at h
 · cases h
 · rename_i x al hp
   obtain⟨f1,f2,_⟩:=nL hl hp;obtain⟨c,hc,e⟩:=Option.map_eq_some_iff.1 h;injection e with e1 e2
   subst e1;subst e2;exact⟨f1,f2,λk hk=>vg _ hc k (by omega)⟩
theorem nE{D:DS}(hI:Wal.DS.In D)(hD:D.Ok){number at' all:Int}{b:List UInt8}(h0:0≤at')(h:fm D.read number at'=some (b,all)):at'+all≤2048:=by
 obtain⟨f1,f2,f3⟩:=kw (la hD _) h;obtain⟨x,hx⟩:=f3 (all-1).toNat (by omega)
 by_cases q:at'+all≤2048
 · exact q
 · rw[DS.In.read hI (by omega),Em]at hx;cases hx
theorem xh{rd:Int→ji}{f:Nat}{cnt used:Int}(h:fm rd (cnt+1) used=none):fx rd f cnt used=([],used):=by
 cases f with
 |zero=>rfl
 |succ f=>simp only[fx,h]
theorem CH{rd:Int→ji}{f:Nat}{cnt used all:Int}{b:List UInt8}(h:fm rd (cnt+1) used=some (b,all)):fx rd (f+1) cnt used=(b::(fx rd f (cnt+1) (used+all)).1,(fx rd f (cnt+1) (used+all)).2):=by simp only[fx,h]
def Scan(D:DS)(f:Nat)(rs:List (List UInt8))(used:Int):Prop:=
 fx D.read iF 0 0=(rs++(fx D.read f rs.length used).1,(fx D.read f rs.length used).2)∧0≤used∧used≤2048∧2049≤(f:Int)+used∧(rs.length:Int)≤used
theorem Scan.start(D:DS):Scan D iF [] 0:=by
 refine⟨?_,by omega,by omega,by rw[rr];omega,by simp⟩;have e:((([]:List (List UInt8)).length:Nat):Int)=0:=rfl;rw[cb,e]
theorem Scan.next{D:DS}(hI:Wal.DS.In D)(hD:D.Ok){f:Nat}{rs:List (List UInt8)}{used all:Int}{b:List UInt8}(h:Scan D f rs used)(h2:fm D.read ((rs.length:Int)+1) used=some (b,all)): ∃f',f=f'+1∧Scan D f' (rs++[b]) (used+all):=by
 obtain⟨h1,h0,h3,h4,h5⟩:=h;have hr:=nE hI hD h0 h2;have hf:=(kw (la hD _) h2).1;obtain⟨f',rfl⟩: ∃f',f=f'+1:=⟨f-1,by omega⟩;refine⟨f',rfl,?_,by omega,by omega,by omega,by simp;omega⟩;rw[h1,CH h2];simp
theorem Scan.stop{D:DS}{f:Nat}{rs:List (List UInt8)}{used:Int}(h:Scan D f rs used)(h2:fm D.read ((rs.length:Int)+1) used=none):fx D.read iF 0 0=(rs,used):=by
 rw[h.1,xh h2];simp
theorem zi{D:DS}{at':Int}(h:2048≤at'):ja (2048-at').toNat at' D=(0,D):=by rw[show(2048-at').toNat=0 by omega];rfl
theorem Dw{D:DS}{at':Int}(h:at'<2048)(h2:D.read at'=zs):ja (2048-at').toNat at' D=ja (2048- (at'+1)).toNat (at'+1) D:=by
 rw[show(2048-at').toNat=(2048- (at'+1)).toNat+1 by omega,ja,if_pos h2]
theorem G1{D:DS}{at':Int}(h:at'<2048)(h2:D.read at'≠zs)(h3:(D.write at' []).1=0):ja (2048-at').toNat at' D=ja (2048- (at'+1)).toNat (at'+1) (D.write at' []).2:=by
 rw[show(2048-at').toNat=(2048- (at'+1)).toNat+1 by omega,ja,if_neg h2,if_pos h3]
theorem Dx{D:DS}{at':Int}(h:at'<2048)(h2:D.read at'≠zs)(h3:(D.write at' []).1≠0):ja (2048-at').toNat at' D=D.write at' []:=by
 rw[show(2048-at').toNat=(2048- (at'+1)).toNat+1 by omega,ja,if_neg h2,if_neg h3]
theorem BF{D D':DS}{rs:List (List UInt8)}{used e:Int}(h:fx D.read iF 0 0=(rs,used))(h2:ja (2048-used).toNat used D=(e,D'))(h3:e≠0):bJ D=⟨e,[],0,D'⟩:=by
 simp only[bJ,h,h2];rw[if_pos h3]
theorem BE{D D':DS}{rs:List (List UInt8)}{used:Int}(h:fx D.read iF 0 0=(rs,used))(h2:ja (2048-used).toNat used D=(0,D'))(h3:D'.sync.1≠0):bJ D=⟨D'.sync.1,[],0,D'.sync.2⟩:=by
 simp only[bJ,h,h2,ne_eq,not_true_eq_false,if_false];rw[if_pos h3]
theorem CU{D D':DS}{rs:List (List UInt8)}{used:Int}(h:fx D.read iF 0 0=(rs,used))(h2:ja (2048-used).toNat used D=(0,D'))(h3:D'.sync.1=0):bJ D=⟨0,rs,used,D'.sync.2⟩:=by
 simp only[bJ,h,h2,ne_eq,not_true_eq_false,if_false];rw[if_neg (by simp[h3])]
def fQ:List ji→Int→DS→Int×DS
 | [],_,D=>(0,D)
 |s::ss,at',D=>if(D.write at' s).1=0 then fQ ss (at'+1) (D.write at' s).2 else D.write at' s
structure PutR where
 err:Int
 cnt:Nat
 used:Int
 D:DS
def m7(D:DS)(cnt:Nat)(used:Int)(bs:List UInt8):PutR:=
 if 3000<bs.length then⟨2,cnt,used,D⟩
 else if(bn bs.length:Int)>2048-used then⟨3,cnt,used,D⟩
 else
  let w:=fQ (cg ((cnt+1:Nat):Int) bs) used D
  if w.1≠0 then⟨w.1,cnt,used,w.2⟩else if w.2.sync.1≠0 then⟨w.2.sync.1,cnt,used,w.2.sync.2⟩else⟨0,cnt+1,used+bn bs.length,w.2.sync.2⟩
theorem zf{ss:List ji}{at':Int}{D:DS}{k:Nat}(hk:k<ss.length)(h:(D.write (at'+k) ss[k]).1=0):fQ (ss.drop k) (at'+k) D=fQ (ss.drop (k+1)) (at'+(k+1:Nat)) (D.write (at'+k) ss[k]).2:=by
 rw[df hk,fQ,if_pos h];congr 1;omega
theorem zg{ss:List ji}{at':Int}{D:DS}{k:Nat}(hk:k<ss.length)(h:(D.write (at'+k) ss[k]).1≠0):fQ (ss.drop k) (at'+k) D=D.write (at'+k) ss[k]:=by
 rw[df hk,fQ,if_neg h]
section
variable {D D':DS} {cnt:Nat} {used:Int} {bs:List UInt8}
theorem FO(h:3000<bs.length):m7 D cnt used bs=⟨2,cnt,used,D⟩:=by rw[m7,if_pos h]
theorem FP(h: ¬3000<bs.length)(h2:(bn bs.length:Int)>2048-used):m7 D cnt used bs=⟨3,cnt,used,D⟩:=by rw[m7,if_neg h,if_pos h2]
theorem Eg{e:Int}(h: ¬3000<bs.length)(h2: ¬(bn bs.length:Int)>2048-used)(h3:fQ (cg ((cnt+1:Nat):Int) bs) used D=(e,D'))(h4:e≠0):m7 D cnt used bs=⟨e,cnt,used,D'⟩:=by
 rw[m7,if_neg h,if_neg h2];simp only[h3];rw[if_pos h4]
theorem Ef(h: ¬3000<bs.length)(h2: ¬(bn bs.length:Int)>2048-used)(h3:fQ (cg ((cnt+1:Nat):Int) bs) used D=(0,D'))(h4:D'.sync.1≠0):m7 D cnt used bs=⟨D'.sync.1,cnt,used,D'.sync.2⟩:=by
 rw[m7,if_neg h,if_neg h2];simp only[h3,ne_eq,not_true_eq_false,if_false];rw[if_pos h4]
theorem put_ok(h: ¬3000<bs.length)(h2: ¬(bn bs.length:Int)>2048-used)(h3:fQ (cg ((cnt+1:Nat):Int) bs) used D=(0,D'))(h4:D'.sync.1=0):m7 D cnt used bs=⟨0,cnt+1,used+bn bs.length,D'.sync.2⟩:=by
 rw[m7,if_neg h,if_neg h2];simp only[h3,ne_eq,not_true_eq_false,if_false];rw[if_neg (by simp[h4])]
end
end Wal
end

section
namespace Go.Proofs.YtjblgopghhgflaaGreat
open Go Leg Codec Api Dsk Wal
abbrev EC(lg d:Nat)(cnt used:Int):HP:=ak lg [.pointer (some ⟨d,0,none⟩), .int .i64 cnt, .int .i64 used] 210
abbrev Lm(v:Value)(ls:List (List UInt8)):HP:=ly 93 5 v ls
theorem zH(d:Nat)(D:DS)(number at':Int)(hD:D.Ok)(hb:D.ws.length≤1000000000)(ha:0≤at'∧at'≤1000000):
 DT 129 #[(.pointer (some ⟨d,0,none⟩)),(.int .i64 (number)),(.int .i64 (at'))] T0 [dk d (D)] (dG (λv H=>(fm D.read number at'=none∧v= .tuple #[.slice none 0 0, .int .i64 0, .bool false]∧H=[dk d D])∨∃b all u,fm D.read number at'=some (b,all)∧v= .tuple #[u, .int .i64 all, .bool true]∧H=[gg u b 5,dk d D])):=by
 refine BD 56 Tryz.func129 rfl rfl rfl λw0 F hF=>sr λ_ J1=>P3 ?_
 refine nx J1 (sr λ_ J2=>P2 ?_);refine CR F3 (yT d (D) at' hD hb) ID λvR HR hR=>?_
 obtain⟨hv,rfl⟩:=hR;subst hv;refine PS ?_;refine CR H8 (u0 ((D).read at') number 0 (la hD _)) ID λvR HR hR=>?_
 rcases hR with⟨hp,rfl,rfl⟩| ⟨b,all,u,hp,rfl,rfl⟩
 refine P4 ?_;refine P3 ?_;refine nx J2 (aa λ_ J3=>sr λ_ J4=>PS ?_);refine PS ?_;refine nx J4 (CY (sr λ_ J5=>P3 ?_));exact nx J5 (ai (ad (WK [0] (mo rfl rfl rfl rfl (.inl ⟨pN hp,rfl,rfl⟩)))));refine TL.subLen 0 rfl rfl (λhul hu=>?_);have hpf:=nL (la hD _) hp;refine P4 ?_;refine P3 ?_;refine nx J2 (aa λ_ J6=>sr λ_ J7=>PS ?_);refine PS ?_;refine nx J7 (CN (qx J6 (aa λ_ J8=>sr λ_ J9=>PS ?_)));refine nx J9 (aq ?_)
 refine bF (α:=(Nat)×(List UInt8)×(Value)) (λ⟨k,c,w⟩=>1≤k∧k≤all.toNat∧j7 D.read number at' all k=some c∧c.length≤k*52∧w.oneCell'=true) (λ⟨k,c,w⟩=>[(0,(.pointer (some ⟨d,0,none⟩))),(1,(.int .i64 (number))),(2,(.int .i64 (at'))),(9,w),(10,(.int .i64 (all))),(12,(.int .i64 (((k:Nat):Int))))]) (λ⟨k,c,w⟩=>[gg w (c) 5,dk d (D)]) (λ⟨k,c,w⟩=>all.toNat-k) (1,b,u)
  ⟨aN _,by omega,EA hp,by omega,hu⟩ SB
  (λ_ s=>s) (λ⟨k,c,w⟩ hinv=>?_)
 obtain⟨hk1,hk2,hk3,hk4,hw⟩:=hinv;refine aa λ_ J10=>sr λ_ J11=>P3 ?_
 refine ao ?_ ?_<;>intro h29;refine nx J11 (CY (qx J10 (aa λ_ J12=>aq (sr λ_ J13=>P3 ?_))));refine AD ?_;refine CR F3 (yT d (D) (at'+((k:Nat):Int)) hD hb) (SM [1]) λvR HR hR=>?_
 obtain⟨hv,rfl⟩:=hR;subst hv;refine P2 ?_;refine CR H8 (u0 ((D).read (at'+((k:Nat):Int))) number ((k:Nat):Int) (la hD _)) ID λvR HR hR=>?_
 rcases hR with⟨hp2,rfl,rfl⟩| ⟨b2,all2,u2,hp2,rfl,rfl⟩
 refine P4 ?_;refine P3 ?_;refine nx J13 (aa λ_ J14=>sr λ_ J15=>PS ?_);refine PS ?_;refine PS ?_
 iterate 3 refine UT ?_
 refine PS ?_;refine nx J15 (CY (sr λ_ J16=>P3 ?_));refine nx J16 (ai (ad (aH (ad (ad (aH (ad (WK [0] (mo rfl rfl rfl rfl ?_)))))))));exact .inl ⟨pM hp (vf (.inl hp2) _ (by omega)),rfl,rfl⟩;refine TL.subLen 0 rfl rfl (λhul2 hu2=>?_);have hpf2:=nL (la hD _) hp2;refine P4 ?_;refine P3 ?_;refine nx J13 (aa λ_ J17=>sr λ_ J18=>PS ?_);refine PS ?_;refine P4 ?_;refine ao ?_ ?_<;>intro h49;refine PS ?_;refine nx J18 (CY (sr λ_ J19=>P3 ?_));refine nx J19 (ai (ad (aH (ad (ad (aH (ad (WK [1] (mo rfl rfl rfl rfl ?_)))))))));exact .inl ⟨pM hp (vf (.inr ⟨b2,all2,hp2,h49⟩) _ (by omega)),rfl,rfl⟩;refine PS ?_;refine nx J18 (CN (qx J17 (ae (P2 ?_))));refine TL.appendS (k:=2) (news:=b2) (bs':=c++b2) (ab rfl) rfl rfl rfl fq wG rfl rfl rfl rfl (λ_ s=>Src.sub 0 rfl rfl s) (by omega) rfl (λv53 ov53=>PS ?_);refine au (ag (ac J12 (ae (PS ?_))));refine AD ?_;refine PS ?_;refine au ?_
 exact aL ((k+1,c++b2,v53):(Nat)×(List UInt8)×(Value)) ⟨by omega,by omega,vh hk3 (by rw[hp2,show all2=all by omega]),by rw[af];omega,ov53⟩ (by show all.toNat- (k+1)<all.toNat-k;omega)
  SB
  (λ_ s=>aj [2,1] rfl s)
 refine nx J11 (CN (bg (aF (aF (bD (ac J8 (sr λ_ J20=>?_)))))))
 iterate 5 refine PS ?_
 refine nx J20 (ai (WK [0,0] (mo rfl rfl rfl rfl ?_)));exact .inr ⟨c,all,w,qX hp (by rw[show all.toNat=k by omega];exact hk3),rfl,rfl⟩
theorem D8(lg d:Nat)(cnt used:Int)(h:0≤used∧used≤2048):
 DT 177 #[(.pointer (some ⟨lg,0,none⟩))] T0 [ak lg [(.pointer (some ⟨d,0,none⟩)),(.int .i64 (cnt)),(.int .i64 (used))] 210] (RI (.int .i64 (2048-used)) [EC lg d cnt used]):=by
 refine BD 8 Tryz.func177 rfl rfl rfl λw0 F hF=>sr λ_ J1=>PS ?_
 refine nx J1 (sr λ_ J2=>P2 ?_);refine FA 2 pI aM ?_;refine LA 0 Y3 ?_;refine tp (iY rfl rfl rfl (bC (by omega) (by omega))) ?_;refine PS ?_;exact nx J2 (ai (WK [0] (ap rfl rfl ⟨rfl,rfl⟩)))
theorem zp(lg d cnt:Nat)(used:Int)(x:Value)(bs:List UInt8)(D:DS)(hD:D.Ok)(hb:D.ws.length≤1000000)(hu:0≤used∧used≤2048)(hc:cnt≤1000000):
 DT 166 #[(.pointer (some ⟨lg,0,none⟩)),x] (IsW x bs) [ak lg [(.pointer (some ⟨d,0,none⟩)),(.int .i64 (((cnt:Nat):Int))),(.int .i64 (used))] 210,dk d (D)] (RI (.int .i64 (m7 D cnt used bs).err) [EC lg d (((m7 D cnt used bs).cnt:Nat):Int) (m7 D cnt used bs).used,dk d (m7 D cnt used bs).D]):=by
 refine BD 72 Tryz.func166 rfl rfl rfl λw0 F hF=>sr λ_ J1=>PS ?_
 refine nx J1 (aa λ_ J2=>sr λ_ J3=>PS ?_);refine tp (cY rfl fq rfl hF.len) ?_;refine PS ?_;refine ao ?_ ?_<;>intro h12;refine nx J3 (CY (sr λ_ J4=>PS ?_));refine nx J4 (ai (ad (WK [0,0] (ap rfl rfl ?_))));rw[FO (by omega)];exact⟨rfl,rfl⟩;refine nx J3 (CN (qx J2 (sr λ_ J5=>PS ?_)));refine tp (cY rfl fq rfl hF.len) ?_;refine CE H3 (sW bs.length (by omega)) ID ?_;refine PS ?_;refine nx J5 (aa λ_ J6=>sr λ_ J7=>P2 ?_);refine CE Kg (D8 lg d ((cnt:Nat):Int) used hu) ID ?_;refine PS ?_;refine ao ?_ ?_<;>intro h19;refine nx J7 (CY (sr λ_ J8=>PS ?_));refine nx J8 (ai (ad (WK [0,0] (ap rfl rfl ?_))));rw[FP (by omega) (by omega)];exact⟨rfl,rfl⟩;refine nx J7 (CN (qx J6 (aa λ_ J9=>sr λ_ J10=>P2 ?_)));refine FA 1 pI aM ?_;refine LA 0 Y3 ?_;refine tp (GQ (v':=(.int .i64 (((cnt+1:Nat):Int)))) (cw rfl rfl rfl (bC (by omega) (by omega))) rfl) ?_;refine PS ?_;refine CQ Kf (yl x (cnt+1) bs (by omega)) ID (λg d _=>K8 hF d) λvR HR hR=>?_
 have hR:=hR;subst hR;change TL _ _ _ _ _ _ _ _ _ [ly 93 5 vR (cg ((cnt+1:Nat):Int) bs),ak lg [(.pointer (some ⟨d,0,none⟩)),(.int .i64 (((cnt:Nat):Int))),(.int .i64 (used))] 210,dk d (D)];refine TL.recsLen 0 rfl rfl (λhrl hro=>?_);rw[eg]at hrl;refine tp (cY rfl tD rfl hrl) ?_;refine PS ?_;refine nx J10 (aq ?_)
 refine bF (α:=(Nat)×(DS)) (λ⟨k,D'⟩=>k≤bn bs.length∧fQ (cg ((cnt+1:Nat):Int) bs) used D=fQ ((cg ((cnt+1:Nat):Int) bs).drop k) (used+(k:Nat)) D'∧D'.Ok∧D'.ws.length≤D.ws.length+k) (λ⟨k,D'⟩=>[(0,(.pointer (some ⟨lg,0,none⟩))),(5,(.int .i64 (((bn bs.length:Nat):Int)))),(26,vR),(27,(.int .i64 ((((bn bs.length):Nat):Int)))),(28,(.int .i64 (((k:Nat):Int))))]) (λ⟨k,D'⟩=>[ak lg [(.pointer (some ⟨d,0,none⟩)),(.int .i64 (((cnt:Nat):Int))),(.int .i64 (used))] 210,dk d (D'),ly 93 5 vR (cg ((cnt+1:Nat):Int) bs)]) (λ⟨k,D'⟩=>bn bs.length-k) (0,D)
  ⟨aR _,by simp,hD,by omega⟩ SB
  (λ_ s=>aA [1,1,0] rfl s) (λ⟨k,D'⟩ hinv=>?_)
 obtain⟨hk,hwr,hD',hws⟩:=hinv;refine sr λ_ J11=>PS ?_
 refine ao ?_ ?_<;>intro h29;refine cn (λ_ s=>aA [2] rfl s) (Iw (λus=>?_));change TL _ _ _ _ _ _ _ _ _ [own vR ((cg ((cnt+1:Nat):Int) bs).length) (us) 93 1,ee us (cg ((cnt+1:Nat):Int) bs) 5,ak lg [(.pointer (some ⟨d,0,none⟩)),(.int .i64 (((cnt:Nat):Int))),(.int .i64 (used))] 210,dk d (D')];refine wP (p:=us.length=(cg ((cnt+1:Nat):Int) bs).length*1) (λw m=>m.own_len (i:=0) (lb rfl) rfl) (λhul=>?_);rw[eg,fk]at hul;have hkl:k< (cg ((cnt+1:Nat):Int) bs).length:=by rw[eg];omega
 obtain⟨sk,hsk⟩: ∃x,(cg ((cnt+1:Nat):Int) bs)[k]=x:=⟨_,rfl⟩;refine gG 0 rfl rfl (by omega) (λg cap hv hcap=>nx J11 (aa λ_ J12=>CY (qx J12 (aa λ_ J13=>aq (sr λ_ J14=>PS ?_)))));refine tp (a8 (r:=k) hv rfl tD mK rfl rfl (by omega) (by omega) (by omega)) ?_;refine tp (bT (v:=(us.getD k undef)) rfl fq rfl rfl (eM 0 rfl hv rfl) (by simp[List.getD_eq_getElem?_getD,show k<us.length by omega])) ?_;refine P2 ?_;refine nx J14 (aa λ_ J15=>D1 2 dF ?_);refine PD 0 ?_;refine PD 1 ?_;refine FD 2 0 pI oJ ?_;refine LX 3 vY (.pointer (some ⟨d,0,none⟩)) ?_ (hc:=by exact rfl);refine PD 4 ?_;refine PD 5 ?_;refine FD 6 2 pI aM ?_;refine LX 7 Y3 (.int .i64 (used)) ?_ (hc:=by exact rfl);refine PD 8 ?_;refine ta 9 rfl (cw rfl rfl rfl (bC (by omega) (by omega))) ?_;refine PD 10 ?_;refine AL 11 ?_;refine CQ JT (AJ d D' (used+((k:Nat):Int)) (us.getD k undef) sk hD' (by omega)) (SM [3]) (λg d s=>GT (hsk▸sB 1 hkl rfl rfl g d s)) λvR HR hR=>?_
 obtain⟨hv2,rfl⟩:=hR;subst hv2;refine EN (PD 12 ?_);refine DN (ac J15 (sr λ_ J16=>P2 ?_));refine ao ?_ ?_<;>intro h46;refine nx J16 (CY (sr λ_ J17=>P2 ?_));refine nx J17 (ai (aH (ad (ad (aH (ad (WK [3,0] (ap rfl rfl ?_))))))));have hf:=zg (D:=D') (at':=used) hkl (by rw[hsk];exact h46);rw[hsk]at hf;rw[Eg (by omega) (by omega) (hwr.trans hf) h46];exact⟨rfl,rfl⟩;refine nx J16 (CN (aS (ag (ac J13 (ae (AD ?_))))));refine PS ?_;refine au ?_
 exact aL ((k+1,(D'.write (used+((k:Nat):Int)) sk).2):(Nat)×(DS)) ⟨by omega,by rw[hwr];subst hsk;exact zf hkl (by simpa using h46),DS.write_ok hD' _ _,by have:=DS.write_ws (D:=D') (at':=used+((k:Nat):Int)) (bs:=sk);omega⟩ (by show bn bs.length- (k+1)<bn bs.length-k;omega)
  SB
  (λ_ s=>aA [1,1,0] rfl (bm (p:=λus:List Value=>[own vR (cg ((cnt+1:Nat):Int) bs).length us 93 1,ee us (cg ((cnt+1:Nat):Int) bs) 5]) us (aj [1,1,1,0] rfl s)))
 refine nx J11 (aa λ_ J18=>CN (bg (aF (aF (bD (ac J9 (aa λ_ J19=>sr λ_ J20=>P2 ?_)))))));refine FA 0 pI oJ ?_;refine LA 0 vY ?_;refine CR JS (Dh d (D') hD') (SM [1]) λvR HR hR=>?_
 obtain⟨hv,rfl⟩:=hR;subst hv;refine PS ?_;refine nx J20 (sr λ_ J21=>P2 ?_);refine ao ?_ ?_<;>intro h55;refine nx J21 (CY (sr λ_ J22=>P2 ?_));refine nx J22 (ai (ad (WK [1,0] (ap rfl rfl ?_))));have hf:fQ (cg ((cnt+1:Nat):Int) bs) used D=(0,D'):=by rw[hwr,cB (by rw[eg];omega)];rfl
 rw[Ef (by omega) (by omega) hf h55];exact⟨rfl,rfl⟩;refine nx J21 (CN (qx J19 (sr λ_ J23=>P2 ?_)));refine FA 1 pI aM ?_;refine LA 1 Y3 ?_;refine AD ?_;refine PS ?_;refine FA 1 pI aM ?_;refine S0 1 aM ?_;refine nx J23 (sr λ_ J24=>P2 ?_);refine FA 2 pI aM ?_;refine LA 1 Y3 ?_;refine PS ?_;refine AD ?_;refine PS ?_;refine FA 2 pI aM ?_;refine S0 1 aM ?_;refine nx J24 (sr λ_ J25=>PS ?_);refine nx J25 (ai (WK [1,0] (ap rfl rfl ?_)));have hf:fQ (cg ((cnt+1:Nat):Int) bs) used D=(0,D'):=by rw[hwr,cB (by rw[eg];omega)];rfl
 rw[put_ok (by omega) (by omega) hf (by simpa using h55)];exact⟨rfl,rfl⟩
theorem Eu(d:Nat)(D:DS)(hD:D.Ok)(hI:Wal.DS.In D)(hb:D.ws.length≤1000000):
 DT 92 #[(.pointer (some ⟨d,0,none⟩))] T0 [dk d (D)] (dG (λv H=>((bJ D).err≠0∧v= .tuple #[.pointer none, .slice none 0 0, .int .i64 (bJ D).err]∧H=[dk d (bJ D).D])∨((bJ D).err=0∧∃lg vr,v= .tuple #[.pointer (some ⟨lg,0,none⟩),vr, .int .i64 0]∧H=[EC lg d (((bJ D).recs.length:Nat):Int) (bJ D).used,Lm vr (bJ D).recs,dk d (bJ D).D]))):=by
 refine BD 80 Tryz.func92 rfl rfl rfl λw0 F hF=>sr λ_ J1=>P3 ?_
 refine nx J1 (aa λ_ J2=>sr λ_ J3=>PS ?_);refine tp (lq rfl vY rfl rfl) ?_;refine nx J3 (CN (qx J2 (sr λ_ J4=>PS ?_)));refine BV #[(.pointer (some ⟨d,0,none⟩)),(.int .i64 0),(.int .i64 0)] ?_;refine XB λb17=>?_
 refine PS ?_;refine nx J4 (sr λ_ J5=>PS ?_);refine nx J5 (aa λ_ J6=>aq ?_)
 refine bF (α:=(Nat)×(List (List UInt8))×(Int)×(Value)) (λ⟨f,rs,used,vr⟩=>Scan D f rs used∧vr.oneCell'=true) (λ⟨f,rs,used,vr⟩=>[(0,(.pointer (some ⟨d,0,none⟩))),(2,(.pointer none)),(3,(.slice none 0 0)),(4,(.int .i64 0)),(5,(.pointer (some ⟨b17,0,none⟩))),(6,vr)]) (λ⟨f,rs,used,vr⟩=>[ak b17 [(.pointer (some ⟨d,0,none⟩)),(.int .i64 (((rs.length:Nat):Int))),(.int .i64 (used))] 210,dk d (D),ly 93 5 vr (rs)]) (λ⟨f,rs,used,vr⟩=>f) (iF,[],0,(.slice none 0 0))
  ⟨Scan.start D,rfl⟩ SB
  (λ_ s=>dS (List.Perm.trans (List.Perm.swap _ _ _) (List.Perm.cons _ (List.Perm.swap _ _ _))) (sP 93 5 s)) (λ⟨f,rs,used,vr⟩ hinv=>?_)
 obtain⟨hsc,hvr⟩:=hinv;obtain⟨hs1,hs2,hs3,hs4,hs5⟩:=id hsc;refine aq (aa λ_ J7=>D1 0 dF ?_);refine PD 0 ?_;refine PD 1 ?_;refine PD 2 ?_;refine FD 3 1 pI aM ?_;refine LX 4 Y3 (.int .i64 (((rs.length:Nat):Int))) ?_ (hc:=by exact rfl);refine ta 5 rfl (cw rfl rfl rfl (bC (by omega) (by omega))) ?_;refine PD 6 ?_;refine PD 7 ?_;refine FD 8 2 pI aM ?_;refine LX 9 Y3 (.int .i64 (used)) ?_ (hc:=by exact rfl);refine AL 10 ?_;refine CR KF (zH d D (((rs.length:Nat):Int)+1) used hD (by omega) (by omega)) (SM [1]) λvR HR hR=>?_
 rcases hR with⟨hst,rfl,rfl⟩| ⟨b,all,u,hst,rfl,rfl⟩
 have hss:=Scan.stop hsc hst;refine EN (PD 11 ?_);refine PD 12 ?_;refine PD 13 ?_;refine PD 14 ?_;refine PD 15 ?_;refine PD 16 ?_;refine PD 17 ?_;refine DN (ac J7 (aa λ_ J8=>sr λ_ J9=>PS ?_));refine PS ?_;refine nx J9 (CY (bg (aF (TE.miss (by decide) (aF (bD (ac J6 (aa λ_ J10=>sr λ_ J11=>P2 ?_))))))));refine FA 2 pI aM ?_;refine LA 1 Y3 ?_;refine PS ?_;refine nx J11 (aq ?_)
 refine bF (α:=(Int)×(DS)) (λ⟨at',D'⟩=>used≤at'∧at'≤2048∧ja (2048-used).toNat used D=ja (2048-at').toNat at' D'∧D'.Ok∧D'.ws.length≤D.ws.length+(at'-used).toNat) (λ⟨at',D'⟩=>[(0,(.pointer (some ⟨d,0,none⟩))),(5,(.pointer (some ⟨b17,0,none⟩))),(6,vr),(10,(.int .i64 (at')))]) (λ⟨at',D'⟩=>[ak b17 [(.pointer (some ⟨d,0,none⟩)),(.int .i64 (((rs.length:Nat):Int))),(.int .i64 (used))] 210,dk d (D'),ly 93 5 vr (rs)]) (λ⟨at',D'⟩=>(2048-at').toNat) (used,D)
  ⟨by omega,by omega,rfl,hD,by omega⟩ SB
  (λ_ s=>aj [1,0,0] rfl s) (λ⟨at',D'⟩ hinv=>?_)
 obtain⟨ha1,ha2,hwi,hD',hws⟩:=hinv;refine aa λ_ J12=>sr λ_ J13=>P2 ?_
 refine ao ?_ ?_<;>intro h59;refine nx J13 (CY (qx J12 (aa λ_ J14=>aq (aa λ_ J15=>sr λ_ J16=>P2 ?_))));refine CR F3 (yT d (D') at' hD' (by omega)) (SM [1]) λvR HR hR=>?_
 obtain⟨hv,rfl⟩:=hR;subst hv;refine BV ((ef zs).toArray) ?_;refine tp (PV.eqlBy (a:=((D').read at')) (b:=zs) (m:=2) JB Jx rfl JD JF JE (la hD' _) (by decide) rfl rfl rfl) ?_;refine ao ?_ ?_<;>intro h66;refine nx J16 (CY (bg (aF (bD (ac J14 (ae (PS ?_)))))));refine AD ?_;refine PS ?_;refine au ?_
 exact aL ((at'+1,D'):(Int)×(DS)) ⟨by omega,by omega,by rw[hwi];exact Dw (by omega) h66,hD',by omega⟩ (by show(2048- (at'+1)).toNat< (2048-at').toNat;omega)
  SB
  (λ_ s=>aj [1,0,0] rfl s)
 refine nx J16 (CN (qx J15 (sr λ_ J17=>P2 ?_)));refine CQ JT (AJ d (D') at' (.slice none 0 0) ([]) hD' (by omega)) ID (λ_ _ _=> .inl (.inl ⟨rfl,rfl⟩)) λvR HR hR=>?_
 obtain⟨hv,rfl⟩:=hR;subst hv;refine PS ?_;refine nx J17 (sr λ_ J18=>P2 ?_);refine ao ?_ ?_<;>intro h71;refine nx J18 (CY (sr λ_ J19=>P4 ?_));refine nx J19 (ai (aH (ad (ad (aH (ad (WK [0] (mo rfl rfl rfl rfl ?_))))))));rw[BF hss (hwi.trans (Dx (by omega) h66 h71)) h71];exact .inl ⟨h71,rfl,rfl⟩;refine nx J18 (CN (aS (ag (ac J14 (ae (PS ?_))))));refine AD ?_;refine PS ?_;refine au ?_
 exact aL ((at'+1,(D'.write at' []).2):(Int)×(DS)) ⟨by omega,by omega,by rw[hwi];exact G1 (by omega) h66 (by simpa using h71),DS.write_ok hD' _ _,by have:=DS.write_ws (D:=D') (at':=at') (bs:=[]);omega⟩ (by show(2048- (at'+1)).toNat< (2048-at').toNat;omega)
  SB
  (λ_ s=>aj [1,0,0] rfl s)
 refine nx J13 (CN (bg (aF (aF (bD (ac J10 (aa λ_ J20=>sr λ_ J21=>PS ?_)))))));refine CR JS (Dh d (D') hD') (SM [1]) λvR HR hR=>?_
 obtain⟨hv,rfl⟩:=hR;subst hv;refine PS ?_;refine nx J21 (sr λ_ J22=>P2 ?_);refine ao ?_ ?_<;>intro h76;refine nx J22 (CY (sr λ_ J23=>P4 ?_));refine nx J23 (ai (ad (WK [0] (mo rfl rfl rfl rfl ?_))));rw[BE hss (hwi.trans (zi (by omega))) h76];exact .inl ⟨h76,rfl,rfl⟩;refine nx J22 (CN (qx J20 (sr λ_ J24=>?_)))
 iterate 5 refine PS ?_
 refine nx J24 (ai (WK [1,1,0] (mo rfl rfl rfl rfl ?_)));have h76':D'.sync.1=0:=by omega
 rw[CU hss (hwi.trans (zi (by omega))) h76'];exact .inr ⟨rfl,b17,vr,rfl,rfl⟩;have hro:=nE hI hD (by omega) hst;have hfa:=(kw (la hD _) hst).1;obtain⟨f',rfl,hsn⟩:=Scan.next hI hD hsc hst;refine TL.subLen 0 rfl rfl (λhul hu=>EN (PD 11 ?_));refine PD 12 ?_;refine PD 13 ?_;refine PD 14 ?_;refine PD 15 ?_;refine PD 16 ?_;refine PD 17 ?_;refine DN (ac J7 (aa λ_ J25=>sr λ_ J26=>PS ?_));refine PS ?_;refine nx J26 (CN (qx J25 (sr λ_ J27=>P2 ?_)));refine aP (cells:=#[u]) (ab rfl) rfl rfl rfl tD EK rfl rfl rfl (rz hu (by simp)) (λb37=>?_);change TL _ _ _ _ _ _ _ _ _ [ak b37 [u] 93,gg u (b) 5,dk d (D),ak b17 [(.pointer (some ⟨d,0,none⟩)),(.int .i64 (((rs.length:Nat):Int))),(.int .i64 (used))] 210,ly 93 5 vr (rs)];refine cn (λ_ s=>aA [4] rfl s) (Iw (λus38=>co (k:=0) (m:=1) (news:=[u]) (nn':=(rs).length+1) (xs':=us38++[u]) (ab rfl) rfl rfl rfl tD EK rfl rfl rfl rfl rfl rfl (λ_ _=>gJ rfl (RO 2) rfl) (List.forall_mem_cons.2 ⟨hu,λ_ h=>by cases h⟩) (by simp only[maxLen];omega) (by omega) rfl rfl (λv38 ov38=>?_)));change TL _ _ _ _ _ _ _ _ _ [own v38 ((rs).length+1) (us38++[u]) 93 1,ee us38 (rs) 5,ak b37 [u] 93,gg u (b) 5,dk d (D),ak b17 [(.pointer (some ⟨d,0,none⟩)),(.int .i64 (((rs.length:Nat):Int))),(.int .i64 (used))] 210]
 refine cn (H':=[own v38 ((rs).length+1) (us38++[u]) 93 1,ee us38 (rs) 5,gg u (b) 5,ak b37 [u] 93,dk d (D),ak b17 [(.pointer (some ⟨d,0,none⟩)),(.int .i64 (((rs.length:Nat):Int))),(.int .i64 (used))] 210]) (λ_ s=>aA [0,0,1] rfl s) (cn (λ_ s=>sR s) (PS ?_));refine nx J27 (sr λ_ J28=>P2 ?_);refine FA 1 pI aM ?_;refine LA 3 Y3 ?_;refine tp (GQ (v':=(.int .i64 ((((rs++[b]).length:Nat):Int)))) (cw rfl rfl rfl (bC (by omega) (by omega))) (congrArg (Value.int .i64) (by simp))) ?_;refine PS ?_;refine FA 1 pI aM ?_;refine S0 3 aM ?_;refine nx J28 (ae (P2 ?_));refine FA 2 pI aM ?_;refine LA 3 Y3 ?_;refine PS ?_;refine AD ?_;refine PS ?_;refine FA 2 pI aM ?_;refine S0 3 aM ?_;refine au (ag ?_)
 exact aL ((f',rs++[b],used+all,v38):(Nat)×(List (List UInt8))×(Int)×(Value)) ⟨hsn,ov38⟩ (Nat.lt_succ_self _)
  SB
  (λ_ s=>aj [3,2,0] rfl s)
end Go.Proofs.YtjblgopghhgflaaGreat
end

section
namespace Wal
open Go Leg Codec Api Dsk
theorem zJ(s ws:fh)(j:Int): ∀k,kl (Al s ws k) j=iy s ws j k
 |0=>rfl
 |k+1=>by
  rw[Al,iy,FC,zJ s ws j k]
  by_cases h:j=(kb ws k).1
  · rw[if_pos h,if_pos h.symm]
  · rw[if_neg h,if_neg (λq=>h q.symm)]
theorem Fl{ws x:fh}{k:Nat}(h:k<ws.length):kb (ws++x) k=kb ws k:=by simp[kb,List.getD_eq_getElem?_getD,List.getElem?_append_left h]
theorem uT{s ws x:fh}{j:Int}: ∀k,k≤ws.length→iy s (ws++x) j k=iy s ws j k
 |0,_=>rfl
 |k+1,h=>by rw[iy,iy,Fl (by omega),uT k (by omega)]
theorem Ee(s ws:fh)(p:Int×ji)(j:Int):iy s (ws++[p]) j (ws++[p]).length=if j=p.1 then p.2 else iy s ws j ws.length:=by
 rw[af,aw,az,ba,iy,uT _ (aN _)];have:kb (ws++[p]) ws.length=p:=by simp[kb,List.getD_eq_getElem?_getD]
 rw[this]
 by_cases h:j=p.1
 · rw[if_pos h,if_pos h.symm]
 · rw[if_neg h,if_neg (λq=>h q.symm)]
def BB(D:DS)(at':Int)(bs:List UInt8):DS:= {D with ws:=D.ws++[(at',eu bs)],lf:=if D.ar=true then D.lf-1 else D.lf,dn:=false}
theorem tU{D:DS}{at':Int}{bs:List UInt8}(h1:0≤at'∧at'<2048)(h2:bs.length≤64)(h3:D.dn=false)(h4:D.ar=false∨0<D.lf):D.write at' bs=(0,BB D at' bs):=by
 rw[DS.write,if_neg (by omega),if_neg]
 · rfl
 · rintro (h| ⟨h,h5⟩)
   · rw[h3]at h;cases h
   · rcases h4 with h4|h4
     · rw[h4]at h;cases h
     · omega
theorem Bb{D:DS}{at':Int}{bs:List UInt8}(h1:0≤at'∧at'<2048)(h2:bs.length≤64)(h4:D.ar=true∧D.lf=0):D.write at' bs=(4,{D with dn:=true}):=by
 rw[DS.write,if_neg (by omega),if_pos (.inr h4)]
theorem Ei(D:DS)(at':Int)(bs:List UInt8)(j:Int):(BB D at' bs).read j=if j=at' then eu bs else D.read j:=Ee _ _ _ _
theorem CM{D:DS}(h:D.Ok){at':Int}{bs:List UInt8}(h2:bs.length≤64)(h4:D.ar=false∨0<D.lf):(BB D at' bs).Ok:=by
 refine⟨h.s,h.ws.add _ (dp h2),?_⟩;have:=h.lf;show 0≤(if D.ar=true then D.lf-1 else D.lf)∧(if D.ar=true then D.lf-1 else D.lf)≤9223372036854775807;split
 · rename_i h5
   rcases h4 with h4|h4
   · rw[h4]at h5;cases h5
   · omega
 · exact this
theorem CO{D:DS}(h:Wal.DS.In D){at':Int}{bs:List UInt8}(h1:0≤at'∧at'<2048):Wal.DS.In (BB D at' bs):=⟨h.1,λp hp=>by
 rcases cq.1 hp with hp|hp
 · exact h.2 p hp
 · simp only[c8]at hp;subst hp;exact h1⟩
theorem In.put{s:fh}(h:In s){k:Int}{v:ji}(h1:0≤k∧k<2048):In (mY s k v):=by
 induction s with
 |nil=>intro p hp;simp only[mY,c8]at hp;subst hp;exact h1
 |cons p s ih=>
  obtain⟨a,b⟩:=p;intro q hq;simp only[mY]at hq;split at hq
  · rcases cf.1 hq with rfl|hq
    · exact h (a,b) (by simp)
    · exact h q (by simp[hq])
  · rcases cf.1 hq with rfl|hq
    · exact h (a,b) (by simp)
    · exact ih (λq hq=>h q (by simp[hq])) q hq
theorem In.lay{s ws:fh}(h:In s)(hw:In ws): ∀k,k≤ws.length→In (Al s ws k)
 |0,_=>h
 |k+1,hk=>by
  have:=hw (kb ws k) (by rw[ua (by omega)];exact cL _);exact(In.lay h hw k (by omega)).put this
theorem In.crash{mask torn:Int}{c:Nat}{s ws:fh}(h:In s)(hw:In ws): ∀k,k≤ws.length→In (mf mask torn c s ws k)
 |0,_=>h
 |k+1,hk=>by
  have h1:=hw (kb ws k) (by rw[ua (by omega)];exact cL _);have ih:=In.crash (mask:=mask) (torn:=torn) (c:=c) h hw k (by omega);simp only[mf,lQ];split
  · exact ih.put h1
  · split
    · exact ih.put h1
    · exact ih
theorem In.nil:In []:=λ_ h=>absurd h (by simp)
abbrev Mv:= @In.nil
structure Calm(D:DS):Prop where
 ok:D.Ok
 inn:Wal.DS.In D
 ar:D.ar=false
 dn:D.dn=false
theorem Calm.crash{D:DS}(h:D.Ok)(hi:Wal.DS.In D)(mask torn n:Int):Calm (D.crash mask torn n):=⟨DS.crash_ok h _ _ _,⟨hi.1.crash hi.2 _ (aN _),Mv⟩,rfl,rfl⟩
theorem DO{D:DS}(h:D.dn=false)(j:Int):D.sync.2.read j=D.read j:=by
 unfold DS.sync;rw[if_neg (by simp[h])];exact zJ _ _ _ _
theorem se{D:DS}(h:D.dn=false):D.sync.1=0∧D.sync.2.ws=[]∧D.sync.2.dn=false∧D.sync.2.ar=D.ar∧D.sync.2.lf=D.lf:=by
 unfold DS.sync;rw[if_neg (by simp[h])];exact⟨rfl,rfl,h,rfl,rfl⟩
theorem CB{D:DS}(h:Wal.DS.In D):Wal.DS.In D.sync.2:=by
 unfold DS.sync;split
 · exact h
 · exact⟨h.1.lay h.2 _ (aN _),Mv⟩
theorem Calm.sync{D:DS}(h:Calm D):Calm D.sync.2:=by
 obtain⟨_,_,h3,h4,_⟩:=se h.dn;exact⟨DS.sync_ok h.ok,CB h.inn,h4.trans h.ar,h3⟩
theorem Calm.put{D:DS}(h:Calm D){at':Int}{bs:List UInt8}(h1:0≤at'∧at'<2048)(h2:bs.length≤64):Calm (BB D at' bs):=⟨CM h.ok h2 (.inl h.ar),CO h.inn h1,h.ar,rfl⟩
theorem FT:eu []=zs:=rfl
theorem rU: ∀(n:Nat) (at':Int) (D:DS),Calm D→0≤at'→at'+n≤2048→∃D',ja n at' D=(0,D')∧Calm D'∧∀j,D'.read j=if at'≤j∧j<at'+n then zs else D.read j
 |0,at',D,h,_,_=>⟨D,rfl,h,λj=>by rw[if_neg (by omega)]⟩
 |n+1,at',D,h,h0,h1=>by
  by_cases hz:D.read at'=zs
  · obtain⟨D',e,c,r⟩:=rU n (at'+1) D h (by omega) (by omega)
    refine⟨D',by rw[ja,if_pos hz,e],c,λj=>?_⟩;rw[r j]
    by_cases q:j=at'
    · subst q;rw[if_neg (by omega),if_pos (by omega),hz]
    · by_cases q2:at'+1≤j∧j<at'+1+n
      · rw[if_pos q2,if_pos (by omega)]
      · rw[if_neg q2,if_neg (by omega)]
  · have hw:=tU (D:=D) (at':=at') (bs:=[]) (by omega) (by simp) h.dn (.inl h.ar)
    obtain⟨D',e,c,r⟩:=rU n (at'+1) (BB D at' []) (h.put (by omega) (by simp)) (by omega) (by omega);refine⟨D',by rw[ja,if_neg hz,hw,if_pos rfl,e],c,λj=>?_⟩;rw[r j,Ei,FT]
    by_cases q:j=at'
    · subst q;rw[if_neg (by omega),if_pos rfl,if_pos (by omega)]
    · rw[if_neg q]
      by_cases q2:at'+1≤j∧j<at'+1+n
      · rw[if_pos q2,if_pos (by omega)]
      · rw[if_neg q2,if_neg (by omega)]
theorem D4{D:DS}(h:Calm D):0≤(fx D.read iF 0 0).2∧(fx D.read iF 0 0).2≤2048∧((fx D.read iF 0 0).1.length:Int)≤(fx D.read iF 0 0).2:=by
 have key: ∀f rs used,Scan D f rs used→∃rs' used',fx D.read iF 0 0=(rs',used')∧0≤used'∧used'≤2048∧(rs'.length:Int)≤used':=by
  intro f
  induction f with
  |zero=>
   intro rs used hs;cases hst:fm D.read ((rs.length:Int)+1) used with
   |none=>exact⟨rs,used,hs.stop hst,hs.2.1,hs.2.2.1,hs.2.2.2.2⟩
   |some p=>obtain⟨b,all⟩:=p;obtain⟨f',e,_⟩:=Scan.next h.inn h.ok hs hst;omega
  |succ f ih=>
   intro rs used hs;cases hst:fm D.read ((rs.length:Int)+1) used with
   |none=>exact⟨rs,used,hs.stop hst,hs.2.1,hs.2.2.1,hs.2.2.2.2⟩
   |some p=>
    obtain⟨b,all⟩:=p;obtain⟨f',e,hs'⟩:=Scan.next h.inn h.ok hs hst;obtain rfl:f=f':=by omega
    exact ih _ _ hs'
 obtain⟨rs,used,e,h1,h2,h3⟩:=key _ _ _ (Scan.start D);rw[e];exact⟨h1,h2,h3⟩
theorem Ev{D:DS}(h:Calm D): ∃D',bJ D=⟨0,(fx D.read iF 0 0).1,(fx D.read iF 0 0).2,D'⟩∧Calm D'∧D'.ws=[]∧∀j,D'.read j=if(fx D.read iF 0 0).2≤j∧j<2048 then zs else D.read j:=by
 obtain⟨h1,h2,_⟩:=D4 h;generalize hr:fx D.read iF 0 0=r at*;obtain⟨rs,used⟩:=r;simp only at h1 h2 ⊢;obtain⟨D',e,c,rd⟩:=rU (2048-used).toNat used D h h1 (by omega);obtain⟨s1,s2,_⟩:=se c.dn;refine⟨D'.sync.2,CU hr e s1,c.sync,s2,λj=>?_⟩;rw[DO c.dn,rd j]
 by_cases q:used≤j∧j<2048
 · rw[if_pos q,if_pos (by omega)]
 · rw[if_neg q,if_neg (by omega)]
def jp:Nat→List (List UInt8)→List ji
 |_,[]=>[]
 |n,b::ls=>cg ((n+1:Nat):Int) b++jp (n+1) ls
def oL(ls:List (List UInt8)):Nat:=(jp 0 ls).length
theorem yN: ∀(a:List (List UInt8)) (n:Nat) (b:List (List UInt8)),jp n (a++b)=jp n a++jp (n+a.length) b
 | [],n,b=>by simp[jp]
 |x::a,n,b=>by
  simp only[oq,jp,yN a (n+1) b,bb,aw];rw[show n+1+a.length=n+(a.length+1)by omega]
theorem xG: ∀(ls:List (List UInt8)) (n m:Nat),(jp n ls).length=(jp m ls).length
 | [],_,_=>rfl
 |b::ls,n,m=>by simp only[jp,af,eg,xG ls (n+1) (m+1)]
theorem zI: ∀ls:List (List UInt8),ls.length≤oL ls
 | []=>aN _
 |b::ls=>by
  have h1:=zI ls;have h2:=oS b.length;have h3:=xG ls 1 0;simp only[oL,jp,af,eg,aw,h3]at*;omega
theorem yn{number:Int}{b:List UInt8}{k:Nat}(h:k< (cg number b).length):(cg number b)[k]=oN number k (bn b.length) (fU b k):=by simp[cg]
theorem ym(number:Int)(b:List UInt8): ∀s∈cg number b,s.length=64:=λs hs=>by
 obtain⟨i,_,rfl⟩:=eC.1 hs;exact DZ (sn b i)
theorem uZ{number:Int}{b:List UInt8}{k:Nat}(h:k< (cg number b).length)(h0:0≤number)(h1:number<4294967296)(hb:b.length≤3000):eZ (cg number b)[k] number k=some (fU b k,((bn b.length:Nat):Int)):=by
 rw[yn h];rw[eg]at h;exact Ab (sn b k) h0 h1 h (by have:=uY hb;omega)
theorem xx{rd:Int→ji}{number at':Int}{b:List UInt8}(h0:0≤number)(h1:number<4294967296)(hb:b.length≤3000): ∀k,k≤bn b.length→(∀j (h:j< (cg number b).length),j<k→rd (at'+j)=(cg number b)[j])→
 j7 rd number at' ((bn b.length:Nat):Int) k=some ((List.range k).map (fU b)).flatten
 |0,_,_=>rfl
 |k+1,hk,h=>by
  have ih:=xx h0 h1 hb k (by omega) (λj hj hj2=>h j hj (by omega));have hl:k< (cg number b).length:=by rw[eg];omega
  rw[vh ih (by rw[h k hl (by omega)];exact uZ hl h0 h1 hb)];simp[cO]
theorem zG{rd:Int→ji}{number at':Int}{b:List UInt8}(h0:0≤number)(h1:number<4294967296)(hb:b.length≤3000)(h: ∀j (h:j< (cg number b).length),rd (at'+j)=(cg number b)[j]):fm rd number at'=some (b,((bn b.length:Nat):Int)):=by
 have hl:0< (cg number b).length:=by rw[eg];exact oS _
 have hp:eZ (rd at') number 0=some (fU b 0,((bn b.length:Nat):Int)):=by
  have e:=h 0 hl;rw[show at'+((0:Nat):Int)=at' by omega]at e;rw[e];exact uZ hl h0 h1 hb
 refine qX hp ?_;rw[GU,xx h0 h1 hb _ (aN _) (λj hj _=>h j hj),Eo b _ (wx _)]
def Shows(rd:Int→ji)(at':Int)(l:List ji):Prop:=∀j (h:j<l.length),rd (at'+j)=l[j]
theorem Shows.left{rd:Int→ji}{at':Int}{a b:List ji}(h:Shows rd at' (a++b)):Shows rd at' a:=λj hj=>by
 rw[h j (by rw[af];omega),List.getElem_append_left hj]
theorem Shows.right{rd:Int→ji}{at':Int}{a b:List ji}(h:Shows rd at' (a++b)):Shows rd (at'+a.length) b:=λj hj=>by
 have:=h (a.length+j) (by rw[af];omega);rw[show at'+((a.length+j:Nat):Int)=at'+a.length+j by omega]at this;rw[this,List.getElem_append_right (by omega)];congr 1;omega
theorem zQ{rd:Int→ji}: ∀(ls:List (List UInt8)) (n:Nat) (at':Int) (f:Nat),(∀b∈ls,b.length≤3000)→n+ls.length<4294967296→Shows rd at' (jp n ls)→
 fx rd (ls.length+f) n at'=(ls++(fx rd f ((n+ls.length:Nat):Int) (at'+(jp n ls).length)).1,(fx rd f ((n+ls.length:Nat):Int) (at'+(jp n ls).length)).2)
 | [],n,at',f,_,_,_=>by simp[jp]
 |b::ls,n,at',f,hl,hn,h=>by
  simp only[jp]at h ⊢;simp only[aw]at hn ⊢;have hs:=zG (rd:=rd) (number:=((n+1:Nat):Int)) (at':=at') (by omega) (by omega) (hl b (by simp)) h.left;have ih:=zQ (rd:=rd) ls (n+1) (at'+(cg ((n+1:Nat):Int) b).length) f (λx hx=>hl x (by simp[hx])) (by omega) h.right;rw[eg]at ih;rw[show ls.length+1+f=(ls.length+f)+1 by omega,CH (b:=b) (all:=((bn b.length:Nat):Int)) (by rw[←hs];congr 1)];rw[show((n:Nat):Int)+1=((n+1:Nat):Int)by omega,ih];rw[af,eg,show n+1+ls.length=n+(ls.length+1)by omega,show at'+((bn b.length+(jp (n+1) ls).length:Nat):Int)=at'+((bn b.length:Nat):Int)+(((jp (n+1) ls).length:Nat):Int)by omega];simp
structure LogD(D:DS)(ls:List (List UInt8)):Prop where
 ok:D.Ok
 inn:Wal.DS.In D
 ws:D.ws=[]
 short: ∀b∈ls,b.length≤3000
 room:oL ls≤2048
 shows:Shows D.read 0 (jp 0 ls)
 zero: ∀j,((oL ls:Nat):Int)≤j→D.read j=zs
theorem LogD.len{D:DS}{ls:List (List UInt8)}(h:LogD D ls):ls.length≤2048:=by have:=zI ls;have:=h.room;omega
theorem DQ{rd:Int→ji}{number at':Int}(h:(rd at').getD 63 0≠1):fm rd number at'=none:=pN (qa h)
theorem IA:zs.getD 63 0≠1:=by decide
theorem LogD.scan{D:DS}{ls:List (List UInt8)}(h:LogD D ls):fx D.read iF 0 0=(ls,((oL ls:Nat):Int)):=by
 have hl:=h.len;obtain⟨f,hf⟩: ∃f,iF=ls.length+f:=⟨iF-ls.length,by rw[rr];omega⟩;have:=zQ (rd:=D.read) ls 0 0 f h.short (by omega) h.shows;rw[←hf]at this;rw[show((0:Nat):Int)=0 from rfl]at this;have hz:=h.zero _ (Int.le_refl _);simp only[oL]at hz;rw[this,Int.zero_add,xh (DQ (by rw[hz];exact IA))];simp[oL]
theorem LogD.new:LogD DS.new []:=⟨DS.new_ok,⟨Mv,Mv⟩,rfl,λ_ h=>absurd h (by simp),by decide,λj h=>absurd h (by simp[jp]),λj _=>rfl⟩
theorem LogD.open{D:DS}{ls:List (List UInt8)}(h:LogD D ls)(ha:D.ar=false)(hd:D.dn=false): ∃D',bJ D=⟨0,ls,((oL ls:Nat):Int),D'⟩∧LogD D' ls∧D'.ar=false∧D'.dn=false:=by
 obtain⟨D',e,c,hw,hr⟩:=Ev (D:=D) ⟨h.ok,h.inn,ha,hd⟩;rw[h.scan]at e hr
 have hrd: ∀j,D'.read j=D.read j:=λj=>by
  rw[hr j];split
  · rename_i q;rw[h.zero j q.1]
  · rfl
 exact⟨D',e,⟨c.ok,c.inn,hw,h.short,h.room,λj hj=>by rw[hrd];exact h.shows j hj,λj hj=>by rw[hrd];exact h.zero j hj⟩,c.ar,c.dn⟩
def Jp:Int→List ji→fh
 |_,[]=>[]
 |at',s::ss=>(at',s)::Jp (at'+1) ss
structure Half(D:DS)(ls:List (List UInt8))(bs:List UInt8):Prop where
 ok:D.Ok
 inn:Wal.DS.In D
 short: ∀b∈ls,b.length≤3000
 short':bs.length≤3000
 room:oL ls+bn bs.length≤2048
 shows:Shows (kl D.s) 0 (jp 0 ls)
 zero: ∀j,((oL ls:Nat):Int)≤j→kl D.s j=zs
 ws: ∃m,m≤bn bs.length∧D.ws=Jp ((oL ls:Nat):Int) ((cg ((ls.length+1:Nat):Int) bs).take m)
end Wal
end

section
namespace Go.Proofs.YtjblgopghhgflaaGreat
open Go Leg Codec Api
theorem Bc(wb b off cap:Nat)(v:Value)(bs:List UInt8)(l:List Int)(cs:List Value)(T:TypeId)(z:Nat×Nat)(hlen:bs.length+10*l.length≤140737488355328)(hb: ∀j,j<l.length→cs[off+j]?=some (.int .i64 (l.getD j 0))):
 DT 84 #[(.pointer (some ⟨wb,0,none⟩)),(.slice (some ⟨b,off,none⟩) (l.length) (cap))] (λF=>F b=some (.cells cs.toArray T z)) [ak wb [v] 144,dE v (bs) 5] (pg 144 5 wb (bs++bd l)):=by
 refine BD 45 Tryz.func84 rfl rfl rfl λw0 F hF=>sr λ_ J1=>PS ?_
 refine nx J1 (aa λ_ J2=>sr λ_ J3=>PS ?_);refine tp (rN rfl jI rfl) ?_;refine PS ?_;refine nx J3 (aq ?_)
 refine bF (α:=(Nat)×(Value)×(List UInt8)) (λ⟨k,u,laid⟩=>k≤l.length∧laid++bd (l.drop k)=bs++bd l) (λ⟨k,u,laid⟩=>[(0,(.pointer (some ⟨wb,0,none⟩))),(4,(.pointer none)),(8,(.slice (some ⟨b,off,none⟩) (l.length) (cap))),(9,(.int .i64 (((l.length:Nat):Int)))),(10,(.int .i64 ((k:Nat))))]) (λ⟨k,u,laid⟩=>[ak wb [u] 144,dE u (laid) 5]) (λ⟨k,u,laid⟩=>l.length-k) (0,v,bs)
  ⟨by omega,rfl⟩ SB
  (λ_ s=>s) (λ⟨k,u,laid⟩ hinv=>?_)
 obtain⟨hk,hL⟩:=hinv;refine sr λ_ J4=>PS ?_
 refine ao ?_ ?_<;>intro h11;refine nx J4 (aa λ_ J5=>CY (qx J5 (aa λ_ J6=>aq (sr λ_ J7=>tp (iZ (r:=off+k) rfl jI aM rfl rfl (by first|omega|decide) (by first|omega|decide) (by omega)) ?_))));refine tp (gH (v:=(.int .i64 ((l.getD k 0)))) rfl Y3 rfl rfl (Rd.ro hF) (hb k (by omega))) ?_;refine PS ?_;refine nx J7 (sr λ_ J8=>PS ?_);refine tp (cx (r:=((((l.getD k 0%18446744073709551616).toNat:Nat)):Int)) rfl Y3 Tryz.underlying202 rfl (xY _)) ?_;refine PS ?_;refine nx J8 (aa λ_ J9=>aq ?_)
 refine bF (α:=(Nat)×(Value)×(List UInt8)) (λ⟨m,u2,laid2⟩=>laid2++(vD m++bd (l.drop (k+1)))=bs++bd l) (λ⟨m,u2,laid2⟩=>[(0,(.pointer (some ⟨wb,0,none⟩))),(4,(.pointer none)),(7,(.int .u64 ((m:Nat)))),(8,(.slice (some ⟨b,off,none⟩) (l.length) (cap))),(9,(.int .i64 (((l.length:Nat):Int)))),(10,(.int .i64 ((k:Nat))))]) (λ⟨m,u2,laid2⟩=>[ak wb [u2] 144,dE u2 (laid2) 5]) (λ⟨m,u2,laid2⟩=>m) ((l.getD k 0%18446744073709551616).toNat,u,laid)
  (by rw[←hL,ES (l:=l) (k:=k) (by omega)];rfl) SB
  (λ_ s=>s) (λ⟨m,u2,laid2⟩ hinv=>?_)
 have hM:=hinv;refine aa λ_ J10=>sr λ_ J11=>P2 ?_
 refine ao ?_ ?_<;>intro h17;refine nx J11 (CY (qx J10 (aq (sr λ_ J12=>P3 ?_))));refine FA 0 GM mK ?_;refine LA 0 fq ?_;refine PS ?_;refine tp (cx (r:=(IntKind.u8.wrap ((m:Nat):Int))) rfl Tryz.underlying202 Y5 rfl rfl) ?_;refine tp (GR (r:=(((UInt8.ofNat (m%128+128)).toNat:Nat):Int)) rfl rfl rfl (JK m)) ?_;refine aP (cells:=#[(.int .u8 ((((UInt8.ofNat (m%128+128)).toNat:Nat):Int)))]) (ab rfl) rfl rfl rfl fq wG rfl rfl rfl (by as_aux_lemma=>kernel_rfl) (λb26=>co (k:=2) (news:=ef ([(UInt8.ofNat (m%128+128))])) (nn':=(laid2++[(UInt8.ofNat (m%128+128))]:List UInt8).length) (xs':=ef (laid2++[(UInt8.ofNat (m%128+128))])) (ab rfl) rfl rfl rfl fq wG rfl rfl rfl rfl rfl rfl (λ_ _=>gJ rfl (RO 0) rfl) (eR [(UInt8.ofNat (m%128+128))]) (by have:=congrArg List.length hM;have:=aU l;have:=o6 m;simp only[af,maxLen]at*;omega) (by have:=congrArg List.length hM;have:=aU l;have:=o6 m;simp only[af]at*;omega) (by simp) (iu _ _).symm (λv27 ov27=>PS ?_));refine FA 0 GM mK ?_;refine bS (i:=1) (ab rfl) rfl rfl rfl rfl ov27 mK rfl rfl (lb rfl) rfl rfl (nx J12 (ae (PS ?_)));refine tp (jt (r:=((m / 128:Nat):Int)) rfl rfl rfl (by omega) (Lu m)) ?_;refine PS ?_;refine au (ag ?_)
 exact aL ((m / 128,v27,laid2++[(UInt8.ofNat (m%128+128))]):(Nat)×(Value)×(List UInt8)) (by rw[←hM,tM (by omega)];simp) (by show m / 128<m;omega)
  SB
  (λ_ s=>aj [1,1] rfl s)
 refine nx J11 (CN (bg (aF (aF (bD (ac J9 (ae (P3 ?_))))))));refine FA 0 GM mK ?_;refine LA 0 fq ?_;refine PS ?_;refine tp (cx (r:=(((UInt8.ofNat m).toNat:Nat):Int)) rfl Tryz.underlying202 Y5 rfl (HK (by omega))) ?_;refine aP (cells:=#[(.int .u8 ((((UInt8.ofNat m).toNat:Nat):Int)))]) (ab rfl) rfl rfl rfl fq wG rfl rfl rfl (by as_aux_lemma=>kernel_rfl) (λb39=>co (k:=2) (news:=ef ([(UInt8.ofNat m)])) (nn':=(laid2++[(UInt8.ofNat m)]:List UInt8).length) (xs':=ef (laid2++[(UInt8.ofNat m)])) (ab rfl) rfl rfl rfl fq wG rfl rfl rfl rfl rfl rfl (λ_ _=>gJ rfl (RO 0) rfl) (eR [(UInt8.ofNat m)]) (by have:=congrArg List.length hM;have:=aU l;have:=o6 m;simp only[af,maxLen]at*;omega) (by have:=congrArg List.length hM;have:=aU l;have:=o6 m;simp only[af]at*;omega) (by simp) (iu _ _).symm (λv40 ov40=>PS ?_));refine FA 0 GM mK ?_;refine bS (i:=1) (ab rfl) rfl rfl rfl rfl ov40 mK rfl rfl (lb rfl) rfl rfl (au (ag (ac J6 (ae (AD ?_)))));refine PS ?_;refine au ?_
 exact aL ((k+1,v40,laid2++[(UInt8.ofNat m)]):(Nat)×(Value)×(List UInt8)) ⟨by omega,by rw[←hM,rA (by omega)];simp⟩ (by show _-_<_-_;omega)
  SB
  (λ_ s=>aj [1,1] rfl s)
 refine nx J4 (aa λ_ J13=>CN (bg (aF (aF (bD (ac J2 (sr λ_ J14=>P2 ?_)))))));refine nx J14 (ai (WK [0,0] (ap rfl rfl ?_)));obtain rfl:laid=bs++bd l:=by rw[←hL,eO (by omega)];simp[bd]
 exact⟨u,rfl,rfl⟩
theorem Fh(wb:Nat)(v:Value)(bs:List UInt8):
 DT 84 #[(.pointer (some ⟨wb,0,none⟩)),(.slice none 0 0)] T0 [ak wb [v] 144,dE v (bs) 5] (pg 144 5 wb (bs++bd [])):=by
 refine BD 45 Tryz.func84 rfl rfl rfl λw0 F hF=>sr λ_ J1=>PS ?_
 refine nx J1 (aa λ_ J2=>sr λ_ J3=>PS ?_);refine tp (rN rfl jI rfl) ?_;refine PS ?_;refine nx J3 (aq ?_)
 refine bF (α:=Unit) (λ_u=>True) (λ_u=>[(0,(.pointer (some ⟨wb,0,none⟩))),(4,(.pointer none)),(8,(.slice none 0 0)),(9,(.int .i64 0)),(10,(.int .i64 0))]) (λ_u=>[ak wb [v] 144,dE v (bs) 5]) (λ_u=>0) ()
  trivial SB
  (λ_ s=>s) (λ_u hinv=>?_)
 obtain _:=hinv;refine sr λ_ J4=>PS ?_
 refine nx J4 (aa λ_ J5=>CN (bg (aF (aF (bD (ac J2 (sr λ_ J6=>P2 ?_)))))));refine nx J6 (ai (ap rfl rfl ?_));exact⟨v,rfl,by rw[Gu,aT]⟩
theorem dA(wb:Nat)(v:Value)(bs:List UInt8)(x:Value)(l:List Int)(hlen:bs.length+10*l.length≤140737488355328):DT 84 #[(.pointer (some ⟨wb,0,none⟩)),x] (Mi x l) [ak wb [v] 144,dE v bs 5] (pg 144 5 wb (bs++bd l)):=by
 refine Leg.Does.of λF hF=>?_
 rcases id hF with⟨rfl,rfl⟩| ⟨b,off,cap,cs,T,z,rfl,h3,h4⟩
 · exact⟨_,trivial,Fh wb v bs⟩
 · exact⟨_,h3,Bc wb b off cap v bs l cs T z hlen h4⟩
theorem dR(wb:Nat)(v:Value)(bs:List UInt8)(hlen:bs.length≤140737488355328):
 DT 89 #[(.pointer (some ⟨wb,0,none⟩))] T0 [ak wb [v] 144,dE v (bs) 5] (dG (λx H=>∃u,x=u∧H=[ak wb [v] 144,dE v bs 5,dE u bs 5])):=by
 refine Leg.Does.body (vs:=[(.pointer (some ⟨wb,0,none⟩))]) (n:=9) Tryz.func89 rfl rfl rfl (λw0 F hF=>?_);refine sr λ_ J1=>?_
 refine ot ?_;refine nx J1 ?_;refine sr λ_ J2=>?_
 refine A1 (ab rfl) rfl rfl rfl fq jh (λv3=>?_);change TL _ _ _ _ _ _ _ _ _ [dE v3 ([]) 5,ak wb [v] 144,dE v (bs) 5];refine mv ?_;refine tp (fD rfl rfl) ?_;refine tp (a9 (r:=0) rfl GM rfl mK rfl rfl) ?_;refine tp (gH (v:=v) rfl fq rfl rfl (eN 1 rfl rfl) rfl) ?_;refine co (k:=0) (news:=ef (bs)) (nn':=(bs:List UInt8).length) (xs':=ef (bs)) (ab rfl) rfl rfl rfl fq wG rfl rfl rfl rfl rfl rfl (λ_ s=>Mp 2 rfl rfl s) (eR _) (by simp only[maxLen,aw,az];omega) (by simp only[aw,az];omega) (by simp) (cb _) (λv8 ov8=>?_);change TL _ _ _ _ _ _ _ _ _ [dE v8 (bs) 5,ak wb [v] 144,dE v (bs) 5];refine ot ?_;refine nx J2 ?_;refine ai ?_;refine aD (dK _) (λ_ s=>aj [1,1,0] rfl s) ?_;refine ap rfl rfl ?_;exact⟨v8,rfl,rfl⟩
theorem ze(wb:Nat)(v:Value)(bs:List UInt8)(a0 a1 g0 g1 g2 g3 g4:Int)(hlen:bs.length+70≤140737488355328):
 DT 88 #[(.pointer (some ⟨wb,0,none⟩)),(.agg #[(.int .i64 (a0)),(.int .i64 (a1)),(.int .i64 (g0)),(.int .i64 (g1)),(.int .i64 (g2)),(.int .i64 (g3)),(.int .i64 (g4))])] T0 [ak wb [v] 144,dE v (bs) 5] (pg 144 5 wb (bs++bd [a0,a1,g0,g1,g2,g3,g4])):=by
 refine BD 15 Tryz.func88 rfl rfl rfl λw0 F hF=>sr λ_ J1=>XB λb3=>?_
 refine PS ?_;refine nx J1 (aa λ_ J2=>D1 0 bc ?_);refine PD 0 ?_;refine FD 1 0 eF aM ?_;refine LX 2 Y3 (.int .i64 (a0)) ?_ (hc:=by exact rfl);refine FD 3 1 eF aM ?_;refine LX 4 Y3 (.int .i64 (a1)) ?_ (hc:=by exact rfl);refine FD 7 2 eF fE ?_;refine ta 8 rfl (pk rfl lR aM rfl) ?_;refine AL 5 ?_;refine aP (cells:=#[(.int .i64 (a0)),(.int .i64 (a1))]) (ab rfl) rfl rfl rfl jI qh rfl rfl rfl (by as_aux_lemma=>kernel_rfl) (λb10=>EN (AL 6 ?_));refine CQ mL (dA wb v (bs) (.slice (some ⟨b10,0,none⟩) (2) (2)) [a0,a1] (by simp only[af,aw,az,ay];first|omega| (have:=aU [a0,a1];simp only[aw,az]at this;omega))) (SM [2,2]) (dr 0 rfl rfl rfl rfl) λvR HR hR=>?_
 obtain⟨u1,rfl,rfl⟩:=hR;refine EN (AL 9 ?_);refine CQ mL (dA wb u1 (bs++bd [a0,a1]) (.slice (some ⟨b3,2,none⟩) (5) (5)) [g0,g1,g2,g3,g4] (by simp only[af,aw,az,ay];first|omega| (have:=aU [a0,a1];simp only[aw,az]at this;omega))) ID (dr 1 rfl rfl rfl rfl) λvR HR hR=>?_
 obtain⟨u2,rfl,rfl⟩:=hR;refine EN (PD 10 ?_);refine DN (ac J2 (ai (WK [0,0] (ap rfl rfl ?_))));exact⟨_,rfl,by rw[bb,←o5];rfl⟩
theorem wi(wb:Nat)(v:Value)(bs:List UInt8)(a0 a1 a2:Int)(hlen:bs.length+30≤140737488355328):
 DT 87 #[(.pointer (some ⟨wb,0,none⟩)),(.agg #[(.int .i64 (a0)),(.int .i64 (a1)),(.int .i64 (a2))])] T0 [ak wb [v] 144,dE v (bs) 5] (pg 144 5 wb (bs++bd [a0,a1,a2])):=by
 refine BD 14 Tryz.func87 rfl rfl rfl λw0 F hF=>sr λ_ J1=>XB λb3=>?_
 refine PS ?_;refine nx J1 (sr λ_ J2=>PS ?_);refine FA 0 mj aM ?_;refine LA 0 Y3 ?_;refine FA 1 mj aM ?_;refine LA 0 Y3 ?_;refine FA 2 mj aM ?_;refine LA 0 Y3 ?_;refine aP (cells:=#[(.int .i64 (a0)),(.int .i64 (a1)),(.int .i64 (a2))]) (ab rfl) rfl rfl rfl jI qh rfl rfl rfl (by as_aux_lemma=>kernel_rfl) (λb12=>CQ mL (dA wb v (bs) (.slice (some ⟨b12,0,none⟩) (3) (3)) [a0,a1,a2] (by simp only[af,aw,az,ay];first|omega| (have:=aU [a0,a1];simp only[aw,az]at this;omega))) (SM [2,2]) (dr 0 rfl rfl rfl rfl) λvR HR hR=>?_);obtain⟨u1,rfl,rfl⟩:=hR;refine PS ?_;exact nx J2 (ai (WK [0,0] (ap rfl rfl ⟨_,rfl,rfl⟩)))
theorem wj(wb:Nat)(v:Value)(bs:List UInt8)(a0 a1:Int)(hlen:bs.length+20≤140737488355328):
 DT 86 #[(.pointer (some ⟨wb,0,none⟩)),(.agg #[(.int .i64 (a0)),(.int .i64 (a1))])] T0 [ak wb [v] 144,dE v (bs) 5] (pg 144 5 wb (bs++bd [a0,a1])):=by
 refine BD 12 Tryz.func86 rfl rfl rfl λw0 F hF=>sr λ_ J1=>XB λb3=>?_
 refine PS ?_;refine nx J1 (sr λ_ J2=>PS ?_);refine FA 0 jC aM ?_;refine LA 0 Y3 ?_;refine FA 1 jC aM ?_;refine LA 0 Y3 ?_;refine aP (cells:=#[(.int .i64 (a0)),(.int .i64 (a1))]) (ab rfl) rfl rfl rfl jI qh rfl rfl rfl (by as_aux_lemma=>kernel_rfl) (λb10=>CQ mL (dA wb v (bs) (.slice (some ⟨b10,0,none⟩) (2) (2)) [a0,a1] (by simp only[af,aw,az,ay];first|omega| (have:=aU [a0,a1];simp only[aw,az]at this;omega))) (SM [2,2]) (dr 0 rfl rfl rfl rfl) λvR HR hR=>?_);obtain⟨u1,rfl,rfl⟩:=hR;refine PS ?_;exact nx J2 (ai (WK [0,0] (ap rfl rfl ⟨_,rfl,rfl⟩)))
theorem zm(wb:Nat)(v:Value)(bs:List UInt8)(a0 a1 g0 g1 g2 g3 g4:Int)(hlen:bs.length+70≤140737488355328):
 DT 127 #[(.pointer (some ⟨wb,0,none⟩)),(.agg #[(.int .i64 (a0)),(.int .i64 (a1)),(.int .i64 (g0)),(.int .i64 (g1)),(.int .i64 (g2)),(.int .i64 (g3)),(.int .i64 (g4))])] T0 [ak wb [v] 144,dE v (bs) 5] (dG (λx H=>∃v',x= .tuple #[]∧H=[ak wb [v'] 144,dE v' (bs++bd [a0,a1,g0,g1,g2,g3,g4]) 5])):=by
 refine BD 14 Tryz.func127 rfl rfl rfl λw0 F hF=>sr λ_ J1=>XB λb3=>?_
 refine nx J1 (D1 0 bc ?_);refine PD 0 ?_;refine FD 1 0 mF aM ?_;refine LX 2 Y3 (.int .i64 (a0)) ?_ (hc:=by exact rfl);refine FD 3 1 mF aM ?_;refine LX 4 Y3 (.int .i64 (a1)) ?_ (hc:=by exact rfl);refine FD 7 2 mF fE ?_;refine ta 8 rfl (pk rfl lR aM rfl) ?_;refine AL 5 ?_;refine aP (cells:=#[(.int .i64 (a0)),(.int .i64 (a1))]) (ab rfl) rfl rfl rfl jI qh rfl rfl rfl (by as_aux_lemma=>kernel_rfl) (λb9=>EN (AL 6 ?_));refine CQ mL (dA wb v (bs) (.slice (some ⟨b9,0,none⟩) (2) (2)) [a0,a1] (by simp only[af,aw,az,ay];first|omega| (have:=aU [a0,a1];simp only[aw,az]at this;omega))) (SM [2,2]) (dr 0 rfl rfl rfl rfl) λvR HR hR=>?_
 obtain⟨u1,rfl,rfl⟩:=hR;refine EN (AL 9 ?_);refine CQ mL (dA wb u1 (bs++bd [a0,a1]) (.slice (some ⟨b3,2,none⟩) (5) (5)) [g0,g1,g2,g3,g4] (by simp only[af,aw,az,ay];first|omega| (have:=aU [a0,a1];simp only[aw,az]at this;omega))) ID (dr 1 rfl rfl rfl rfl) λvR HR hR=>?_
 obtain⟨u2,rfl,rfl⟩:=hR;refine EN (DN (WK [0,0] (bu rfl ?_)));exact⟨_,rfl,by rw[bb,←o5];rfl⟩
theorem tX(wb:Nat)(v:Value)(bs:List UInt8)(c:CellT)(hlen:bs.length+70≤140737488355328):DT 127 #[(.pointer (some ⟨wb,0,none⟩)),c.val] T0 [ak wb [v] 144,dE v bs 5] (dG (λx H=>∃v',x= .tuple #[]∧H=[ak wb [v'] 144,dE v' (bs++bd c.flat) 5])):=by
 obtain⟨i,o,g⟩:=c;exact Jr (p:=λg=>Leg.Does Tryz.prog 127 #[(.pointer (some ⟨wb,0,none⟩)),CellT.val ⟨i,o,g⟩] (λ_=>True) [ak wb [v] 144,dE v bs 5] (dG (λx H=>∃v',x= .tuple #[]∧H=[ak wb [v'] 144,dE v' (bs++bd (CellT.flat ⟨i,o,g⟩)) 5]))) (λa b c d e=>zm wb v bs i o a b c d e hlen) g
theorem pW(wb:Nat)(v:Value)(bs:List UInt8)(x:ViewT)(hlen:bs.length+70≤140737488355328):DT 88 #[(.pointer (some ⟨wb,0,none⟩)),x.val] T0 [ak wb [v] 144,dE v bs 5] (pg 144 5 wb (bs++bd x.flat)):=by
 obtain⟨i,o,g⟩:=x;exact Jr (p:=λg=>Leg.Does Tryz.prog 88 #[(.pointer (some ⟨wb,0,none⟩)),ViewT.val ⟨i,o,g⟩] (λ_=>True) [ak wb [v] 144,dE v bs 5] (pg 144 5 wb (bs++bd (ViewT.flat ⟨i,o,g⟩)))) (λa b c d e=>ze wb v bs i o a b c d e hlen) g
theorem ny(wb:Nat)(v:Value)(bs:List UInt8)(x:ChangeT)(hlen:bs.length+30≤140737488355328):DT 87 #[(.pointer (some ⟨wb,0,none⟩)),x.val] T0 [ak wb [v] 144,dE v bs 5] (pg 144 5 wb (bs++bd x.flat)):=wi wb v bs x.kind x.who x.heir (by omega)
theorem iP(wb:Nat)(v:Value)(bs:List UInt8)(x:BallotT)(hlen:bs.length+30≤140737488355328):DT 86 #[(.pointer (some ⟨wb,0,none⟩)),x.val] T0 [ak wb [v] 144,dE v bs 5] (pg 144 5 wb (bs++bd x.flat)):=wj wb v bs x.round x.who (by omega)
theorem rT(wb:Nat)(v:Value)(bs:List UInt8)(x:RowT)(hlen:bs.length+2000≤140737488355328):
 DT 85 #[(.pointer (some ⟨wb,0,none⟩)),(.agg (ints x.flat).toArray)] T0 [ak wb [v] 144,dE v (bs) 5] (pg 144 5 wb (bs++gQ x)):=by
 refine BD 50 Tryz.func85 rfl rfl rfl λw0 F hF=>sr λ_ J1=>XY (ints x.flat) λb3=>?_
 refine PS ?_;refine nx J1 (sr λ_ J2=>PS ?_);refine FA 0 dP aM ?_;refine LT 0 Y3 (.int .i64 (x.version)) ?_ (hc:=by exact RowT.get_version _);refine aP (cells:=#[(.int .i64 (x.version))]) (ab rfl) rfl rfl rfl jI qh rfl rfl rfl (by as_aux_lemma=>kernel_rfl) (λb14=>CQ mL (dA wb v (bs) (.slice (some ⟨b14,0,none⟩) (1) (1)) [x.version] (by have:=congrArg List.length (Eq.refl bs);have:=gP x;simp only[af,aw,az]at*;omega)) (SM [2,2]) (dr 0 rfl rfl rfl rfl) λvR HR hR=>?_);obtain⟨u1,rfl,rfl⟩:=hR;refine nx J2 (aa λ_ J3=>sr λ_ J4=>FA 1 dP kH ?_);refine tp (aJ (vs:=ints (bL x.cells.toList)) rfl zc rfl kH rfl (RO 3) (by rw[ints_length,cM];simp) (RowT.get_cells _)) ?_;refine PS ?_;refine nx J4 (aq ?_)
 refine bF (α:=(Nat)×(Value)×(List UInt8)) (λ⟨k,u,laid⟩=>k≤4∧laid++(bd (bL (x.cells.toList.drop k))++fM x 5 0)=bs++gQ x) (λ⟨k,u,laid⟩=>[(0,(.pointer (some ⟨wb,0,none⟩))),(3,(.pointer (some ⟨b3,0,none⟩))),(4,(.pointer none)),(17,(.agg (ints (bL x.cells.toList)).toArray)),(18,(.int .i64 ((k:Nat))))]) (λ⟨k,u,laid⟩=>[ak b3 (ints x.flat) 60,ak wb [u] 144,dE u (laid) 5]) (λ⟨k,u,laid⟩=>4-k) (0,u1,bs++bd [x.version])
  ⟨by omega,by simp[gQ,bd]⟩ SB
  (λ_ s=>aj [3,0,0] rfl s) (λ⟨k,u,laid⟩ hinv=>?_)
 obtain⟨hk,hL⟩:=hinv;have hE:=hL;rw[show bd (bL (x.cells.toList.drop k))=bd (bL (x.cells.toList.drop k))from rfl]at hE;refine sr λ_ J5=>PS ?_
 refine ao ?_ ?_<;>intro h19;refine nx J5 (aa λ_ J6=>CY (qx J6 (aa λ_ J7=>aq (sr λ_ J8=>tp (Mm (cs:=ints (bL (x.cells.toList))) (r:=k*7) rfl zc mF rfl fA rfl rfl (by omega) (by omega) (by omega) (xF (by simp;omega))) ?_))));refine XA GW λb6=>?_
 refine ci (vs:=ints ((x.cells.toList)[k]'(by simp;omega)).flat) (cs':=ints ((x.cells.toList)[k]'(by simp;omega)).flat) (i:=0) (ab rfl) rfl rfl rfl rfl rfl (by rw[bt];exact fA) (bv _) rfl rfl (by rw[bt];exact aN _) (it (by rw[bt];rfl)) rfl (nx J8 (ae (PS ?_)));refine tp (aJ (vs:=ints ((x.cells.toList)[k]'(by simp;omega)).flat) rfl mF rfl fA rfl (RO 0) (bt _) (by rw[aW,aB (by rw[bt];decide)])) ?_;refine CR Ij (tX wb u (laid) ((x.cells.toList)[k]'(by simp;omega)) (by have:=congrArg List.length hE;have:=gP x;have:=aU ((x.cells.toList)[k]'(by simp;omega)).flat;rw[bG]at this;simp only[af]at*;omega)) (SM [2,2]) λvR HR hR=>?_
 obtain⟨u2,rfl,rfl⟩:=hR;refine au (ag (ac J7 (ae (AD ?_))));refine PS ?_;refine au ?_
 exact aL ((k+1,u2,laid++bd ((x.cells.toList)[k]'(by simp;omega)).flat):(Nat)×(Value)×(List UInt8)) ⟨by omega,by rw[←hL,nR (l:=x.cells.toList) (k:=k) (by simp;omega)];simp⟩ (by show _-_<_-_;omega)
  SB
  (λ_ s=>aj [3,0,0] rfl s)
 refine nx J5 (aa λ_ J9=>CN (bg (aF (aF (bD (ac J3 (aa λ_ J10=>sr λ_ J11=>FA 29 dP fE ?_)))))));refine tp (aJ (vs:=ints x.heir.toList) rfl lR rfl fE rfl (RO 0) (by rw[ints_length];simp) (RowT.get_heirs _)) ?_;refine PS ?_;refine nx J11 (aq ?_)
 refine bF (α:=(Nat)×(Value)×(List UInt8)) (λ⟨i,u,laid⟩=>i≤5∧laid++fM x (5-i) i=bs++gQ x) (λ⟨i,u,laid⟩=>[(0,(.pointer (some ⟨wb,0,none⟩))),(3,(.pointer (some ⟨b3,0,none⟩))),(4,(.pointer none)),(26,(.agg (ints x.heir.toList).toArray)),(27,(.int .i64 ((i:Nat))))]) (λ⟨i,u,laid⟩=>[ak b3 (ints x.flat) 60,ak wb [u] 144,dE u (laid) 5]) (λ⟨i,u,laid⟩=>5-i) (0,u,laid)
  ⟨by omega,by rw[←hL,eO (by simp;omega)];simp[bL,bd]⟩ SB
  (λ_ s=>aj [0,0,0] rfl s) (λ⟨i,u,laid⟩ hinv=>?_)
 obtain⟨hi,hL⟩:=hinv;have hE:=hL;refine sr λ_ J12=>PS ?_
 refine ao ?_ ?_<;>intro h28;refine nx J12 (aa λ_ J13=>CY (qx J13 (aa λ_ J14=>aq (sr λ_ J15=>PS ?_))));refine tp (qF (cs:=ints x.heir.toList) (v:= .int .i64 (x.heir[i]'(by omega))) (r:=i) rfl lR Y3 rfl aM rfl rfl (by omega) (by omega) (by omega) (by rw[ints_get _ _ (by simp;omega)];simp[List.getD_eq_getElem?_getD,show i<5 by omega])) ?_;refine P2 ?_;refine nx J15 (sr λ_ J16=>P2 ?_);refine aP (cells:=#[(.int .i64 (x.heir[i]'(by omega)))]) (ab rfl) rfl rfl rfl jI qh rfl rfl rfl (by as_aux_lemma=>kernel_rfl) (λb33=>CQ mL (dA wb u (laid) (.slice (some ⟨b33,0,none⟩) (1) (1)) [x.heir[i]'(by omega)] (by have:=congrArg List.length hE;have:=gP x;simp only[af,aw,az]at*;omega)) (SM [2,2]) (dr 0 rfl rfl rfl rfl) λvR HR hR=>?_);obtain⟨u2,rfl,rfl⟩:=hR;refine nx J16 (sr λ_ J17=>P2 ?_);refine ao ?_ ?_<;>intro h36;refine nx J17 (CY (sr λ_ J18=>PS ?_));refine FA 34 dP zw ?_;refine IX (34+i*28) Iv kH ?_;refine tp (aJ (vs:=ints (bL (x.left[i]'(by omega)).toList)) rfl zc rfl kH rfl (RO 3) (by rw[ints_length,cM];simp) (RowT.get_left _ i (by omega))) ?_;refine PS ?_;refine nx J18 (aq ?_)
 refine bF (α:=(Nat)×(Value)×(List UInt8)) (λ⟨k,u3,laid3⟩=>k≤4∧laid3++(bd (bL ((x.left[i]'(by omega)).toList.drop k))++fM x (5- (i+1)) (i+1))=bs++gQ x) (λ⟨k,u3,laid3⟩=>[(0,(.pointer (some ⟨wb,0,none⟩))),(3,(.pointer (some ⟨b3,0,none⟩))),(4,(.pointer none)),(26,(.agg (ints x.heir.toList).toArray)),(27,(.int .i64 ((i:Nat)))),(40,(.agg (ints (bL (x.left[i]'(by omega)).toList)).toArray)),(41,(.int .i64 ((k:Nat))))]) (λ⟨k,u3,laid3⟩=>[ak b3 (ints x.flat) 60,ak wb [u3] 144,dE u3 (laid3) 5]) (λ⟨k,u3,laid3⟩=>4-k) (0,u2,laid++bd [x.heir[i]'(by omega)])
  ⟨by omega,by rw[←hL,pR (i:=i) (by omega),if_pos h36];simp[bd]⟩ SB
  (λ_ s=>aj [3,0,0] rfl s) (λ⟨k,u3,laid3⟩ hinv=>?_)
 obtain⟨hk,hM⟩:=hinv;have hE:=hM;refine sr λ_ J19=>PS ?_
 refine ao ?_ ?_<;>intro h42;refine nx J19 (aa λ_ J20=>CY (qx J20 (aa λ_ J21=>aq (sr λ_ J22=>tp (Mm (cs:=ints (bL ((x.left[i]'(by omega)).toList))) (r:=k*7) rfl zc mF rfl fA rfl rfl (by omega) (by omega) (by omega) (xF (by simp;omega))) ?_))));refine XA GW λb10=>?_
 refine ci (vs:=ints (((x.left[i]'(by omega)).toList)[k]'(by simp;omega)).flat) (cs':=ints (((x.left[i]'(by omega)).toList)[k]'(by simp;omega)).flat) (i:=0) (ab rfl) rfl rfl rfl rfl rfl (by rw[bt];exact fA) (bv _) rfl rfl (by rw[bt];exact aN _) (it (by rw[bt];rfl)) rfl (nx J22 (ae (PS ?_)));refine tp (aJ (vs:=ints (((x.left[i]'(by omega)).toList)[k]'(by simp;omega)).flat) rfl mF rfl fA rfl (RO 0) (bt _) (by rw[aW,aB (by rw[bt];decide)])) ?_;refine CR Ij (tX wb u3 (laid3) (((x.left[i]'(by omega)).toList)[k]'(by simp;omega)) (by have:=congrArg List.length hE;have:=gP x;have:=aU (((x.left[i]'(by omega)).toList)[k]'(by simp;omega)).flat;rw[bG]at this;simp only[af]at*;omega)) (SM [2,2]) λvR HR hR=>?_
 obtain⟨u3,rfl,rfl⟩:=hR;refine au (ag (ac J21 (ae (AD ?_))));refine PS ?_;refine au ?_
 exact aL ((k+1,u3,laid3++bd (((x.left[i]'(by omega)).toList)[k]'(by simp;omega)).flat):(Nat)×(Value)×(List UInt8)) ⟨by omega,by rw[←hM,nR (l:=(x.left[i]'(by omega)).toList) (k:=k) (by simp;omega)];simp⟩ (by show _-_<_-_;omega)
  SB
  (λ_ s=>aj [3,0,0] rfl s)
 refine nx J19 (aa λ_ J23=>CN (bg (aF (aF (bD (ag (ac J14 (ae (AD ?_)))))))));refine PS ?_;refine au ?_
 exact aL ((i+1,u3,laid3):(Nat)×(Value)×(List UInt8)) ⟨by omega,by rw[←hM,eO (by simp;omega)];simp[bL,bd]⟩ (by show _-_<_-_;omega)
  SB
  (λ_ s=>aj [0,0,0] rfl s)
 refine nx J17 (CN (aS (ag (ac J14 (ae (AD ?_))))));refine PS ?_;refine au ?_
 exact aL ((i+1,u2,laid++bd [x.heir[i]'(by omega)]):(Nat)×(Value)×(List UInt8)) ⟨by omega,by rw[←hL,pR (i:=i) (by omega),if_neg h36];simp[bd]⟩ (by show _-_<_-_;omega)
  SB
  (λ_ s=>aj [3,0,0] rfl s)
 refine nx J12 (aa λ_ J24=>CN (bg (aF (aF (bD (ac J10 (sr λ_ J25=>P2 ?_)))))));refine nx J25 (ai (WK [1,1] (ap rfl rfl ?_)));obtain rfl:laid=bs++gQ x:=by rw[←hL,show 5-i=0 by omega];simp[fM]
 exact⟨u,rfl,rfl⟩
theorem Ax(m:MsgT):
 DT 205 #[(.agg (ints m.flat).toArray)] T0 [] (dG (λr' H=>∃u,r'=u∧H=[dE u (dC m) 5])):=by
 refine BD 100 Tryz.func205 rfl rfl rfl λw0 F hF=>sr λ_ J1=>XY (ints m.flat) λb1=>?_
 refine PS ?_;refine nx J1 (sr λ_ J2=>XA Jo λb4=>?_);refine TL.ownNil 5 (λon=>?_);clear on;refine PS ?_;refine nx J2 (aa λ_ J3=>sr λ_ J4=>FA 0 aY aM ?_);refine LU 2 Y3 (eB m rfl) ?_;refine nx J4 (aq (aa λ_ J5=>eH (α:=Unit) (λ_u=>True) (λ_u=>[(1,(.pointer (some ⟨b1,0,none⟩))),(2,(.slice none 0 0)),(3,(.pointer (some ⟨b4,0,none⟩))),(6,(.int .i64 (m.kind))),(7,(.bool ((eU m.kind))))]) (λ_u=>[dE (.slice none 0 0) ([]) 5,ak b4 [(.slice none 0 0)] 144,ak b1 (ints m.flat) 178]) (λ_u hinv=>?_) (λtl5=>?_)));have _:=hinv;refine ac J5 (TC.cond rfl (λh7=>?_) (λh7=>?_));refine D1 2 bc ?_;refine PD 0 ?_;refine FD 1 0 aY aM ?_;refine LR 2 Y3 (eB m rfl) ?_;refine FD 3 1 aY aM ?_;refine LR 4 Y3 (ce m rfl) ?_;refine FD 7 2 aY aZ ?_;refine ta 8 rfl (aJ (vs:=ints m.row.flat) rfl dP rfl aZ rfl (λ_ h=>h.2.1) (ah m.row) (lu m 0 rfl (by decide) (bj (ah m.row)))) ?_;refine AL 5 ?_;refine aP (cells:=#[(.int .i64 (m.kind)),(.int .i64 (m.whose))]) (ab rfl) rfl rfl rfl jI qh rfl rfl rfl (by as_aux_lemma=>kernel_rfl) (λb16=>EN (AL 6 ?_));refine CQ mL (dA b4 (.slice none 0 0) ([]) (.slice (some ⟨b16,0,none⟩) (2) (2)) [m.kind,m.whose] (by simp)) (SM [2,1]) (dr 0 rfl rfl rfl rfl) λvR HR hR=>?_
 obtain⟨u1,rfl,rfl⟩:=hR;refine EN (AL 9 ?_);refine CR IR (rT b4 u1 (bd [m.kind,m.whose]) m.row (by(have:=aU [m.kind,m.whose]);simp only[BallotT.flat,ViewT.flat,ChangeT.flat,aw,az,ay,af]at*;omega)) ID λvR HR hR=>?_
 obtain⟨u2,rfl,rfl⟩:=hR;refine EN (DN (ag (ac J3 (sr λ_ J6=>PS ?_))));refine CR qc (dR b4 u2 (bd [m.kind,m.whose]++gQ m.row) (by(have:=aU [m.kind,m.whose]);(have:=gP m.row);simp only[BallotT.flat,ViewT.flat,ChangeT.flat,aw,az,ay,af]at*;omega)) ID λvR HR hR=>?_
 obtain⟨_,rfl,rfl⟩:=hR;revert vR;intro u3;refine PS ?_;refine nx J6 (ai (WK [2] (ap rfl rfl ?_)));exact⟨_,rfl,congrArg (λb=>[dE u3 b 5]) (show(bd [m.kind,m.whose]++gQ m.row)=dC m by simp[dC,bd, *])⟩;refine sr λ_ J7=>PS ?_
 refine ao ?_ ?_<;>intro h22;refine PS ?_;refine nx J7 (CY (ae (PS ?_)));refine FA 0 aY aM ?_;refine LU 2 Y3 (eB m rfl) ?_;refine FA 176 aY aM ?_;refine LU 2 Y3 (MsgT.at_version m rfl) ?_;refine aP (cells:=#[(.int .i64 (m.kind)),(.int .i64 (m.version))]) (ab rfl) rfl rfl rfl jI qh rfl rfl rfl (by as_aux_lemma=>kernel_rfl) (λb28=>CQ mL (dA b4 (.slice none 0 0) ([]) (.slice (some ⟨b28,0,none⟩) (2) (2)) [m.kind,m.version] (by simp)) (SM [2,1]) (dr 0 rfl rfl rfl rfl) λvR HR hR=>?_);obtain⟨u1,rfl,rfl⟩:=hR;refine au (ag (ac J3 (sr λ_ J8=>PS ?_)));refine CR qc (dR b4 u1 (bd [m.kind,m.version]) (by(have:=aU [m.kind,m.version]);simp only[BallotT.flat,ViewT.flat,ChangeT.flat,aw,az,ay,af]at*;omega)) ID λvR HR hR=>?_
 obtain⟨_,rfl,rfl⟩:=hR;revert vR;intro u2;refine PS ?_;refine nx J8 (ai (WK [2] (ap rfl rfl ?_)));exact⟨_,rfl,congrArg (λb=>[dE u2 b 5]) (show(bd [m.kind,m.version])=dC m by simp[dC,eU,e4,bd, *])⟩;refine PS ?_;refine nx J7 (CN (aa λ_ J9=>eH (α:=Unit) (λ_u=>True) (λ_u=>[(1,(.pointer (some ⟨b1,0,none⟩))),(2,(.slice none 0 0)),(3,(.pointer (some ⟨b4,0,none⟩))),(6,(.int .i64 (m.kind))),(30,(.bool ((e4 m.kind))))]) (λ_u=>[dE (.slice none 0 0) ([]) 5,ak b4 [(.slice none 0 0)] 144,ak b1 (ints m.flat) 178]) (λ_u hinv=>?_) (λtl9=>?_)));have _:=hinv;refine ac J9 (TC.cond rfl (λh30=>?_) (λh30=>?_));refine D1 2 bc ?_;refine PD 0 ?_;refine FD 1 0 aY aM ?_;refine LR 2 Y3 (eB m rfl) ?_;refine FD 3 177 aY aM ?_;refine LR 4 Y3 (el m rfl) ?_;refine FD 7 178 aY cp ?_;refine ta 8 rfl (aJ (vs:=ints m.ballot.flat) rfl jC rfl cp rfl (λ_ h=>h.2.1) (am m.ballot) (ir m 0 rfl (by decide) (bj (am m.ballot)))) ?_;refine AL 5 ?_;refine aP (cells:=#[(.int .i64 (m.kind)),(.int .i64 (m.epoch))]) (ab rfl) rfl rfl rfl jI qh rfl rfl rfl (by as_aux_lemma=>kernel_rfl) (λb38=>EN (AL 6 ?_));refine CQ mL (dA b4 (.slice none 0 0) ([]) (.slice (some ⟨b38,0,none⟩) (2) (2)) [m.kind,m.epoch] (by simp)) (SM [2,1]) (dr 0 rfl rfl rfl rfl) λvR HR hR=>?_
 obtain⟨u1,rfl,rfl⟩:=hR;refine EN (AL 9 ?_);refine CR Ez (iP b4 u1 (bd [m.kind,m.epoch]) m.ballot (by(have:=aU [m.kind,m.epoch]);simp only[BallotT.flat,ViewT.flat,ChangeT.flat,aw,az,ay,af]at*;omega)) ID λvR HR hR=>?_
 obtain⟨u2,rfl,rfl⟩:=hR;refine EN (DN (ag (ac J3 (sr λ_ J10=>PS ?_))));refine CR qc (dR b4 u2 (bd [m.kind,m.epoch]++bd m.ballot.flat) (by(have:=aU [m.kind,m.epoch]);(have:=aU (m.ballot.flat));simp only[BallotT.flat,ViewT.flat,ChangeT.flat,aw,az,ay,af]at*;omega)) ID λvR HR hR=>?_
 obtain⟨_,rfl,rfl⟩:=hR;revert vR;intro u3;refine PS ?_;refine nx J10 (ai (WK [2] (ap rfl rfl ?_)));exact⟨_,rfl,congrArg (λb=>[dE u3 b 5]) (show(bd [m.kind,m.epoch]++bd m.ballot.flat)=dC m by simp[dC,bd, *])⟩;refine sr λ_ J11=>PS ?_
 refine ao ?_ ?_<;>intro h44;refine PS ?_;refine nx J11 (CY (D1 2 bc ?_));refine PD 0 ?_;refine FD 1 0 aY aM ?_;refine LR 2 Y3 (eB m rfl) ?_;refine FD 3 177 aY aM ?_;refine LR 4 Y3 (el m rfl) ?_;refine FD 7 178 aY cp ?_;refine ta 8 rfl (aJ (vs:=ints m.ballot.flat) rfl jC rfl cp rfl (λ_ h=>h.2.1) (am m.ballot) (ir m 0 rfl (by decide) (bj (am m.ballot)))) ?_;refine FD 10 180 aY cp ?_;refine ta 11 rfl (aJ (vs:=ints m.had.flat) rfl jC rfl cp rfl (λ_ h=>h.2.1) (am m.had) (Mt m 0 rfl (by decide) (bj (am m.had)))) ?_;refine FD 13 182 aY e9 ?_;refine ta 14 rfl (aJ (vs:=ints m.change.flat) rfl mj rfl e9 rfl (λ_ h=>h.2.1) (aI m.change) (mq m 0 rfl (by decide) (bj (aI m.change)))) ?_;refine AL 5 ?_;refine aP (cells:=#[(.int .i64 (m.kind)),(.int .i64 (m.epoch))]) (ab rfl) rfl rfl rfl jI qh rfl rfl rfl (by as_aux_lemma=>kernel_rfl) (λb50=>EN (AL 6 ?_));refine CQ mL (dA b4 (.slice none 0 0) ([]) (.slice (some ⟨b50,0,none⟩) (2) (2)) [m.kind,m.epoch] (by simp)) (SM [2,1]) (dr 0 rfl rfl rfl rfl) λvR HR hR=>?_
 obtain⟨u1,rfl,rfl⟩:=hR;refine EN (AL 9 ?_);refine CR Ez (iP b4 u1 (bd [m.kind,m.epoch]) m.ballot (by(have:=aU [m.kind,m.epoch]);simp only[BallotT.flat,ViewT.flat,ChangeT.flat,aw,az,ay,af]at*;omega)) ID λvR HR hR=>?_
 obtain⟨u2,rfl,rfl⟩:=hR;refine EN (AL 12 ?_);refine CR Ez (iP b4 u2 (bd [m.kind,m.epoch]++bd m.ballot.flat) m.had (by(have:=aU [m.kind,m.epoch]);(have:=aU (m.ballot.flat));simp only[BallotT.flat,ViewT.flat,ChangeT.flat,aw,az,ay,af]at*;omega)) ID λvR HR hR=>?_
 obtain⟨u3,rfl,rfl⟩:=hR;refine EN (AL 15 ?_);refine CR IQ (ny b4 u3 (bd [m.kind,m.epoch]++bd m.ballot.flat++bd m.had.flat) m.change (by(have:=aU [m.kind,m.epoch]);(have:=aU (m.ballot.flat));(have:=aU (m.had.flat));simp only[BallotT.flat,ViewT.flat,ChangeT.flat,aw,az,ay,af]at*;omega)) ID λvR HR hR=>?_
 obtain⟨u4,rfl,rfl⟩:=hR;refine EN (DN (ag (ac J3 (sr λ_ J12=>PS ?_))));refine CR qc (dR b4 u4 (bd [m.kind,m.epoch]++bd m.ballot.flat++bd m.had.flat++bd m.change.flat) (by(have:=aU [m.kind,m.epoch]);(have:=aU (m.ballot.flat));(have:=aU (m.had.flat));(have:=aU (m.change.flat));simp only[BallotT.flat,ViewT.flat,ChangeT.flat,aw,az,ay,af]at*;omega)) ID λvR HR hR=>?_
 obtain⟨_,rfl,rfl⟩:=hR;revert vR;intro u5;refine PS ?_;refine nx J12 (ai (WK [2] (ap rfl rfl ?_)));exact⟨_,rfl,congrArg (λb=>[dE u5 b 5]) (show(bd [m.kind,m.epoch]++bd m.ballot.flat++bd m.had.flat++bd m.change.flat)=dC m by simp[dC,eU,e4,bd, *])⟩;refine PS ?_;refine nx J11 (CN (sr λ_ J13=>PS ?_));refine ao ?_ ?_<;>intro h62;refine PS ?_;refine nx J13 (CY (D1 2 bc ?_));refine PD 0 ?_;refine FD 1 0 aY aM ?_;refine LR 2 Y3 (eB m rfl) ?_;refine FD 3 177 aY aM ?_;refine LR 4 Y3 (el m rfl) ?_;refine FD 7 178 aY cp ?_;refine ta 8 rfl (aJ (vs:=ints m.ballot.flat) rfl jC rfl cp rfl (λ_ h=>h.2.1) (am m.ballot) (ir m 0 rfl (by decide) (bj (am m.ballot)))) ?_;refine FD 10 182 aY e9 ?_;refine ta 11 rfl (aJ (vs:=ints m.change.flat) rfl mj rfl e9 rfl (λ_ h=>h.2.1) (aI m.change) (mq m 0 rfl (by decide) (bj (aI m.change)))) ?_;refine AL 5 ?_;refine aP (cells:=#[(.int .i64 (m.kind)),(.int .i64 (m.epoch))]) (ab rfl) rfl rfl rfl jI qh rfl rfl rfl (by as_aux_lemma=>kernel_rfl) (λb68=>EN (AL 6 ?_));refine CQ mL (dA b4 (.slice none 0 0) ([]) (.slice (some ⟨b68,0,none⟩) (2) (2)) [m.kind,m.epoch] (by simp)) (SM [2,1]) (dr 0 rfl rfl rfl rfl) λvR HR hR=>?_
 obtain⟨u1,rfl,rfl⟩:=hR;refine EN (AL 9 ?_);refine CR Ez (iP b4 u1 (bd [m.kind,m.epoch]) m.ballot (by(have:=aU [m.kind,m.epoch]);simp only[BallotT.flat,ViewT.flat,ChangeT.flat,aw,az,ay,af]at*;omega)) ID λvR HR hR=>?_
 obtain⟨u2,rfl,rfl⟩:=hR;refine EN (AL 12 ?_);refine CR IQ (ny b4 u2 (bd [m.kind,m.epoch]++bd m.ballot.flat) m.change (by(have:=aU [m.kind,m.epoch]);(have:=aU (m.ballot.flat));simp only[BallotT.flat,ViewT.flat,ChangeT.flat,aw,az,ay,af]at*;omega)) ID λvR HR hR=>?_
 obtain⟨u3,rfl,rfl⟩:=hR;refine EN (DN (ag (ac J3 (sr λ_ J14=>PS ?_))));refine CR qc (dR b4 u3 (bd [m.kind,m.epoch]++bd m.ballot.flat++bd m.change.flat) (by(have:=aU [m.kind,m.epoch]);(have:=aU (m.ballot.flat));(have:=aU (m.change.flat));simp only[BallotT.flat,ViewT.flat,ChangeT.flat,aw,az,ay,af]at*;omega)) ID λvR HR hR=>?_
 obtain⟨_,rfl,rfl⟩:=hR;revert vR;intro u4;refine PS ?_;refine nx J14 (ai (WK [2] (ap rfl rfl ?_)));exact⟨_,rfl,congrArg (λb=>[dE u4 b 5]) (show(bd [m.kind,m.epoch]++bd m.ballot.flat++bd m.change.flat)=dC m by simp[dC,eU,e4,bd, *])⟩;refine PS ?_;refine nx J13 (CN (sr λ_ J15=>PS ?_));refine ao ?_ ?_<;>intro h77;refine PS ?_;refine nx J15 (CY (D1 2 bc ?_));refine PD 0 ?_;refine FD 1 0 aY aM ?_;refine LR 2 Y3 (eB m rfl) ?_;refine FD 5 185 aY bf ?_;refine ta 6 rfl (aJ (vs:=ints m.view.flat) rfl eF rfl bf rfl (λ_ h=>h.2.1) (an m.view) (tH m 0 rfl (by decide) (bj (an m.view)))) ?_;refine AL 3 ?_;refine aP (cells:=#[(.int .i64 (m.kind))]) (ab rfl) rfl rfl rfl jI qh rfl rfl rfl (by as_aux_lemma=>kernel_rfl) (λb81=>EN (AL 4 ?_));refine CQ mL (dA b4 (.slice none 0 0) ([]) (.slice (some ⟨b81,0,none⟩) (1) (1)) [m.kind] (by simp)) (SM [2,1]) (dr 0 rfl rfl rfl rfl) λvR HR hR=>?_
 obtain⟨u1,rfl,rfl⟩:=hR;refine EN (AL 7 ?_);refine CR IP (pW b4 u1 (bd [m.kind]) m.view (by(have:=aU [m.kind]);simp only[BallotT.flat,ViewT.flat,ChangeT.flat,aw,az,ay,af]at*;omega)) ID λvR HR hR=>?_
 obtain⟨u2,rfl,rfl⟩:=hR;refine EN (DN (ag (ac J3 (sr λ_ J16=>PS ?_))));refine CR qc (dR b4 u2 (bd [m.kind]++bd m.view.flat) (by(have:=aU [m.kind]);(have:=aU (m.view.flat));simp only[BallotT.flat,ViewT.flat,ChangeT.flat,aw,az,ay,af]at*;omega)) ID λvR HR hR=>?_
 obtain⟨_,rfl,rfl⟩:=hR;revert vR;intro u3;refine PS ?_;refine nx J16 (ai (WK [2] (ap rfl rfl ?_)));exact⟨_,rfl,congrArg (λb=>[dE u3 b 5]) (show(bd [m.kind]++bd m.view.flat)=dC m by simp[dC,eU,e4,bd, *])⟩;refine PS ?_;refine nx J15 (CN (sr λ_ J17=>PS ?_));refine ao ?_ ?_<;>intro h87;refine PS ?_;refine nx J17 (CY (D1 2 bc ?_));refine PD 0 ?_;refine FD 1 0 aY aM ?_;refine LR 2 Y3 (eB m rfl) ?_;refine FD 3 1 aY aM ?_;refine LR 4 Y3 (ce m rfl) ?_;refine FD 7 185 aY bf ?_;refine ta 8 rfl (aJ (vs:=ints m.view.flat) rfl eF rfl bf rfl (λ_ h=>h.2.1) (an m.view) (tH m 0 rfl (by decide) (bj (an m.view)))) ?_;refine AL 5 ?_;refine aP (cells:=#[(.int .i64 (m.kind)),(.int .i64 (m.whose))]) (ab rfl) rfl rfl rfl jI qh rfl rfl rfl (by as_aux_lemma=>kernel_rfl) (λb93=>EN (AL 6 ?_));refine CQ mL (dA b4 (.slice none 0 0) ([]) (.slice (some ⟨b93,0,none⟩) (2) (2)) [m.kind,m.whose] (by simp)) (SM [2,1]) (dr 0 rfl rfl rfl rfl) λvR HR hR=>?_
 obtain⟨u1,rfl,rfl⟩:=hR;refine EN (AL 9 ?_);refine CR IP (pW b4 u1 (bd [m.kind,m.whose]) m.view (by(have:=aU [m.kind,m.whose]);simp only[BallotT.flat,ViewT.flat,ChangeT.flat,aw,az,ay,af]at*;omega)) ID λvR HR hR=>?_
 obtain⟨u2,rfl,rfl⟩:=hR;refine EN (DN (ag (ac J3 (sr λ_ J18=>PS ?_))));refine CR qc (dR b4 u2 (bd [m.kind,m.whose]++bd m.view.flat) (by(have:=aU [m.kind,m.whose]);(have:=aU (m.view.flat));simp only[BallotT.flat,ViewT.flat,ChangeT.flat,aw,az,ay,af]at*;omega)) ID λvR HR hR=>?_
 obtain⟨_,rfl,rfl⟩:=hR;revert vR;intro u3;refine PS ?_;refine nx J18 (ai (WK [2] (ap rfl rfl ?_)));exact⟨_,rfl,congrArg (λb=>[dE u3 b 5]) (show(bd [m.kind,m.whose]++bd m.view.flat)=dC m by simp[dC,eU,e4,bd, *])⟩;refine PS ?_;refine nx J17 (CN (aS (ag (ac J3 (sr λ_ J19=>PS ?_)))));refine CR qc (dR b4 (.slice none 0 0) ([]) (by simp)) (SM [1,0]) λvR HR hR=>?_
 obtain⟨_,rfl,rfl⟩:=hR;revert vR;intro u1;refine PS ?_;refine nx J19 (ai (WK [2] (ap rfl rfl ?_)));exact⟨_,rfl,congrArg (λb=>[dE u1 b 5]) (show([]:List UInt8)=dC m by simp[dC,bd, *])⟩;refine sr λ_ J20=>P2 ?_
 refine ao ?_ ?_<;>intro h30;refine nx J20 (CY (aS ?_))
 exact aD
  (aQ (aQ (aQ (aQ (bo rfl (by simp[e4, *]) SB)))))
  (λ_ s=>s)
  (tl9 (():Unit) trivial)
 refine nx J20 (CN (ae (PS ?_)));refine ao ?_ ?_<;>intro h32;refine PS ?_;refine au ?_
 exact aD
  (aQ (aQ (aQ (aQ (bo rfl (by simp[e4, *]) SB)))))
  (λ_ s=>s)
  (tl9 (():Unit) trivial)
 refine PS ?_;refine au ?_
 exact aD
  (aQ (aQ (aQ (aQ (bo rfl (by simp[e4, *]) SB)))))
  (λ_ s=>s)
  (tl9 (():Unit) trivial)
 refine sr λ_ J21=>P2 ?_
 refine ao ?_ ?_<;>intro h7;refine nx J21 (CY (aS ?_))
 exact aD
  (aQ (aQ (aQ (aQ (bo rfl (by simp[eU, *]) SB)))))
  (λ_ s=>s)
  (tl5 (():Unit) trivial)
 refine nx J21 (CN (sr λ_ J22=>P2 ?_));refine ao ?_ ?_<;>intro h7;refine nx J22 (CY (aS ?_))
 exact aD
  (aQ (aQ (aQ (aQ (bo rfl (by simp[eU, *]) SB)))))
  (λ_ s=>s)
  (tl5 (():Unit) trivial)
 refine nx J22 (CN (ae (PS ?_)));refine ao ?_ ?_<;>intro h10;refine PS ?_;refine au ?_
 exact aD
  (aQ (aQ (aQ (aQ (bo rfl (by simp[eU, *]) SB)))))
  (λ_ s=>s)
  (tl5 (():Unit) trivial)
 refine PS ?_;refine au ?_
 exact aD
  (aQ (aQ (aQ (aQ (bo rfl (by simp[eU, *]) SB)))))
  (λ_ s=>s)
  (tl5 (():Unit) trivial)
theorem zX(m:RecT):
 DT 50 #[(.agg (ints m.flat).toArray)] T0 [] (dG (λr' H=>∃u,r'=u∧H=[dE u (jq m) 5])):=by
 refine BD 77 Tryz.func50 rfl rfl rfl λw0 F hF=>sr λ_ J1=>XY (ints m.flat) λb1=>?_
 refine PS ?_;refine nx J1 (sr λ_ J2=>XA Jo λb4=>?_);refine TL.ownNil 5 (λon=>?_);clear on;refine PS ?_;refine nx J2 (aa λ_ J3=>sr λ_ J4=>FA 0 io aM ?_);refine LU 2 Y3 (jP m rfl) ?_;refine nx J4 (aq (sr λ_ J5=>PS ?_));refine ao ?_ ?_<;>intro h8;refine PS ?_;refine nx J5 (CY (D1 2 bc ?_));refine PD 0 ?_;refine FD 1 0 io aM ?_;refine LR 2 Y3 (jP m rfl) ?_;refine FD 5 2 io aZ ?_;refine ta 6 rfl (aJ (vs:=ints m.row.flat) rfl dP rfl aZ rfl (λ_ h=>h.2.1) (ah m.row) (qz m 0 rfl (by decide) (bj (ah m.row)))) ?_;refine AL 3 ?_;refine aP (cells:=#[(.int .i64 (m.kind))]) (ab rfl) rfl rfl rfl jI qh rfl rfl rfl (by as_aux_lemma=>kernel_rfl) (λb12=>EN (AL 4 ?_));refine CQ mL (dA b4 (.slice none 0 0) ([]) (.slice (some ⟨b12,0,none⟩) (1) (1)) [m.kind] (by simp)) (SM [2,1]) (dr 0 rfl rfl rfl rfl) λvR HR hR=>?_
 obtain⟨u1,rfl,rfl⟩:=hR;refine EN (AL 7 ?_);refine CR IR (rT b4 u1 (bd [m.kind]) m.row (by(have:=aU [m.kind]);simp only[BallotT.flat,ViewT.flat,ChangeT.flat,aw,az,ay,af]at*;omega)) ID λvR HR hR=>?_
 obtain⟨u2,rfl,rfl⟩:=hR;refine EN (DN (ag (ac J3 (sr λ_ J6=>PS ?_))));refine CR qc (dR b4 u2 (bd [m.kind]++gQ m.row) (by(have:=aU [m.kind]);(have:=gP m.row);simp only[BallotT.flat,ViewT.flat,ChangeT.flat,aw,az,ay,af]at*;omega)) ID λvR HR hR=>?_
 obtain⟨_,rfl,rfl⟩:=hR;revert vR;intro u3;refine PS ?_;refine nx J6 (ai (WK [2] (ap rfl rfl ?_)));exact⟨_,rfl,congrArg (λb=>[dE u3 b 5]) (show(bd [m.kind]++gQ m.row)=jq m by simp[jq,eU,e4,bd, *])⟩;refine PS ?_;refine nx J5 (CN (sr λ_ J7=>PS ?_));refine ao ?_ ?_<;>intro h18;refine PS ?_;refine nx J7 (CY (D1 2 bc ?_));refine PD 0 ?_;refine FD 1 0 io aM ?_;refine LR 2 Y3 (jP m rfl) ?_;refine FD 3 1 io aM ?_;refine LR 4 Y3 (Du m rfl) ?_;refine FD 7 2 io aZ ?_;refine ta 8 rfl (aJ (vs:=ints m.row.flat) rfl dP rfl aZ rfl (λ_ h=>h.2.1) (ah m.row) (qz m 0 rfl (by decide) (bj (ah m.row)))) ?_;refine AL 5 ?_;refine aP (cells:=#[(.int .i64 (m.kind)),(.int .i64 (m.whose))]) (ab rfl) rfl rfl rfl jI qh rfl rfl rfl (by as_aux_lemma=>kernel_rfl) (λb24=>EN (AL 6 ?_));refine CQ mL (dA b4 (.slice none 0 0) ([]) (.slice (some ⟨b24,0,none⟩) (2) (2)) [m.kind,m.whose] (by simp)) (SM [2,1]) (dr 0 rfl rfl rfl rfl) λvR HR hR=>?_
 obtain⟨u1,rfl,rfl⟩:=hR;refine EN (AL 9 ?_);refine CR IR (rT b4 u1 (bd [m.kind,m.whose]) m.row (by(have:=aU [m.kind,m.whose]);simp only[BallotT.flat,ViewT.flat,ChangeT.flat,aw,az,ay,af]at*;omega)) ID λvR HR hR=>?_
 obtain⟨u2,rfl,rfl⟩:=hR;refine EN (DN (ag (ac J3 (sr λ_ J8=>PS ?_))));refine CR qc (dR b4 u2 (bd [m.kind,m.whose]++gQ m.row) (by(have:=aU [m.kind,m.whose]);(have:=gP m.row);simp only[BallotT.flat,ViewT.flat,ChangeT.flat,aw,az,ay,af]at*;omega)) ID λvR HR hR=>?_
 obtain⟨_,rfl,rfl⟩:=hR;revert vR;intro u3;refine PS ?_;refine nx J8 (ai (WK [2] (ap rfl rfl ?_)));exact⟨_,rfl,congrArg (λb=>[dE u3 b 5]) (show(bd [m.kind,m.whose]++gQ m.row)=jq m by simp[jq,eU,e4,bd, *])⟩;refine PS ?_;refine nx J7 (CN (sr λ_ J9=>PS ?_));refine ao ?_ ?_<;>intro h30;refine PS ?_;refine nx J9 (CY (ae (PS ?_)));refine FA 0 io aM ?_;refine LU 2 Y3 (jP m rfl) ?_;refine FA 1 io aM ?_;refine LU 2 Y3 (Du m rfl) ?_;refine aP (cells:=#[(.int .i64 (m.kind)),(.int .i64 (m.whose))]) (ab rfl) rfl rfl rfl jI qh rfl rfl rfl (by as_aux_lemma=>kernel_rfl) (λb36=>CQ mL (dA b4 (.slice none 0 0) ([]) (.slice (some ⟨b36,0,none⟩) (2) (2)) [m.kind,m.whose] (by simp)) (SM [2,1]) (dr 0 rfl rfl rfl rfl) λvR HR hR=>?_);obtain⟨u1,rfl,rfl⟩:=hR;refine au (ag (ac J3 (sr λ_ J10=>PS ?_)));refine CR qc (dR b4 u1 (bd [m.kind,m.whose]) (by(have:=aU [m.kind,m.whose]);simp only[BallotT.flat,ViewT.flat,ChangeT.flat,aw,az,ay,af]at*;omega)) ID λvR HR hR=>?_
 obtain⟨_,rfl,rfl⟩:=hR;revert vR;intro u2;refine PS ?_;refine nx J10 (ai (WK [2] (ap rfl rfl ?_)));exact⟨_,rfl,congrArg (λb=>[dE u2 b 5]) (show(bd [m.kind,m.whose])=jq m by simp[jq,eU,e4,bd, *])⟩;refine PS ?_;refine nx J9 (CN (sr λ_ J11=>PS ?_));refine ao ?_ ?_<;>intro h39;refine PS ?_;refine nx J11 (CY (D1 2 bc ?_));refine PD 0 ?_;refine FD 1 0 io aM ?_;refine LR 2 Y3 (jP m rfl) ?_;refine FD 3 176 io aM ?_;refine LR 4 Y3 (RecT.at_epoch m rfl) ?_;refine FD 7 177 io cp ?_;refine ta 8 rfl (aJ (vs:=ints m.ballot.flat) rfl jC rfl cp rfl (λ_ h=>h.2.1) (am m.ballot) (pJ m 0 rfl (by decide) (bj (am m.ballot)))) ?_;refine AL 5 ?_;refine aP (cells:=#[(.int .i64 (m.kind)),(.int .i64 (m.epoch))]) (ab rfl) rfl rfl rfl jI qh rfl rfl rfl (by as_aux_lemma=>kernel_rfl) (λb45=>EN (AL 6 ?_));refine CQ mL (dA b4 (.slice none 0 0) ([]) (.slice (some ⟨b45,0,none⟩) (2) (2)) [m.kind,m.epoch] (by simp)) (SM [2,1]) (dr 0 rfl rfl rfl rfl) λvR HR hR=>?_
 obtain⟨u1,rfl,rfl⟩:=hR;refine EN (AL 9 ?_);refine CR Ez (iP b4 u1 (bd [m.kind,m.epoch]) m.ballot (by(have:=aU [m.kind,m.epoch]);simp only[BallotT.flat,ViewT.flat,ChangeT.flat,aw,az,ay,af]at*;omega)) ID λvR HR hR=>?_
 obtain⟨u2,rfl,rfl⟩:=hR;refine EN (DN (ag (ac J3 (sr λ_ J12=>PS ?_))));refine CR qc (dR b4 u2 (bd [m.kind,m.epoch]++bd m.ballot.flat) (by(have:=aU [m.kind,m.epoch]);(have:=aU (m.ballot.flat));simp only[BallotT.flat,ViewT.flat,ChangeT.flat,aw,az,ay,af]at*;omega)) ID λvR HR hR=>?_
 obtain⟨_,rfl,rfl⟩:=hR;revert vR;intro u3;refine PS ?_;refine nx J12 (ai (WK [2] (ap rfl rfl ?_)));exact⟨_,rfl,congrArg (λb=>[dE u3 b 5]) (show(bd [m.kind,m.epoch]++bd m.ballot.flat)=jq m by simp[jq,eU,e4,bd, *])⟩;refine PS ?_;refine nx J11 (CN (sr λ_ J13=>PS ?_));refine ao ?_ ?_<;>intro h51;refine PS ?_;refine nx J13 (CY (D1 2 bc ?_));refine PD 0 ?_;refine FD 1 0 io aM ?_;refine LR 2 Y3 (jP m rfl) ?_;refine FD 3 176 io aM ?_;refine LR 4 Y3 (RecT.at_epoch m rfl) ?_;refine FD 7 177 io cp ?_;refine ta 8 rfl (aJ (vs:=ints m.ballot.flat) rfl jC rfl cp rfl (λ_ h=>h.2.1) (am m.ballot) (pJ m 0 rfl (by decide) (bj (am m.ballot)))) ?_;refine FD 10 179 io e9 ?_;refine ta 11 rfl (aJ (vs:=ints m.change.flat) rfl mj rfl e9 rfl (λ_ h=>h.2.1) (aI m.change) (Jd m 0 rfl (by decide) (bj (aI m.change)))) ?_;refine AL 5 ?_;refine aP (cells:=#[(.int .i64 (m.kind)),(.int .i64 (m.epoch))]) (ab rfl) rfl rfl rfl jI qh rfl rfl rfl (by as_aux_lemma=>kernel_rfl) (λb57=>EN (AL 6 ?_));refine CQ mL (dA b4 (.slice none 0 0) ([]) (.slice (some ⟨b57,0,none⟩) (2) (2)) [m.kind,m.epoch] (by simp)) (SM [2,1]) (dr 0 rfl rfl rfl rfl) λvR HR hR=>?_
 obtain⟨u1,rfl,rfl⟩:=hR;refine EN (AL 9 ?_);refine CR Ez (iP b4 u1 (bd [m.kind,m.epoch]) m.ballot (by(have:=aU [m.kind,m.epoch]);simp only[BallotT.flat,ViewT.flat,ChangeT.flat,aw,az,ay,af]at*;omega)) ID λvR HR hR=>?_
 obtain⟨u2,rfl,rfl⟩:=hR;refine EN (AL 12 ?_);refine CR IQ (ny b4 u2 (bd [m.kind,m.epoch]++bd m.ballot.flat) m.change (by(have:=aU [m.kind,m.epoch]);(have:=aU (m.ballot.flat));simp only[BallotT.flat,ViewT.flat,ChangeT.flat,aw,az,ay,af]at*;omega)) ID λvR HR hR=>?_
 obtain⟨u3,rfl,rfl⟩:=hR;refine EN (DN (ag (ac J3 (sr λ_ J14=>PS ?_))));refine CR qc (dR b4 u3 (bd [m.kind,m.epoch]++bd m.ballot.flat++bd m.change.flat) (by(have:=aU [m.kind,m.epoch]);(have:=aU (m.ballot.flat));(have:=aU (m.change.flat));simp only[BallotT.flat,ViewT.flat,ChangeT.flat,aw,az,ay,af]at*;omega)) ID λvR HR hR=>?_
 obtain⟨_,rfl,rfl⟩:=hR;revert vR;intro u4;refine PS ?_;refine nx J14 (ai (WK [2] (ap rfl rfl ?_)));exact⟨_,rfl,congrArg (λb=>[dE u4 b 5]) (show(bd [m.kind,m.epoch]++bd m.ballot.flat++bd m.change.flat)=jq m by simp[jq,eU,e4,bd, *])⟩;refine PS ?_;refine nx J13 (CN (sr λ_ J15=>PS ?_));refine ao ?_ ?_<;>intro h66;refine PS ?_;refine nx J15 (CY (D1 2 bc ?_));refine PD 0 ?_;refine FD 1 0 io aM ?_;refine LR 2 Y3 (jP m rfl) ?_;refine FD 5 182 io bf ?_;refine ta 6 rfl (aJ (vs:=ints m.view.flat) rfl eF rfl bf rfl (λ_ h=>h.2.1) (an m.view) (Mg m 0 rfl (by decide) (bj (an m.view)))) ?_;refine AL 3 ?_;refine aP (cells:=#[(.int .i64 (m.kind))]) (ab rfl) rfl rfl rfl jI qh rfl rfl rfl (by as_aux_lemma=>kernel_rfl) (λb70=>EN (AL 4 ?_));refine CQ mL (dA b4 (.slice none 0 0) ([]) (.slice (some ⟨b70,0,none⟩) (1) (1)) [m.kind] (by simp)) (SM [2,1]) (dr 0 rfl rfl rfl rfl) λvR HR hR=>?_
 obtain⟨u1,rfl,rfl⟩:=hR;refine EN (AL 7 ?_);refine CR IP (pW b4 u1 (bd [m.kind]) m.view (by(have:=aU [m.kind]);simp only[BallotT.flat,ViewT.flat,ChangeT.flat,aw,az,ay,af]at*;omega)) ID λvR HR hR=>?_
 obtain⟨u2,rfl,rfl⟩:=hR;refine EN (DN (ag (ac J3 (sr λ_ J16=>PS ?_))));refine CR qc (dR b4 u2 (bd [m.kind]++bd m.view.flat) (by(have:=aU [m.kind]);(have:=aU (m.view.flat));simp only[BallotT.flat,ViewT.flat,ChangeT.flat,aw,az,ay,af]at*;omega)) ID λvR HR hR=>?_
 obtain⟨_,rfl,rfl⟩:=hR;revert vR;intro u3;refine PS ?_;refine nx J16 (ai (WK [2] (ap rfl rfl ?_)));exact⟨_,rfl,congrArg (λb=>[dE u3 b 5]) (show(bd [m.kind]++bd m.view.flat)=jq m by simp[jq,eU,e4,bd, *])⟩;refine PS ?_;refine nx J15 (CN (aS (ag (ac J3 (sr λ_ J17=>PS ?_)))));refine CR qc (dR b4 (.slice none 0 0) ([]) (by simp)) (SM [1,0]) λvR HR hR=>?_
 obtain⟨_,rfl,rfl⟩:=hR;revert vR;intro u1;refine PS ?_;refine nx J17 (ai (WK [2] (ap rfl rfl ?_)));exact⟨_,rfl,congrArg (λb=>[dE u1 b 5]) (show([]:List UInt8)=jq m by simp[jq,eU,e4,bd, *])⟩
open Dsk Wal
theorem ReplyT.flat_length(x:ReplyT):x.flat.length=3:=rfl
abbrev rM:= @ReplyT.flat_length
theorem pu(who:Int)(hm:cD who=true):DT 34 #[.int .i64 who] T0 [] (dG (λr' H=>∃u,r'=u∧H=[own u 2 [.int .i64 ((who+1)%5), .int .i64 ((who+2)%5)] 3 1])):=by
 have:=oy who;rw[show gv who=[(who+1)%5,(who+2)%5]by rw[gv,if_pos hm]]at this;exact this
theorem Bz(r:Nat)(x:RepT)(op err val:Int)(rs:List ReplyT)(hrs:rs.length≤1000000):
 DT 97 #[(.pointer (some ⟨r,0,none⟩)),(.int .i64 (op)),(.int .i64 (err)),(.int .i64 (val))] T0 [ak r (RepT.cells x) 123,own x.replies ((rs).length) (ints (List.flatMap ReplyT.flat (rs))) 37 3] (dG (λ_ H=>∃v',v'.oneCell'=true∧H=[ak r (RepT.cells {x with replies:=v'}) 123,own v' (rs++[ReplyT.mk op err val]).length (ints (List.flatMap ReplyT.flat (rs++[ReplyT.mk op err val]))) 37 3])):=by
 refine BD 21 Tryz.func97 rfl rfl rfl λw0 F hF=>ae (P3 ?_)
 refine FA 1942 bh wo ?_;refine LT 0 Cs x.replies ?_ (hc:=by exact RepT.at_replies x rfl);refine P3 ?_;refine tp (wY (cs:=ints (ReplyT.mk op err val).flat) (segs:=[[Value.int .i64 0],[Value.int .i64 0],[Value.int .i64 0]]) (res:=[[Value.int .i64 op],[Value.int .i64 err],[Value.int .i64 val]]) (parts:=[(0,[Value.int .i64 op]),(1,[Value.int .i64 err]),(2,[Value.int .i64 val])]) rfl rfl KT (by kernel_rfl) (by kernel_rfl) rfl (eT rfl rfl (eT rfl rfl (eT rfl rfl kL))) (ReplyT.eq (ReplyT.mk op err val)).symm) ?_;refine aP (cells:=(ints (ReplyT.mk op err val).flat).toArray) (ab rfl) rfl rfl rfl Cs EL rfl rfl rfl (jA (gx (ReplyT.mk op err val)) (by simp)) (λb17=>?_);change TL _ _ _ _ _ _ _ _ _ [ak b17 (ints (ReplyT.mk op err val).flat) 37,ak r (RepT.cells x) 123,own x.replies ((rs).length) (ints (List.flatMap ReplyT.flat (rs))) 37 3];refine co (k:=2) (news:=ints (ReplyT.mk op err val).flat) (nn':=(rs++[ReplyT.mk op err val]).length) (xs':=ints (List.flatMap ReplyT.flat (rs++[ReplyT.mk op err val]))) (ab rfl) rfl rfl rfl Cs EL rfl rfl rfl rfl rfl rfl (λ_ _=>gJ (gx _) (RO 0) (by rw[aW,dL])) (bv _) (by simp only[maxLen];omega) (by omega) (by simp) (by simp[ints]) (λv18 ov18=>PS ?_);refine FA 1942 bh wo ?_;exact bS (i:=1) (ab rfl) rfl rfl rfl rfl ov18 wo rfl rfl (LB (cJ _)) (RepT.set_replies x rfl _) rfl (au (WK [1,1] (bu rfl ⟨_,ov18,rfl⟩)))
theorem ys(r:Nat)(x:RepT)(rs:List ReplyT)(hrs:rs.length≤1000000):
 DT 19 #[(.pointer (some ⟨r,0,none⟩))] T0 [ak r (RepT.cells x) 123,own x.replies ((rs).length) (ints (List.flatMap ReplyT.flat (rs))) 37 3] (dG (λr' H=>∃u,r'=u∧H=[ak r (RepT.cells x) 123,own x.replies rs.length (ints (List.flatMap ReplyT.flat rs)) 37 3,own u rs.length (ints (List.flatMap ReplyT.flat rs)) 37 3])):=by
 refine BD 8 Tryz.func19 rfl rfl rfl λw0 F hF=>sr λ_ J1=>KV 37 3 (λ_=>PS ?_)
 refine nx J1 (sr λ_ J2=>P2 ?_);refine FA 1942 bh wo ?_;refine LT 1 Cs x.replies ?_ (hc:=by exact RepT.at_replies x rfl);refine co (k:=0) (news:=ints (List.flatMap ReplyT.flat rs)) (nn':=rs.length) (xs':=ints (List.flatMap ReplyT.flat rs)) (ab rfl) rfl rfl rfl Cs EL rfl rfl rfl rfl rfl rfl (λ_ s=>Mp 2 rfl rfl s) (bv _) (by simp only[maxLen];omega) (by omega) (by simp) (by simp) (λv7 ov7=>PS ?_);exact nx J2 (ai (WK [1,1,0] (ap rfl rfl ⟨_,rfl,rfl⟩)))
end Go.Proofs.YtjblgopghhgflaaGreat
end

section
namespace Api
open Go Leg Codec Dsk Wal
def jE(w:Int)(x:RowT):RecT:= {RecT.zero with kind:=1,whose:=w,row:=x}
def iS(w:Int):RecT:= {RecT.zero with kind:=2,whose:=w}
def ku(v:ViewT):RecT:= {RecT.zero with kind:=5,view:=v}
def rq(v:Int):MsgT:= {MsgT.zero with kind:=1,version:=v}
def gB(w:Int)(x:RowT):MsgT:= {MsgT.zero with kind:=9,whose:=w,row:=x}
section
variable {x:RepT} {from' w:Int} {y:RowT} {recs:List (List UInt8)}
end
section
variable {x:RepT} {from' w:Int} {v:ViewT} {recs:List (List UInt8)}
end
end Api
end

section
namespace Go.Proofs.YtjblgopghhgflaaGreat
open Go Leg Codec Api Dsk Wal
theorem El(r:Nat)(x:RepT)(o:OpT):
 DT 96 #[(.pointer (some ⟨r,0,none⟩)),(.agg (ints o.flat).toArray)] T0 [ak r (RepT.cells x) 123] (RI (.tuple #[.agg (ints (ia x o).1.flat).toArray, .int .i64 (ia x o).2.1, .int .i64 (ia x o).2.2]) [ak r (RepT.cells x) 123]):=by
 refine BD 121 Tryz.func96 rfl rfl rfl λw0 F hF=>sr λ_ J1=>XY (ints o.flat) λb3=>?_
 refine XZ tS (ints RowT.zero.flat) λb4=>?_
 refine P2 ?_;refine nx J1 (aa λ_ J2=>aa λ_ J3=>D1 2 bc ?_);refine PD 0 ?_;refine PD 1 ?_;refine FD 2 2 bh bf ?_;refine ta 3 rfl (aJ (vs:=ints x.view.flat) rfl eF rfl bf rfl (λ_ h=>h.2.1) (an x.view) (fw x 0 rfl (by decide) (bj (an x.view)))) ?_;refine PD 4 ?_;refine PD 5 ?_;refine FD 6 0 bh aM ?_;refine LR 7 Y3 (cv x rfl) ?_;refine AL 8 ?_;refine CE oT (dq x.view x.id) ID ?_;refine aX ?_ ?_<;>intro h17;refine EN (PD 9 ?_);refine DN (ac J3 (CN (qx J2 (aa λ_ J4=>sr λ_ J5=>FA 3 eV aM ?_))));refine LU 1 Y3 (oo o rfl) ?_;refine PS ?_;refine ao ?_ ?_<;>intro h22;have hkb:l9 o.key=false:=decide_eq_false (by omega);refine PS ?_
 iterate 3 refine UT ?_
 refine PS ?_;refine nx J5 (CY (sr λ_ J6=>BV ((ints RowT.zero.flat).toArray) ?_));refine SW 0 aZ ah ?_;refine P2 ?_;refine nx J6 (ai (ad (RU 0 [2] dP aZ (ah _) ?_)));exact⟨by simp[ia,fW, *],rfl⟩;refine PS ?_;refine FA 3 eV aM ?_;refine LU 1 Y3 (oo o rfl) ?_;refine PS ?_;refine ao ?_ ?_<;>intro h26;have hkb:l9 o.key=false:=decide_eq_false (by omega);refine PS ?_;refine nx J5 (CY (sr λ_ J7=>BV ((ints RowT.zero.flat).toArray) ?_));refine SW 0 aZ ah ?_;refine P2 ?_;refine nx J7 (ai (ad (RU 0 [2] dP aZ (ah _) ?_)));exact⟨by simp[ia,fW, *],rfl⟩;have hkb:l9 o.key=true:=decide_eq_true (by omega);refine PS ?_;refine nx J5 (CN (qx J4 (aa λ_ J8=>sr λ_ J9=>FA 0 eV aM ?_)));refine LU 1 Y3 (cF o rfl) ?_;refine PS ?_;refine ao ?_ ?_<;>intro h31;refine nx J9 (CY (aa λ_ J10=>D1 1 bc ?_));refine ta 0 rfl (ju (cells:=(ints RowT.zero.flat).toArray) rfl rfl (by as_aux_lemma=>kernel_rfl)) ?_;refine PD 1 ?_;refine PD 2 ?_;refine FD 3 1068 bh uu ?_;refine FD 4 3 eV aM ?_;refine LR 5 Y3 (oo o rfl) ?_;refine AL 6 ?_;refine CE L2 (vO r 1068 123 (λu=>RepT.cells {x with book:=u}) (gj x) x.book o.key) (SM [2]) ?_;refine EN (AL 7 ?_);refine SW 1 aZ ah ?_;refine EN (PD 8 ?_);refine PD 9 ?_;refine DN (ac J10 (ai (ad (RU 1 [0] dP aZ (ah _) ?_))));exact⟨by simp[ia,fW, *],rfl⟩;refine nx J9 (CN (qx J8 (aa λ_ J11=>sr λ_ J12=>P2 ?_)));refine FA 1938 bh kd ?_;refine LU 2 Y4 (wT x rfl) ?_;refine aX ?_ ?_<;>intro h42
 refine nx J12 (CY (sr λ_ J13=>BV ((ints RowT.zero.flat).toArray) ?_));refine SW 0 aZ ah ?_;refine P2 ?_;refine nx J13 (ai (ad (RU 0 [2] dP aZ (ah _) ?_)));exact⟨by simp[ia,fW, *],rfl⟩;refine nx J12 (CN (qx J11 (sr λ_ J14=>XZ tS (ints RowT.zero.flat) λb7=>?_)));refine nx J14 (sr λ_ J15=>PS ?_);refine nx J15 (aa λ_ J16=>sr λ_ J17=>FA 0 eV aM ?_);refine LU 2 Y3 (cF o rfl) ?_;refine nx J17 (aq (sr λ_ J18=>PS ?_));refine ao ?_ ?_<;>intro h47;refine PS ?_;refine nx J18 (CY (D2 3 2 bc ?_));refine PD 0 ?_;refine PD 1 ?_;refine FD 2 9 bh aZ ?_;refine ta 3 rfl (aJ (vs:=ints x.own.flat) rfl dP rfl aZ rfl (λ_ h=>h.2.1) (ah x.own) (wR x 0 rfl (by decide) (bj (ah x.own)))) ?_;refine FD 4 3 eV aM ?_;refine LR 5 Y3 (oo o rfl) ?_;refine FD 6 4 eV aM ?_;refine LR 7 Y3 (rO o rfl) ?_;refine AL 8 ?_;refine CE KC (zT x.own o.key o.n) ID ?_;refine EN (PD 9 ?_);refine PD 10 ?_;refine PD 11 ?_;refine AL 12 ?_;refine SW 0 aZ ah ?_;refine EN (PD 13 ?_);refine DN (ag (ac J16 (aa λ_ J19=>sr λ_ J20=>P2 ?_)));refine ao ?_ ?_<;>intro h98;refine nx J20 (CY (sr λ_ J21=>BV ((ints RowT.zero.flat).toArray) ?_));refine PS ?_;refine SW 1 aZ ah ?_;refine P2 ?_;refine nx J21 (ai (ad (RU 1 [3] dP aZ (ah _) ?_)));exact⟨by simp[ia,fW, *],rfl⟩;refine nx J20 (CN (qx J19 (aa λ_ J22=>aa λ_ J23=>D2 2 3 bc ?_)));refine FD 0 0 eV aM ?_;refine LR 1 Y3 (cF o rfl) ?_;refine PD 2 ?_;refine gX ?_ ?_<;>intro h103
 · exact absurd h47 h103
 refine PD 3 ?_;refine NT 4 ?_;refine NT 5 ?_;refine NT 6 ?_;refine NT 7 ?_;refine NT 8 ?_;refine NT 9 ?_;refine NT 10 ?_;refine NT 11 ?_;refine NT 12 ?_;refine NT 13 ?_;refine NT 14 ?_;refine NT 15 ?_;refine NT 16 ?_;refine PD 17 ?_;refine DN (ac J23 (CN (qx J22 (sr λ_ J24=>LW 0 dP aZ ah ?_))));refine SW 1 aZ ah ?_;refine P2 ?_;refine nx J24 (ai (RU 1 [3] dP aZ (ah _) ?_));exact⟨by simp[ia,fW, *],rfl⟩;refine PS ?_;refine nx J18 (CN (sr λ_ J25=>PS ?_));refine ao ?_ ?_<;>intro h61;refine PS ?_;refine nx J25 (CY (D2 3 2 bc ?_));refine PD 0 ?_;refine PD 1 ?_;refine FD 2 9 bh aZ ?_;refine ta 3 rfl (aJ (vs:=ints x.own.flat) rfl dP rfl aZ rfl (λ_ h=>h.2.1) (ah x.own) (wR x 0 rfl (by decide) (bj (ah x.own)))) ?_;refine FD 4 3 eV aM ?_;refine LR 5 Y3 (oo o rfl) ?_;refine FD 6 4 eV aM ?_;refine LR 7 Y3 (rO o rfl) ?_;refine AL 8 ?_;refine CE KB (zU x.own o.key o.n) ID ?_;refine EN (PD 9 ?_);refine PD 10 ?_;refine PD 11 ?_;refine AL 12 ?_;refine SW 0 aZ ah ?_;refine EN (PD 13 ?_);refine DN (ag (ac J16 (aa λ_ J26=>sr λ_ J27=>P2 ?_)));refine ao ?_ ?_<;>intro h98;refine nx J27 (CY (sr λ_ J28=>BV ((ints RowT.zero.flat).toArray) ?_));refine PS ?_;refine SW 1 aZ ah ?_;refine P2 ?_;refine nx J28 (ai (ad (RU 1 [3] dP aZ (ah _) ?_)));exact⟨by simp[ia,fW, *],rfl⟩;refine nx J27 (CN (qx J26 (aa λ_ J29=>aa λ_ J30=>D2 2 3 bc ?_)));refine FD 0 0 eV aM ?_;refine LR 1 Y3 (cF o rfl) ?_;refine PD 2 ?_;refine gX ?_ ?_<;>intro h103;refine PD 3 ?_
 refine PD 4 ?_;refine PD 5 ?_;refine FD 6 1068 bh uu ?_;refine PD 7 ?_;refine PD 8 ?_;refine FD 9 0 bh aM ?_;refine LR 10 Y3 (cv x rfl) ?_;refine FD 11 3 eV aM ?_;refine LR 12 Y3 (oo o rfl) ?_;refine FD 14 4 eV aM ?_;refine LR 15 Y3 (rO o rfl) ?_;refine AL 13 ?_;refine CE JR (oc r 1068 123 (λu=>RepT.cells {x with book:=u}) (gj x) x.book x.id o.key) (SM [3]) ?_;refine EN (PD 16 ?_);refine gX ?_ ?_<;>intro h117;refine PD 17 ?_;refine DN (ac J30 (CY (sr λ_ J31=>BV ((ints RowT.zero.flat).toArray) ?_)));refine SW 2 aZ ah ?_;refine P2 ?_;refine nx J31 (ai (ad (RU 2 [0] dP aZ (ah _) ?_)));exact⟨by simp[ia,fW, *],rfl⟩;refine PD 17 ?_;refine DN (ac J30 (CN (qx J29 (sr λ_ J32=>LW 1 dP aZ ah ?_))));refine SW 2 aZ ah ?_;refine P2 ?_;refine nx J32 (ai (RU 2 [0] dP aZ (ah _) ?_));exact⟨by simp[ia,fW, *],rfl⟩
 · exact absurd h47 h103
 refine PS ?_;refine nx J25 (CN (sr λ_ J33=>PS ?_));refine ao ?_ ?_<;>intro h75;refine PS ?_;refine nx J33 (CY (aa λ_ J34=>D2 2 3 bc ?_));refine FD 0 2 eV aM ?_;refine LR 1 Y3 (gY o rfl) ?_;refine PD 2 ?_;refine PD 3 ?_;refine FD 4 0 bh aM ?_;refine LR 5 Y3 (cv x rfl) ?_;refine PD 6 ?_;refine gX ?_ ?_<;>intro h82;refine DN (ac J34 (CY (D2 3 2 bc ?_)));refine PD 0 ?_;refine PD 1 ?_;refine FD 2 9 bh aZ ?_;refine ta 3 rfl (aJ (vs:=ints x.own.flat) rfl dP rfl aZ rfl (λ_ h=>h.2.1) (ah x.own) (wR x 0 rfl (by decide) (bj (ah x.own)))) ?_;refine FD 4 3 eV aM ?_;refine LR 5 Y3 (oo o rfl) ?_;refine FD 6 4 eV aM ?_;refine LR 7 Y3 (rO o rfl) ?_;refine FD 8 2 eV aM ?_;refine LR 9 Y3 (gY o rfl) ?_;refine AL 10 ?_;refine CE KA (yq x.own o.key o.n o.to') ID ?_;refine EN (PD 11 ?_);refine PD 12 ?_;refine PD 13 ?_;refine AL 14 ?_;refine SW 0 aZ ah ?_;refine EN (PD 15 ?_);refine DN (ag (ac J16 (aa λ_ J35=>sr λ_ J36=>P2 ?_)));refine ao ?_ ?_<;>intro h98;refine nx J36 (CY (sr λ_ J37=>BV ((ints RowT.zero.flat).toArray) ?_));refine PS ?_;refine SW 1 aZ ah ?_;refine P2 ?_;refine nx J37 (ai (ad (RU 1 [3] dP aZ (ah _) ?_)));exact⟨by simp[ia,fW, *],rfl⟩;refine nx J36 (CN (qx J35 (aa λ_ J38=>aa λ_ J39=>D2 2 3 bc ?_)));refine FD 0 0 eV aM ?_;refine LR 1 Y3 (cF o rfl) ?_;refine PD 2 ?_;refine gX ?_ ?_<;>intro h103;refine PD 3 ?_;refine PD 4 ?_;refine PD 5 ?_;refine FD 6 1068 bh uu ?_;refine PD 7 ?_;refine PD 8 ?_;refine FD 9 0 bh aM ?_
 refine LR 10 Y3 (cv x rfl) ?_;refine FD 11 3 eV aM ?_;refine LR 12 Y3 (oo o rfl) ?_;refine FD 14 4 eV aM ?_;refine LR 15 Y3 (rO o rfl) ?_;refine AL 13 ?_;refine CE JR (oc r 1068 123 (λu=>RepT.cells {x with book:=u}) (gj x) x.book x.id o.key) (SM [3]) ?_;refine EN (PD 16 ?_);refine gX ?_ ?_<;>intro h117;refine PD 17 ?_;refine DN (ac J39 (CY (sr λ_ J40=>BV ((ints RowT.zero.flat).toArray) ?_)));refine SW 2 aZ ah ?_;refine P2 ?_;refine nx J40 (ai (ad (RU 2 [0] dP aZ (ah _) ?_)));exact⟨by simp[ia,fW, *],rfl⟩;refine PD 17 ?_;refine DN (ac J39 (CN (qx J38 (sr λ_ J41=>LW 1 dP aZ ah ?_))));refine SW 2 aZ ah ?_;refine P2 ?_;refine nx J41 (ai (RU 2 [0] dP aZ (ah _) ?_));exact⟨by simp[ia,fW, *],rfl⟩
 · exact absurd h47 h103
 refine DN (ac J34 (CN (aS (ag (ac J16 (aa λ_ J42=>sr λ_ J43=>P2 ?_))))));refine nx J43 (CY (sr λ_ J44=>BV ((ints RowT.zero.flat).toArray) ?_));refine PS ?_;refine SW 1 aZ ah ?_;refine P2 ?_;refine nx J44 (ai (ad (RU 1 [3] dP aZ (ah _) ?_)));exact⟨by simp[ia,fW, *],rfl⟩;refine PS ?_;refine nx J33 (CN (aS (ag (ac J16 (aa λ_ J45=>sr λ_ J46=>P2 ?_)))));refine nx J46 (CY (sr λ_ J47=>BV ((ints RowT.zero.flat).toArray) ?_));refine PS ?_;refine SW 1 aZ ah ?_;refine P2 ?_;refine nx J47 (ai (ad (RU 1 [3] dP aZ (ah _) ?_)));exact⟨by simp[ia,fW, *],rfl⟩;refine EN (PD 9 ?_);refine DN (ac J3 (CY (sr λ_ J48=>BV ((ints RowT.zero.flat).toArray) ?_)));refine SW 0 aZ ah ?_;refine P2 ?_;refine nx J48 (ai (ad (RU 0 [2] dP aZ (ah _) ?_)));exact⟨by simp[ia,fW, *],rfl⟩
theorem BX(x:Value)(l:List Int)(v:Int)(hl:l.length≤1000000):
    DT 179 #[x,(.int .i64 (v))] (IsI .i64 x l) [] (dG (λr' H=>∃n:Int,r'= .int .i64 n∧(decide (n≥0)=true↔v∈l)∧H=[])):=by
 refine BD 19 Tryz.func179 rfl rfl rfl λw0 F hF=>sr λ_ J1=>PS ?_
 refine nx J1 (aa λ_ J2=>sr λ_ J3=>PS ?_);refine tp (cY rfl jI rfl hF.len) ?_;refine PS ?_;refine nx J3 (aq ?_)
 refine bF (α:=(Nat)) (λk=>k≤l.length∧∀(j:Nat),j<k→l.getD j 0≠v) (λk=>[(0,x),(1,(.int .i64 (v))),(7,(.int .i64 (((l.length:Nat):Int)))),(8,(.int .i64 (((k:Nat):Int))))]) (λk=>[]) (λk=>l.length-k) 0
     ⟨aR _,λj h=>absurd h (by omega)⟩ SB
     (λ_ s=>s) (λk hinv=>?_)
 obtain⟨hk,hv⟩:=hinv;refine sr λ_ J4=>PS ?_
 refine ao ?_ ?_<;>intro h9;obtain⟨b_a,off_a,cap_a,cs_a,T_a,z_a,hv_a,hb_a,hcs_a,hcp_a⟩:=IsI.at hF (j:=k) (by omega);refine nx J4 (aa λ_ J5=>CY (qx J5 (aa λ_ J6=>aq (sr λ_ J7=>P2 ?_))));refine nx J7 (sr λ_ J8=>P3 ?_);refine tp (a8 (r:=off_a+k) hv_a rfl jI aM rfl rfl (by omega) (by omega) (by omega)) ?_;refine tp (bT (v:=(.int .i64 ((l.getD k 0)))) rfl Y3 rfl rfl (iL hb_a (λ_ h=>eP h)) hcs_a) ?_;refine PS ?_;refine ao ?_ ?_<;>intro h16;refine nx J8 (CY (sr λ_ J9=>P2 ?_));refine nx J9 (ai (aH (ad (ad (aH (ad (WK [] (ap rfl rfl ?_))))))));exact⟨((k:Nat):Int),rfl,by rw[decide_eq_true_iff];exact⟨λ_=>by rw[h16,List.getD_eq_getElem?_getD,List.getElem?_eq_getElem (by omega)];exact cL _,λ_=>by omega⟩,rfl⟩;refine nx J8 (CN (aS (ag (ac J6 (ae (AD ?_))))));refine PS ?_;refine au ?_
 exact aL ((k+1):(Nat)) ⟨by omega,λj hj=>by
        by_cases q:j=k
        · subst q;exact λe=>h16 e.symm
        · exact hv j (by omega)⟩ (by show l.length- (k+1)<l.length-k;omega)
   SB
   (λ_ s=>s)
 refine nx J4 (aa λ_ J10=>CN (bg (aF (aF (bD (ac J2 (sr λ_ J11=>PS ?_)))))));refine nx J11 (ai (WK [] (ap rfl rfl ?_)))
 exact⟨-1,rfl,by
      rw[decide_eq_true_iff];constructor
      · intro h;omega
      · intro h
        obtain⟨j,hj,e⟩:=eW h;have:=hv j (by omega);rw[List.getD_eq_getElem?_getD,List.getElem?_eq_getElem hj]at this
        exact absurd e this,rfl⟩
theorem pT(x:Value)(l:List Int)(v:Int)(hl:l.length≤1000000):
 DT 168 #[x,(.int .i64 (v))] (IsI .i64 x l) [] (RI (.bool (decide (v∈l))) []):=by
 refine BD 9 Tryz.func168 rfl rfl rfl λw0 F hF=>sr λ_ J1=>PS ?_
 refine nx J1 (sr λ_ J2=>P2 ?_);refine CQ Ke (BX x l v hl) ID (λ_ d _=>IsI.more hF d) λvR HR hR=>?_
 obtain⟨n,rfl,hn,rfl⟩:=hR;refine P2 ?_;refine nx J2 (ai (WK [] (ap rfl rfl ?_)));exact⟨congrArg Value.bool (by rw[Jg,hn,decide_eq_true_iff]),rfl⟩
end Go.Proofs.YtjblgopghhgflaaGreat
end

section
namespace Api
open Go Leg Codec
theorem zk{n:Int}(h:(Lit.int .i64 n).wf=true): -9223372036854775808≤n∧n<9223372036854775808:=by
 have m1:IntKind.i64.min= -9223372036854775808:=by decide
 have m2:IntKind.i64.max=9223372036854775807:=by decide
 simp only[Lit.wf,m1,m2,ax,decide_eq_true_eq]at h;omega
theorem qI{n:Int}{l:List Int}(h:0≤n∧n<9223372036854775808)(hl:WF l):WF (n::l):=λm hm=>by
 rcases cf.1 hm with rfl|hm
 · exact qH h
 · exact hl m hm
theorem ld{a b:List Int}(ha:WF a)(hb:WF b):WF (a++b):=λm hm=>by
 rcases cq.1 hm with hm|hm
 · exact ha m hm
 · exact hb m hm
theorem Fj:WF []:=λ_ h=>by cases h
theorem OkB.wf{b:BallotT}(h:OkB b):WF b.flat:=qI h.1 (qI ⟨h.2.1,by have:=h.2.2;omega⟩ Fj)
theorem OkC.wf{c:ChangeT}(h:OkC c):WF c.flat:=qI ⟨h.1.1,by have:=h.1.2;omega⟩ (qI ⟨h.2.1.1,by have:=h.2.1.2;omega⟩ (qI ⟨h.2.2.1,by have:=h.2.2.2;omega⟩ Fj))
theorem Ln:Nm 0:=⟨by decide,by decide⟩
theorem rB(m:MsgT):(dC m).length≤3000:=by
 have h1:=gP m.row;have h2:=aU m.ballot.flat;have h3:=aU m.had.flat;have h4:=aU m.change.flat;have h5:=aU m.view.flat;have h6:=aU [m.kind,m.whose];have h7:=aU [m.kind,m.version];have h8:=aU [m.kind,m.epoch];have h9:=aU [m.kind];simp only[BallotT.flat,ChangeT.flat,ViewT.flat,aw,az,ay]at h2 h3 h4 h5 h6 h7 h8 h9;unfold dC;split
 · simp only[af];omega
 split
 · omega
 split
 · simp only[af,BallotT.flat];omega
 split
 · simp only[af,BallotT.flat,ChangeT.flat];omega
 split
 · simp only[af,BallotT.flat,ChangeT.flat];omega
 split
 · simp only[af,ViewT.flat];omega
 split
 · simp only[af,ViewT.flat];omega
 · simp
theorem zW:gD RowT.zero=true:=by decide+kernel
theorem Hi{m:RecT}{bs r:List UInt8}(h:dd bs=some ((m,true),r)):gD m.row=true:=by
 obtain⟨k,r1,_,h⟩:=bw h;split at h
 · obtain⟨_,_,_,h⟩:=bw h
   obtain⟨e,_⟩:=gL h;injection e with e1 e2;subst e1;exact e2
 split at h
 · obtain⟨_,_,_,h⟩:=bw h
   obtain⟨_,_,_,h⟩:=bw h;obtain⟨e,_⟩:=gL h;injection e with e1 e2;subst e1;exact e2
 have fin: ∀{m':RecT} {g:Bool} {b r:List UInt8},pr (m',g) b=some ((m,true),r)→m'.row= .zero→gD m.row=true:=λh e=>by
  obtain⟨e',_⟩:=gL h;injection e' with e1 e2;subst e1;rw[e];exact zW
 split at h
 · obtain⟨_,_,_,h⟩:=bw h;exact fin h rfl
 split at h
 · obtain⟨_,_,_,h⟩:=bw h;obtain⟨_,_,_,h⟩:=bw h;exact fin h rfl
 split at h
 · obtain⟨_,_,_,h⟩:=bw h;obtain⟨_,_,_,h⟩:=bw h;obtain⟨_,_,_,h⟩:=bw h;exact fin h rfl
 split at h
 · obtain⟨_,_,_,h⟩:=bw h;exact fin h rfl
 · exact fin h rfl
theorem Gw(bs:List UInt8):(∃m,mO bs=(m,0)∧bs=jq m∧gD m.row=true∧WF m.row.flat)∨mO bs=(.zero,1):=by
 unfold mO;split
 · rename_i m h
   obtain⟨h1,_,_,_,h5⟩:=FL h;rw[aT]at h1;exact .inl ⟨m,rfl,h1,Hi h,h5.wf⟩
 · exact .inr rfl
open Dsk Wal
structure RcOk(m:RecT):Prop where
 dec:mO (jq m)=(m,0)
 wf:WF m.row.flat
 kind:m.kind≠3∧m.kind≠4
end Api
end

section
namespace Go.Proofs.YtjblgopghhgflaaGreat
open Go Leg Codec Api
theorem uU(ob:Nat)(ok:Bool):DoesD Tryz.prog 120 #[(.pointer (some ⟨ob,0,none⟩))] (.returning) (λ_=>True) [ak ob [(.bool (ok))] 4] (λe u' H=>e= .returned (.tuple #[])∧settle u'= .returning∧H=[ak ob [.bool ok] 4]):=by
 refine DoesD.recover2 (vs:=[(.pointer (some ⟨ob,0,none⟩))]) (n:=15) (u':= .returning) (rv:= .nilIface) Tryz.func120 rfl rfl rfl rfl rfl rfl rfl rfl rfl rfl rfl (λc0 cs hu=>by cases c0;simp only at hu;subst hu;rfl) (λw0 F c0 cs hF=>?_);refine aa (λK1 hK1=>?_);refine aa (λK2 hK2=>?_);refine ae ?_;refine kW (ab rfl) rfl rfl (jj rfl rfl) ?_;refine kW (ab rfl) rfl rfl (PV.nilNil rfl Tryz.underlying20 rfl) ?_;refine au ?_;refine ac hK2 ?_;clear hK2;refine mu rfl ?_;refine ai ?_;refine ad ?_;clear hK1;refine aD (dK _) (λ_ s=>aj [0] rfl s) ?_;refine TE.retS0 rfl ?_;refine⟨rfl,rfl,?_⟩;rfl
theorem yv(ob:Nat)(ok:Bool):DoesD Tryz.prog 120 #[(.pointer (some ⟨ob,0,none⟩))] (.panicking gO) (λ_=>True) [ak ob [(.bool (ok))] 4] (λe u' H=>e= .returned (.tuple #[])∧settle u'= .returning∧H=[ak ob [.bool false] 4]):=by
 refine DoesD.recover2 (vs:=[(.pointer (some ⟨ob,0,none⟩))]) (n:=15) (u':= .panicking [{v:=(.iface 199 (.agg #[])),recovered:=true}]) (rv:=(.iface 199 (.agg #[]))) Tryz.func120 rfl rfl rfl rfl rfl rfl rfl rfl rfl rfl rfl (λc0 cs hu=>by cases c0;simp only at hu;subst hu;rfl) (λw0 F c0 cs hF=>?_);refine aa (λK1 hK1=>?_);refine aa (λK2 hK2=>?_);refine ae ?_;refine kW (ab rfl) rfl rfl (jj rfl rfl) ?_;refine kW (ab rfl) rfl rfl (PV.ifaceNil rfl Tryz.underlying20 rfl) ?_;refine au ?_;refine ac hK2 ?_;clear hK2;refine Ds rfl ?_;refine aS ?_;refine ac hK1 ?_;clear hK1;refine aa (λK3 hK3=>?_);refine aa (λK4 hK4=>?_);refine ae ?_;refine kW (ab rfl) rfl rfl (jj rfl rfl) ?_;refine kW (ab rfl) rfl rfl (PV.assert rfl Fa rfl rfl) ?_;refine kW (ab rfl) rfl rfl (jj rfl rfl) ?_;refine kW (ab rfl) rfl rfl (kZ (vs:=[.agg #[], .bool true]) rfl rfl rfl) ?_;refine kW (ab rfl) rfl rfl (kZ (vs:=[.agg #[], .bool true]) rfl rfl rfl) ?_;refine pj (ab rfl) rfl rfl rfl Lp (λb2=>?_);change TL _ _ _ _ _ _ _ _ _ [ak b2 [] 199,ak ob [(.bool (ok))] 4];refine ci (vs:=[]) (i:=0) (H':=[ak b2 [] 199,ak ob [(.bool (ok))] 4]) (ab rfl) rfl rfl rfl rfl rfl Ju (by simp[Value.oneCell']) rfl rfl (Hy rfl) rfl rfl ?_;refine kW (ab rfl) rfl rfl (Mn rfl rfl) ?_;refine au ?_;refine ac hK4 ?_;clear hK4;refine aa (λK5 hK5=>?_);refine ae ?_;refine kW (ab rfl) rfl rfl (jj rfl rfl) ?_;refine kW (ab rfl) rfl rfl (nq (r:=false) rfl rfl rfl) ?_;refine au ?_
 refine ac hK5 ?_;clear hK5;refine Ds rfl ?_;refine aS ?_;refine ac hK3 ?_;clear hK3;refine ae ?_;refine bS (i:=1) (H':=[ak b2 [] 199,ak ob [(.bool false)] 4]) (ab rfl) rfl rfl rfl rfl rfl kd rfl rfl (lb rfl) rfl rfl ?_;refine au ?_;refine aD (dK _) (λ_ s=>aj [1] rfl s) ?_;refine TE.endS0 rfl ?_;refine⟨rfl,rfl,?_⟩;exact rfl
theorem Eb{fid:Nat}{caps:List Value}{x:Value}{bs:List UInt8}{C G:HP}{A:List UInt8→HP}{R:Hl→Prop}(hR: ∀F,R F→IsB x bs F)(hmono: ∀F g,R F→Dj g F→R (jn g F))(hN:Named Tryz.prog fid)
 (hc: ∀rb,DT fid ([Value.pointer (some ⟨rb,0,none⟩)]++caps).toArray R [ak rb [x] 197,C] (tF (λ_ H=>∃x' r,H=[ak rb [x'] 197,A r]∧Tail x bs x' r) (λc H=>c=gO∧∃x',H=[ak rb [x'] 197,G]))):
 DT 81 #[x, .func (.func fid) #[] caps.toArray] R [C] (dG (λv H=>(∃r,v= .bool (decide (r=[]))∧H=[A r])∨(v= .bool false∧H=[G]))):=by
 refine Leg.Does.bodyD (vs:=[x, .func (.func fid) #[] caps.toArray]) (n:=21) Tryz.func81 rfl rfl rfl (λw0 F hF=>sr λ_ J1=>XA z4 λb4=>?_);refine nx J1 (sr λ_ J2=>PS ?_);refine tp (PV.buildOne rfl za Lq rfl mK rfl (hR _ hF).one) ?_;refine XB λb8=>?_
 refine PS ?_;refine nx J2 (sr λ_ J3=>tp (Ml rfl rfl) ?_);refine TL.deferFn (ab rfl) rfl rfl rfl (nx J3 (aa λ_ J4=>sr λ_ J5=>PS ?_));refine tp (PV.funcNeqNil rfl Tryz.underlying141 rfl) ?_;refine nx J5 (CY (ae (P2 ?_)));refine TL.callPv (ab rfl) rfl rfl rfl rfl hN rfl (hc b8) (λ_ s=>aA [0,1] rfl s) (Je hmono hF) (λcP HP hP=>?_) (λvR HR hR'=>?_);obtain⟨rfl,x',rfl⟩:=hP;refine av ?_;intro a w fr sm m;refine qf (b:=b4) (e:=4) (A:=[ak b4 [(.bool false)] 4]) (B:=[ak b8 [x'] 197,G]) (H':=[G]) fr sm m (by simp) F7 (yv b4 _) (λ_ s=>aA [2] rfl s) (λ_ _ _=>trivial) rfl rfl Y4 rfl (λH1 h1=>?_);subst h1;refine⟨[.bool false], .bool false,eN 0 rfl rfl,rfl,λ_ s=>aj [2] rfl s,?_⟩;exact .inr ⟨rfl,rfl⟩;obtain⟨x',r,rfl,htl⟩:=hR';have hB:=htl F (hR _ hF);rcases hB with⟨rfl,rfl⟩| ⟨b,off,cap,cs,T,z,rfl,hB1,hB2,hB3,hB4⟩
 refine nx J4 (sr λ_ J6=>P2 ?_);refine FA 0 za mK ?_;refine LA 0 fq ?_;refine tp (rN rfl fq rfl) ?_;refine PS ?_;refine S0 2 kd ?_;refine nx J6 (ai ?_);intro a w fr sm m;refine qf (b:=b4) (e:=4) (A:=[ak b4 [(.bool true)] 4]) (B:=[ak b8 [(.slice none 0 0)] 197,(A [])]) (H':=[(A [])]) fr sm m (by simp) F7 (uU b4 _) (λ_ s=>aA [2] rfl s) (λ_ _ _=>trivial) rfl rfl Y4 rfl (λH1 h1=>?_);subst h1;refine⟨[.bool true], .bool true,eN 0 rfl rfl,rfl,λ_ s=>aj [2] rfl s,?_⟩;exact .inl ⟨[],rfl,rfl⟩;refine nx J4 (sr λ_ J7=>P2 ?_);refine FA 0 za mK ?_;refine LA 0 fq ?_;refine tp (rN rfl fq rfl) ?_;refine PS ?_;refine S0 2 kd ?_;refine nx J7 (ai ?_);intro a w fr sm m;refine qf (b:=b4) (e:=4) (A:=[ak b4 [(.bool (decide (((r.length:Nat):Int)=0)))] 4]) (B:=[ak b8 [(.slice (some ⟨b,off,none⟩) (r.length) (cap))] 197,(A r)]) (H':=[(A r)]) fr sm m (by simp) F7 (uU b4 _) (λ_ s=>aA [2] rfl s) (λ_ _ _=>trivial) rfl rfl Y4 rfl (λH1 h1=>?_);subst h1;refine⟨[.bool (decide (((r.length:Nat):Int)=0))], .bool (decide (((r.length:Nat):Int)=0)),eN 0 rfl rfl,rfl,λ_ s=>aj [2] rfl s,?_⟩;exact .inl ⟨r,by congr 1;rw[decide_eq_decide];cases r<;>simp<;>omega,rfl⟩
theorem xm{fid:Nat}{caps:List Value}{x:Value}{bs:List UInt8}{α β:Type}{C:List HP}{A:α→List HP}{G:β→List HP}{φ:α→List UInt8→Prop}{ψ:β→Prop}{R:Hl→Prop}(hR: ∀F,R F→IsB x bs F)(hmono: ∀F g,R F→Dj g F→R (jn g F))(hN:Named Tryz.prog fid)
 (hc: ∀rb,DT fid ([Value.pointer (some ⟨rb,0,none⟩)]++caps).toArray R (ak rb [x] 197::C) (tF (λ_ H=>∃x' r a,H=ak rb [x'] 197::A a∧Tail x bs x' r∧φ a r) (λc H=>c=gO∧∃x' b,H=ak rb [x'] 197::G b∧ψ b))):
 DT 81 #[x, .func (.func fid) #[] caps.toArray] R C (dG (λv H=>(∃r a,v= .bool (decide (r=[]))∧H=A a∧φ a r)∨(∃b,v= .bool false∧H=G b∧ψ b))):=by
 have h1:=Eb (C:=all C) (G:=λh=>∃b,ψ b∧bI (G b) h) (A:=λr h=>∃a,φ a r∧bI (A a) h) hR hmono hN λrb=>
  (hc rb).conv (post':=tF (λ_ H=>∃x' r,H=[ak rb [x'] 197,λh=>∃a,φ a r∧bI (A a) h]∧Tail x bs x' r) (λc H=>c=gO∧∃x',H=[ak rb [x'] 197,λh=>∃b,ψ b∧bI (G b) h]))
   (λh s=>uE s λ_=>HN)
   (λe H F w hp m=>by
    cases e with
    |returned v=>
     obtain⟨x',r,a,rfl,ht,hf⟩:=hp;exact⟨[ak rb [x'] 197,λh=>∃a,φ a r∧bI (A a) h],m.mono λh s=>uE s λh s=>p7 ⟨a,hf,s⟩,x',r,rfl,ht⟩
    |panicked c=>
     obtain⟨hc,x',b,rfl,hf⟩:=hp;exact⟨[ak rb [x'] 197,λh=>∃b,ψ b∧bI (G b) h],m.mono λh s=>uE s λh s=>p7 ⟨b,hf,s⟩,hc,x',rfl⟩
    |outgrown=>exact hp.elim)
 refine h1.conv (λh s=>Hb s) λe H F w hp m=>?_
 cases e with
 |returned v=>
  rcases hp with⟨r,hv,rfl⟩| ⟨hv,rfl⟩
  · obtain⟨h,d,e,g1,g2,d',rfl,⟨a,hf,s⟩,_⟩:=m
    exact⟨A a,⟨_,d,e,kJ _ s d'⟩, .inl ⟨r,a,hv,rfl,hf⟩⟩
  · obtain⟨h,d,e,g1,g2,d',rfl,⟨b,hf,s⟩,_⟩:=m
    exact⟨G b,⟨_,d,e,kJ _ s d'⟩, .inr ⟨b,hv,rfl,hf⟩⟩
 |panicked c=>exact hp.elim
 |outgrown=>exact hp.elim
theorem yu(rb:Nat)(v:Value)(bs:List UInt8):
 DT 142 #[(.pointer (some ⟨rb,0,none⟩))] (IsB v bs) [ak rb [v] 197] (mQ 197 gO (λmb:MsgT×Bool=> .tuple #[.agg (ints mb.1.flat).toArray, .bool mb.2]) cH v bs rb):=by
 refine BD 85 Tryz.func142 rfl rfl rfl λw0 F hF=>sr λ_ J1=>XZ lD (ints MsgT.zero.flat) λb2=>?_
 refine PS ?_;refine nx J1 (sr λ_ J2=>PS ?_);refine CP iC (cG rb v bs (10)) (SM [1]) (λ_ d _=>(hF).more d) (λcP HP hP=>?_) (λvR HR hR=>?_);obtain⟨vP,rfl,rfl,hpP⟩:=hP;refine av (WK [0] (aO ?_));exact⟨_,rfl,rfl,by simp[cH,bN hpP, *]⟩;obtain⟨a1,r1,v1,rfl,rfl,hp1,ht1⟩:=hR;have hf1:=ht1 _ hF;refine tp (kq MsgT.zero (MsgT.mk a1 0 RowT.zero 0 0 BallotT.zero BallotT.zero ChangeT.zero ViewT.zero) [(0,[Value.int .i64 a1])] aY bk (g:=MsgT.sg)) ?_;refine XZ lD (ints MsgT.zero.flat) λb4=>?_
 refine SW 0 bW aG ?_;refine nx J2 (aa λ_ J3=>sr λ_ J4=>FA 0 aY aM ?_);refine LT 0 Y3 (.int .i64 (a1)) ?_ (hc:=by exact eB _ rfl);refine nx J4 (aq (aa λ_ J5=>eH (α:=Unit) (λ_u=>True) (λ_u=>[(0,(.pointer (some ⟨rb,0,none⟩))),(2,(.pointer (some ⟨b2,0,none⟩))),(3,(.bool false)),(4,(.pointer (some ⟨b4,0,none⟩))),(9,(.int .i64 (a1))),(10,(.bool ((eU a1))))]) (λ_u=>[ak b4 (ints (MsgT.mk a1 0 RowT.zero 0 0 BallotT.zero BallotT.zero ChangeT.zero ViewT.zero).flat) 178,ak rb [v1] 197,ak b2 (ints MsgT.zero.flat) 178]) (λ_u hinv=>?_) (λtl5=>?_)));have _:=hinv;refine ac J5 (TC.cond rfl (λh10=>?_) (λh10=>?_));refine sr λ_ J6=>PS ?_
 refine CP iC (cG rb v1 r1 (5)) (SM [1]) (λ_ d _=>(hf1).more d) (λcP HP hP=>?_) (λvR HR hR=>?_);obtain⟨vP,rfl,rfl,hpP⟩:=hP;refine av (aK (av (WK [0] (aO ?_))));exact⟨_,rfl,rfl,by simp[cH,aC hp1,bN hpP,h10, *]⟩;obtain⟨a2,r2,v2,rfl,rfl,hp2,ht2⟩:=hR;have hf2:=ht2 _ hf1;refine FA 1 aY aM ?_;refine SS 1 aM (aG _) (MsgT.set_whose _ rfl _) ?_;refine nx J6 (sr λ_ J7=>PS ?_);refine CP F6 (sj rb v2 r2) ID (λ_ d _=>(hf2).more d) (λcP HP hP=>?_) (λvR HR hR=>?_);obtain⟨vP,rfl,rfl,hpP⟩:=hP;refine av (aK (av (WK [0] (aO ?_))));exact⟨_,rfl,rfl,by simp[cH,aC hp1,aC hp2,bN hpP,h10, *]⟩;obtain⟨a3,r3,v3,rfl,rfl,hp3,ht3⟩:=hR;have hf3:=ht3 _ hf2;refine FA 2 aY aZ ?_;refine SP 1 aZ ah aG MsgT.wp_row ?_;refine nx J7 (aa λ_ J8=>D1 1 bc ?_);refine LY 0 aY bW aG ?_;refine FD 1 2 aY aZ ?_;refine ta 2 rfl (aJ (vs:=ints a3.flat) rfl dP rfl aZ rfl (λ_ h=>h.2.1) (ah a3) (lu (MsgT.mk a1 a2 a3 0 0 BallotT.zero BallotT.zero ChangeT.zero ViewT.zero) 0 rfl (by decide) (bj (ah a3)))) ?_;refine AL 3 ?_;refine CE FX (jm a3 (yp hp3)) ID ?_;refine EN (AL 4 ?_);refine SW 2 bW aG ?_;refine EN (PD 5 ?_);refine DN (ac J8 (ai (aH (ad (RT 2 [0] aY bW (aG _) ?_)))));exact⟨((MsgT.mk a1 a2 a3 0 0 BallotT.zero BallotT.zero ChangeT.zero ViewT.zero),(gD a3)),_,_,rfl,rfl,by simp[cH,pr,aC hp1,aC hp2,aC hp3,h10,MsgT.zero,RecT.zero, *],(ht1.trans (ht2.trans ht3))⟩;refine sr λ_ J9=>PS ?_
 refine ao ?_ ?_<;>intro h25;refine PS ?_;refine nx J9 (CY (ae (PS ?_)));refine CP oU (iA rb v1 r1) (SM [1]) (λ_ d _=>(hf1).more d) (λcP HP hP=>?_) (λvR HR hR=>?_);obtain⟨vP,rfl,rfl,hpP⟩:=hP;refine aK (av (WK [0] (aO ?_)));exact⟨_,rfl,rfl,by simp[cH,eU,e4,aC hp1,bN hpP,h10,h25, *]⟩;obtain⟨a2,r2,v2,rfl,rfl,hp2,ht2⟩:=hR;have hf2:=ht2 _ hf1;refine FA 176 aY aM ?_;refine SS 1 aM (aG _) (MsgT.set_version _ rfl _) ?_;refine au (ag (ac J3 (sr λ_ J10=>LW 1 aY bW aG ?_)));refine SW 2 bW aG ?_;refine PS ?_;refine nx J10 (ai (RT 2 [0] aY bW (aG _) ?_));exact⟨((MsgT.mk a1 0 RowT.zero a2 0 BallotT.zero BallotT.zero ChangeT.zero ViewT.zero),true),_,_,rfl,rfl,by simp[cH,eU,e4,pr,aC hp1,aC hp2,h10,h25,MsgT.zero,RecT.zero, *],(ht1.trans ht2)⟩;refine PS ?_;refine nx J9 (CN (aa λ_ J11=>eH (α:=Unit) (λ_u=>True) (λ_u=>[(0,(.pointer (some ⟨rb,0,none⟩))),(2,(.pointer (some ⟨b2,0,none⟩))),(3,(.bool false)),(4,(.pointer (some ⟨b4,0,none⟩))),(9,(.int .i64 (a1))),(29,(.bool ((e4 a1))))]) (λ_u=>[ak b4 (ints (MsgT.mk a1 0 RowT.zero 0 0 BallotT.zero BallotT.zero ChangeT.zero ViewT.zero).flat) 178,ak rb [v1] 197,ak b2 (ints MsgT.zero.flat) 178]) (λ_u hinv=>?_) (λtl11=>?_)));have _:=hinv;refine ac J11 (TC.cond rfl (λh29=>?_) (λh29=>?_));refine sr λ_ J12=>PS ?_
 refine CP oU (iA rb v1 r1) (SM [1]) (λ_ d _=>(hf1).more d) (λcP HP hP=>?_) (λvR HR hR=>?_);obtain⟨vP,rfl,rfl,hpP⟩:=hP;refine av (aK (av (WK [0] (aO ?_))));exact⟨_,rfl,rfl,by simp[cH,aC hp1,bN hpP,h10,h25,h29, *]⟩;obtain⟨a2,r2,v2,rfl,rfl,hp2,ht2⟩:=hR;have hf2:=ht2 _ hf1;refine FA 177 aY aM ?_;refine SS 1 aM (aG _) (K6 _ rfl _) ?_;refine nx J12 (ae (PS ?_));refine CP xw (iU rb v2 r2) ID (λ_ d _=>(hf2).more d) (λcP HP hP=>?_) (λvR HR hR=>?_);obtain⟨vP,rfl,rfl,hpP⟩:=hP;refine aK (av (WK [0] (aO ?_)));exact⟨_,rfl,rfl,by simp[cH,aC hp1,aC hp2,bN hpP,h10,h25,h29, *]⟩;obtain⟨a3,r3,v3,rfl,rfl,hp3,ht3⟩:=hR;have hf3:=ht3 _ hf2;refine FA 178 aY cp ?_;refine SP 1 cp am aG K0 ?_;refine au (ag (ac J3 (sr λ_ J13=>LW 1 aY bW aG ?_)));refine SW 2 bW aG ?_;refine PS ?_;refine nx J13 (ai (RT 2 [0] aY bW (aG _) ?_));exact⟨((MsgT.mk a1 0 RowT.zero 0 a2 a3 BallotT.zero ChangeT.zero ViewT.zero),true),_,_,rfl,rfl,by simp[cH,pr,aC hp1,aC hp2,aC hp3,h10,h25,h29,MsgT.zero,RecT.zero, *],(ht1.trans (ht2.trans ht3))⟩;refine sr λ_ J14=>PS ?_
 refine ao ?_ ?_<;>intro h39;refine PS ?_;refine nx J14 (CY (sr λ_ J15=>PS ?_));refine CP oU (iA rb v1 r1) (SM [1]) (λ_ d _=>(hf1).more d) (λcP HP hP=>?_) (λvR HR hR=>?_);obtain⟨vP,rfl,rfl,hpP⟩:=hP;refine av (aK (av (WK [0] (aO ?_))));exact⟨_,rfl,rfl,by simp[cH,eU,e4,aC hp1,bN hpP,h10,h25,h29,h39, *]⟩;obtain⟨a2,r2,v2,rfl,rfl,hp2,ht2⟩:=hR;have hf2:=ht2 _ hf1;refine FA 177 aY aM ?_;refine SS 1 aM (aG _) (K6 _ rfl _) ?_;refine nx J15 (sr λ_ J16=>PS ?_);refine CP xw (iU rb v2 r2) ID (λ_ d _=>(hf2).more d) (λcP HP hP=>?_) (λvR HR hR=>?_);obtain⟨vP,rfl,rfl,hpP⟩:=hP;refine av (aK (av (WK [0] (aO ?_))));exact⟨_,rfl,rfl,by simp[cH,eU,e4,aC hp1,aC hp2,bN hpP,h10,h25,h29,h39, *]⟩;obtain⟨a3,r3,v3,rfl,rfl,hp3,ht3⟩:=hR;have hf3:=ht3 _ hf2;refine FA 178 aY cp ?_;refine SP 1 cp am aG K0 ?_;refine nx J16 (sr λ_ J17=>PS ?_);refine CP xw (iU rb v3 r3) ID (λ_ d _=>(hf3).more d) (λcP HP hP=>?_) (λvR HR hR=>?_);obtain⟨vP,rfl,rfl,hpP⟩:=hP;refine av (aK (av (WK [0] (aO ?_))));exact⟨_,rfl,rfl,by simp[cH,eU,e4,aC hp1,aC hp2,aC hp3,bN hpP,h10,h25,h29,h39, *]⟩;obtain⟨a4,r4,v4,rfl,rfl,hp4,ht4⟩:=hR;have hf4:=ht4 _ hf3;refine FA 180 aY cp ?_;refine SP 1 cp am aG MsgT.wp_had ?_;refine nx J17 (ae (PS ?_));refine CP F5 (nK rb v4 r4) ID (λ_ d _=>(hf4).more d) (λcP HP hP=>?_) (λvR HR hR=>?_);obtain⟨vP,rfl,rfl,hpP⟩:=hP
 refine aK (av (WK [0] (aO ?_)));exact⟨_,rfl,rfl,by simp[cH,eU,e4,aC hp1,aC hp2,aC hp3,aC hp4,bN hpP,h10,h25,h29,h39, *]⟩;obtain⟨a5,r5,v5,rfl,rfl,hp5,ht5⟩:=hR;have hf5:=ht5 _ hf4;refine FA 182 aY e9 ?_;refine SP 1 e9 aI aG KZ ?_;refine au (ag (ac J3 (sr λ_ J18=>LW 1 aY bW aG ?_)));refine SW 2 bW aG ?_;refine PS ?_;refine nx J18 (ai (RT 2 [0] aY bW (aG _) ?_));exact⟨((MsgT.mk a1 0 RowT.zero 0 a2 a3 a4 a5 ViewT.zero),true),_,_,rfl,rfl,by simp[cH,eU,e4,pr,aC hp1,aC hp2,aC hp3,aC hp4,aC hp5,h10,h25,h29,h39,MsgT.zero,RecT.zero, *],(ht1.trans (ht2.trans (ht3.trans (ht4.trans ht5))))⟩;refine PS ?_;refine nx J14 (CN (sr λ_ J19=>PS ?_));refine ao ?_ ?_<;>intro h53;refine PS ?_;refine nx J19 (CY (sr λ_ J20=>PS ?_));refine CP oU (iA rb v1 r1) (SM [1]) (λ_ d _=>(hf1).more d) (λcP HP hP=>?_) (λvR HR hR=>?_);obtain⟨vP,rfl,rfl,hpP⟩:=hP;refine av (aK (av (WK [0] (aO ?_))));exact⟨_,rfl,rfl,by simp[cH,eU,e4,aC hp1,bN hpP,h10,h25,h29,h39,h53, *]⟩;obtain⟨a2,r2,v2,rfl,rfl,hp2,ht2⟩:=hR;have hf2:=ht2 _ hf1;refine FA 177 aY aM ?_;refine SS 1 aM (aG _) (K6 _ rfl _) ?_;refine nx J20 (sr λ_ J21=>PS ?_);refine CP xw (iU rb v2 r2) ID (λ_ d _=>(hf2).more d) (λcP HP hP=>?_) (λvR HR hR=>?_);obtain⟨vP,rfl,rfl,hpP⟩:=hP;refine av (aK (av (WK [0] (aO ?_))));exact⟨_,rfl,rfl,by simp[cH,eU,e4,aC hp1,aC hp2,bN hpP,h10,h25,h29,h39,h53, *]⟩
 obtain⟨a3,r3,v3,rfl,rfl,hp3,ht3⟩:=hR;have hf3:=ht3 _ hf2;refine FA 178 aY cp ?_;refine SP 1 cp am aG K0 ?_;refine nx J21 (ae (PS ?_));refine CP F5 (nK rb v3 r3) ID (λ_ d _=>(hf3).more d) (λcP HP hP=>?_) (λvR HR hR=>?_);obtain⟨vP,rfl,rfl,hpP⟩:=hP;refine aK (av (WK [0] (aO ?_)));exact⟨_,rfl,rfl,by simp[cH,eU,e4,aC hp1,aC hp2,aC hp3,bN hpP,h10,h25,h29,h39,h53, *]⟩;obtain⟨a4,r4,v4,rfl,rfl,hp4,ht4⟩:=hR;have hf4:=ht4 _ hf3;refine FA 182 aY e9 ?_;refine SP 1 e9 aI aG KZ ?_;refine au (ag (ac J3 (sr λ_ J22=>LW 1 aY bW aG ?_)));refine SW 2 bW aG ?_;refine PS ?_;refine nx J22 (ai (RT 2 [0] aY bW (aG _) ?_));exact⟨((MsgT.mk a1 0 RowT.zero 0 a2 a3 BallotT.zero a4 ViewT.zero),true),_,_,rfl,rfl,by simp[cH,eU,e4,pr,aC hp1,aC hp2,aC hp3,aC hp4,h10,h25,h29,h39,h53,MsgT.zero,RecT.zero, *],(ht1.trans (ht2.trans (ht3.trans ht4)))⟩;refine PS ?_;refine nx J19 (CN (sr λ_ J23=>PS ?_));refine ao ?_ ?_<;>intro h64;refine PS ?_;refine nx J23 (CY (sr λ_ J24=>PS ?_));refine CP F4 (p8 rb v1 r1) (SM [1]) (λ_ d _=>(hf1).more d) (λcP HP hP=>?_) (λvR HR hR=>?_);obtain⟨vP,rfl,rfl,hpP⟩:=hP;refine av (aK (av (WK [0] (aO ?_))));exact⟨_,rfl,rfl,by simp[cH,eU,e4,aC hp1,bN hpP,h10,h25,h29,h39,h53,h64, *]⟩;obtain⟨a2,r2,v2,rfl,rfl,hp2,ht2⟩:=hR;have hf2:=ht2 _ hf1;refine FA 185 aY bf ?_;refine SP 1 bf an aG MsgT.wp_view ?_;refine nx J24 (aa λ_ J25=>D1 1 bc ?_)
 refine LY 0 aY bW aG ?_;refine FD 1 185 aY bf ?_;refine ta 2 rfl (aJ (vs:=ints a2.flat) rfl eF rfl bf rfl (λ_ h=>h.2.1) (an a2) (tH (MsgT.mk a1 0 RowT.zero 0 0 BallotT.zero BallotT.zero ChangeT.zero a2) 0 rfl (by decide) (bj (an a2)))) ?_;refine AL 3 ?_;refine CE IV (lT a2 (qM hp2)) ID ?_;refine EN (AL 4 ?_);refine SW 2 bW aG ?_;refine EN (PD 5 ?_);refine DN (ac J25 (ai (aH (ad (RT 2 [0] aY bW (aG _) ?_)))));exact⟨((MsgT.mk a1 0 RowT.zero 0 0 BallotT.zero BallotT.zero ChangeT.zero a2),(jX a2)),_,_,rfl,rfl,by simp[cH,eU,e4,pr,aC hp1,aC hp2,h10,h25,h29,h39,h53,h64,MsgT.zero,RecT.zero, *],(ht1.trans ht2)⟩;refine PS ?_;refine nx J23 (CN (sr λ_ J26=>PS ?_));refine ao ?_ ?_<;>intro h73;refine PS ?_;refine nx J26 (CY (sr λ_ J27=>PS ?_));refine CP iC (cG rb v1 r1 (5)) (SM [1]) (λ_ d _=>(hf1).more d) (λcP HP hP=>?_) (λvR HR hR=>?_);obtain⟨vP,rfl,rfl,hpP⟩:=hP;refine av (aK (av (WK [0] (aO ?_))));exact⟨_,rfl,rfl,by simp[cH,eU,e4,aC hp1,bN hpP,h10,h25,h29,h39,h53,h64,h73, *]⟩;obtain⟨a2,r2,v2,rfl,rfl,hp2,ht2⟩:=hR;have hf2:=ht2 _ hf1;refine FA 1 aY aM ?_;refine SS 1 aM (aG _) (MsgT.set_whose _ rfl _) ?_;refine nx J27 (sr λ_ J28=>PS ?_);refine CP F4 (p8 rb v2 r2) ID (λ_ d _=>(hf2).more d) (λcP HP hP=>?_) (λvR HR hR=>?_);obtain⟨vP,rfl,rfl,hpP⟩:=hP;refine av (aK (av (WK [0] (aO ?_))))
 exact⟨_,rfl,rfl,by simp[cH,eU,e4,aC hp1,aC hp2,bN hpP,h10,h25,h29,h39,h53,h64,h73, *]⟩;obtain⟨a3,r3,v3,rfl,rfl,hp3,ht3⟩:=hR;have hf3:=ht3 _ hf2;refine FA 185 aY bf ?_;refine SP 1 bf an aG MsgT.wp_view ?_;refine nx J28 (aa λ_ J29=>D1 1 bc ?_);refine LY 0 aY bW aG ?_;refine FD 1 185 aY bf ?_;refine ta 2 rfl (aJ (vs:=ints a3.flat) rfl eF rfl bf rfl (λ_ h=>h.2.1) (an a3) (tH (MsgT.mk a1 a2 RowT.zero 0 0 BallotT.zero BallotT.zero ChangeT.zero a3) 0 rfl (by decide) (bj (an a3)))) ?_;refine AL 3 ?_;refine CE IV (lT a3 (qM hp3)) ID ?_;refine EN (AL 4 ?_);refine SW 2 bW aG ?_;refine EN (PD 5 ?_);refine DN (ac J29 (ai (aH (ad (RT 2 [0] aY bW (aG _) ?_)))));exact⟨((MsgT.mk a1 a2 RowT.zero 0 0 BallotT.zero BallotT.zero ChangeT.zero a3),(jX a3)),_,_,rfl,rfl,by simp[cH,eU,e4,pr,aC hp1,aC hp2,aC hp3,h10,h25,h29,h39,h53,h64,h73,MsgT.zero,RecT.zero, *],(ht1.trans (ht2.trans ht3))⟩;refine PS ?_;refine nx J26 (CN (aS (ag (ac J3 (sr λ_ J30=>LW 0 aY bW aG ?_)))));refine SW 2 bW aG ?_;refine PS ?_;refine nx J30 (ai (RT 2 [1] aY bW (aG _) ?_));exact⟨((MsgT.mk a1 0 RowT.zero 0 0 BallotT.zero BallotT.zero ChangeT.zero ViewT.zero),true),_,_,rfl,rfl,by simp[cH,pr,aC hp1,h10,h25,h29,h39,h53,h64,h73,MsgT.zero,RecT.zero, *],ht1⟩;refine sr λ_ J31=>P2 ?_
 refine ao ?_ ?_<;>intro h29;refine nx J31 (CY (aS ?_))
 exact aD
  (aQ (aQ (aQ (aQ (aQ (bo rfl (by simp[e4, *]) SB))))))
  (λ_ s=>s)
  (tl11 (():Unit) trivial)
 refine nx J31 (CN (ae (PS ?_)));refine ao ?_ ?_<;>intro h31;refine PS ?_;refine au ?_
 exact aD
  (aQ (aQ (aQ (aQ (aQ (bo rfl (by simp[e4, *]) SB))))))
  (λ_ s=>s)
  (tl11 (():Unit) trivial)
 refine PS ?_;refine au ?_
 exact aD
  (aQ (aQ (aQ (aQ (aQ (bo rfl (by simp[e4, *]) SB))))))
  (λ_ s=>s)
  (tl11 (():Unit) trivial)
 refine sr λ_ J32=>P2 ?_
 refine ao ?_ ?_<;>intro h10;refine nx J32 (CY (aS ?_))
 exact aD
  (aQ (aQ (aQ (aQ (aQ (bo rfl (by simp[eU, *]) SB))))))
  (λ_ s=>s)
  (tl5 (():Unit) trivial)
 refine nx J32 (CN (sr λ_ J33=>P2 ?_));refine ao ?_ ?_<;>intro h10;refine nx J33 (CY (aS ?_))
 exact aD
  (aQ (aQ (aQ (aQ (aQ (bo rfl (by simp[eU, *]) SB))))))
  (λ_ s=>s)
  (tl5 (():Unit) trivial)
 refine nx J33 (CN (ae (PS ?_)));refine ao ?_ ?_<;>intro h13;refine PS ?_;refine au ?_
 exact aD
  (aQ (aQ (aQ (aQ (aQ (bo rfl (by simp[eU, *]) SB))))))
  (λ_ s=>s)
  (tl5 (():Unit) trivial)
 refine PS ?_;refine au ?_
 exact aD
  (aQ (aQ (aQ (aQ (aQ (bo rfl (by simp[eU, *]) SB))))))
  (λ_ s=>s)
  (tl5 (():Unit) trivial)
theorem yt(rb:Nat)(v:Value)(bs:List UInt8):
 DT 83 #[(.pointer (some ⟨rb,0,none⟩))] (IsB v bs) [ak rb [v] 197] (mQ 197 gO (λmb:RecT×Bool=> .tuple #[.agg (ints mb.1.flat).toArray, .bool mb.2]) dd v bs rb):=by
 refine BD 65 Tryz.func83 rfl rfl rfl λw0 F hF=>sr λ_ J1=>XZ Jn (ints RecT.zero.flat) λb2=>?_
 refine PS ?_;refine nx J1 (sr λ_ J2=>PS ?_);refine CP iC (cG rb v bs (6)) (SM [1]) (λ_ d _=>(hF).more d) (λcP HP hP=>?_) (λvR HR hR=>?_);obtain⟨vP,rfl,rfl,hpP⟩:=hP;refine av (WK [0] (aO ?_));exact⟨_,rfl,rfl,by simp[dd,eU,e4,bN hpP, *]⟩;obtain⟨a1,r1,v1,rfl,rfl,hp1,ht1⟩:=hR;have hf1:=ht1 _ hF;refine tp (kq RecT.zero (RecT.mk a1 0 RowT.zero 0 BallotT.zero ChangeT.zero ViewT.zero) [(0,[Value.int .i64 a1])] io eL (g:=RecT.sg)) ?_;refine XZ Jn (ints RecT.zero.flat) λb4=>?_
 refine SW 0 iw bi ?_;refine nx J2 (aa λ_ J3=>sr λ_ J4=>FA 0 io aM ?_);refine LT 0 Y3 (.int .i64 (a1)) ?_ (hc:=by exact jP _ rfl);refine nx J4 (aq (sr λ_ J5=>PS ?_));refine ao ?_ ?_<;>intro h11;refine PS ?_;refine nx J5 (CY (sr λ_ J6=>PS ?_));refine CP F6 (sj rb v1 r1) (SM [1]) (λ_ d _=>(hf1).more d) (λcP HP hP=>?_) (λvR HR hR=>?_);obtain⟨vP,rfl,rfl,hpP⟩:=hP;refine av (aK (av (WK [0] (aO ?_))));exact⟨_,rfl,rfl,by simp[dd,eU,e4,aC hp1,bN hpP,h11, *]⟩;obtain⟨a2,r2,v2,rfl,rfl,hp2,ht2⟩:=hR;have hf2:=ht2 _ hf1;refine FA 2 io aZ ?_;refine SP 1 aZ ah bi RecT.wp_row ?_;refine nx J6 (aa λ_ J7=>D1 1 bc ?_);refine LY 0 io iw bi ?_;refine FD 1 2 io aZ ?_;refine ta 2 rfl (aJ (vs:=ints a2.flat) rfl dP rfl aZ rfl (λ_ h=>h.2.1) (ah a2) (qz (RecT.mk a1 0 a2 0 BallotT.zero ChangeT.zero ViewT.zero) 0 rfl (by decide) (bj (ah a2)))) ?_;refine AL 3 ?_;refine CE FX (jm a2 (yp hp2)) ID ?_;refine EN (AL 4 ?_);refine SW 2 iw bi ?_;refine EN (PD 5 ?_);refine DN (ac J7 (ai (aH (ad (RT 2 [0] io iw (bi _) ?_)))));exact⟨((RecT.mk a1 0 a2 0 BallotT.zero ChangeT.zero ViewT.zero),(gD a2)),_,_,rfl,rfl,by simp[dd,eU,e4,pr,aC hp1,aC hp2,h11,MsgT.zero,RecT.zero, *],(ht1.trans ht2)⟩;refine PS ?_;refine nx J5 (CN (sr λ_ J8=>PS ?_));refine ao ?_ ?_<;>intro h20;refine PS ?_;refine nx J8 (CY (sr λ_ J9=>PS ?_))
 refine CP iC (cG rb v1 r1 (5)) (SM [1]) (λ_ d _=>(hf1).more d) (λcP HP hP=>?_) (λvR HR hR=>?_);obtain⟨vP,rfl,rfl,hpP⟩:=hP;refine av (aK (av (WK [0] (aO ?_))));exact⟨_,rfl,rfl,by simp[dd,eU,e4,aC hp1,bN hpP,h11,h20, *]⟩;obtain⟨a2,r2,v2,rfl,rfl,hp2,ht2⟩:=hR;have hf2:=ht2 _ hf1;refine FA 1 io aM ?_;refine SS 1 aM (bi _) (RecT.set_whose _ rfl _) ?_;refine nx J9 (sr λ_ J10=>PS ?_);refine CP F6 (sj rb v2 r2) ID (λ_ d _=>(hf2).more d) (λcP HP hP=>?_) (λvR HR hR=>?_);obtain⟨vP,rfl,rfl,hpP⟩:=hP;refine av (aK (av (WK [0] (aO ?_))));exact⟨_,rfl,rfl,by simp[dd,eU,e4,aC hp1,aC hp2,bN hpP,h11,h20, *]⟩;obtain⟨a3,r3,v3,rfl,rfl,hp3,ht3⟩:=hR;have hf3:=ht3 _ hf2;refine FA 2 io aZ ?_;refine SP 1 aZ ah bi RecT.wp_row ?_;refine nx J10 (aa λ_ J11=>D1 1 bc ?_);refine LY 0 io iw bi ?_;refine FD 1 2 io aZ ?_;refine ta 2 rfl (aJ (vs:=ints a3.flat) rfl dP rfl aZ rfl (λ_ h=>h.2.1) (ah a3) (qz (RecT.mk a1 a2 a3 0 BallotT.zero ChangeT.zero ViewT.zero) 0 rfl (by decide) (bj (ah a3)))) ?_;refine AL 3 ?_;refine CE FX (jm a3 (yp hp3)) ID ?_;refine EN (AL 4 ?_);refine SW 2 iw bi ?_;refine EN (PD 5 ?_);refine DN (ac J11 (ai (aH (ad (RT 2 [0] io iw (bi _) ?_)))));exact⟨((RecT.mk a1 a2 a3 0 BallotT.zero ChangeT.zero ViewT.zero),(gD a3)),_,_,rfl,rfl,by simp[dd,eU,e4,pr,aC hp1,aC hp2,aC hp3,h11,h20,MsgT.zero,RecT.zero, *],(ht1.trans (ht2.trans ht3))⟩;refine PS ?_
 refine nx J8 (CN (sr λ_ J12=>PS ?_));refine ao ?_ ?_<;>intro h32;refine PS ?_;refine nx J12 (CY (ae (PS ?_)));refine CP iC (cG rb v1 r1 (5)) (SM [1]) (λ_ d _=>(hf1).more d) (λcP HP hP=>?_) (λvR HR hR=>?_);obtain⟨vP,rfl,rfl,hpP⟩:=hP;refine aK (av (WK [0] (aO ?_)));exact⟨_,rfl,rfl,by simp[dd,eU,e4,aC hp1,bN hpP,h11,h20,h32, *]⟩;obtain⟨a2,r2,v2,rfl,rfl,hp2,ht2⟩:=hR;have hf2:=ht2 _ hf1;refine FA 1 io aM ?_;refine SS 1 aM (bi _) (RecT.set_whose _ rfl _) ?_;refine au (ag (ac J3 (sr λ_ J13=>LW 1 io iw bi ?_)));refine SW 2 iw bi ?_;refine PS ?_;refine nx J13 (ai (RT 2 [0] io iw (bi _) ?_));exact⟨((RecT.mk a1 a2 RowT.zero 0 BallotT.zero ChangeT.zero ViewT.zero),true),_,_,rfl,rfl,by simp[dd,eU,e4,pr,aC hp1,aC hp2,h11,h20,h32,MsgT.zero,RecT.zero, *],(ht1.trans ht2)⟩;refine PS ?_;refine nx J12 (CN (sr λ_ J14=>PS ?_));refine ao ?_ ?_<;>intro h37;refine PS ?_;refine nx J14 (CY (sr λ_ J15=>PS ?_));refine CP oU (iA rb v1 r1) (SM [1]) (λ_ d _=>(hf1).more d) (λcP HP hP=>?_) (λvR HR hR=>?_);obtain⟨vP,rfl,rfl,hpP⟩:=hP;refine av (aK (av (WK [0] (aO ?_))));exact⟨_,rfl,rfl,by simp[dd,eU,e4,aC hp1,bN hpP,h11,h20,h32,h37, *]⟩;obtain⟨a2,r2,v2,rfl,rfl,hp2,ht2⟩:=hR;have hf2:=ht2 _ hf1;refine FA 176 io aM ?_;refine SS 1 aM (bi _) (RecT.set_epoch _ rfl _) ?_;refine nx J15 (ae (PS ?_))
 refine CP xw (iU rb v2 r2) ID (λ_ d _=>(hf2).more d) (λcP HP hP=>?_) (λvR HR hR=>?_);obtain⟨vP,rfl,rfl,hpP⟩:=hP;refine aK (av (WK [0] (aO ?_)));exact⟨_,rfl,rfl,by simp[dd,eU,e4,aC hp1,aC hp2,bN hpP,h11,h20,h32,h37, *]⟩;obtain⟨a3,r3,v3,rfl,rfl,hp3,ht3⟩:=hR;have hf3:=ht3 _ hf2;refine FA 177 io cp ?_;refine SP 1 cp am bi RecT.wp_ballot ?_;refine au (ag (ac J3 (sr λ_ J16=>LW 1 io iw bi ?_)));refine SW 2 iw bi ?_;refine PS ?_;refine nx J16 (ai (RT 2 [0] io iw (bi _) ?_));exact⟨((RecT.mk a1 0 RowT.zero a2 a3 ChangeT.zero ViewT.zero),true),_,_,rfl,rfl,by simp[dd,eU,e4,pr,aC hp1,aC hp2,aC hp3,h11,h20,h32,h37,MsgT.zero,RecT.zero, *],(ht1.trans (ht2.trans ht3))⟩;refine PS ?_;refine nx J14 (CN (sr λ_ J17=>PS ?_));refine ao ?_ ?_<;>intro h45;refine PS ?_;refine nx J17 (CY (sr λ_ J18=>PS ?_));refine CP oU (iA rb v1 r1) (SM [1]) (λ_ d _=>(hf1).more d) (λcP HP hP=>?_) (λvR HR hR=>?_);obtain⟨vP,rfl,rfl,hpP⟩:=hP;refine av (aK (av (WK [0] (aO ?_))));exact⟨_,rfl,rfl,by simp[dd,eU,e4,aC hp1,bN hpP,h11,h20,h32,h37,h45, *]⟩;obtain⟨a2,r2,v2,rfl,rfl,hp2,ht2⟩:=hR;have hf2:=ht2 _ hf1;refine FA 176 io aM ?_;refine SS 1 aM (bi _) (RecT.set_epoch _ rfl _) ?_;refine nx J18 (sr λ_ J19=>PS ?_);refine CP xw (iU rb v2 r2) ID (λ_ d _=>(hf2).more d) (λcP HP hP=>?_) (λvR HR hR=>?_);obtain⟨vP,rfl,rfl,hpP⟩:=hP;refine av (aK (av (WK [0] (aO ?_))))
 exact⟨_,rfl,rfl,by simp[dd,eU,e4,aC hp1,aC hp2,bN hpP,h11,h20,h32,h37,h45, *]⟩;obtain⟨a3,r3,v3,rfl,rfl,hp3,ht3⟩:=hR;have hf3:=ht3 _ hf2;refine FA 177 io cp ?_;refine SP 1 cp am bi RecT.wp_ballot ?_;refine nx J19 (ae (PS ?_));refine CP F5 (nK rb v3 r3) ID (λ_ d _=>(hf3).more d) (λcP HP hP=>?_) (λvR HR hR=>?_);obtain⟨vP,rfl,rfl,hpP⟩:=hP;refine aK (av (WK [0] (aO ?_)));exact⟨_,rfl,rfl,by simp[dd,eU,e4,aC hp1,aC hp2,aC hp3,bN hpP,h11,h20,h32,h37,h45, *]⟩;obtain⟨a4,r4,v4,rfl,rfl,hp4,ht4⟩:=hR;have hf4:=ht4 _ hf3;refine FA 179 io e9 ?_;refine SP 1 e9 aI bi RecT.wp_change ?_;refine au (ag (ac J3 (sr λ_ J20=>LW 1 io iw bi ?_)));refine SW 2 iw bi ?_;refine PS ?_;refine nx J20 (ai (RT 2 [0] io iw (bi _) ?_));exact⟨((RecT.mk a1 0 RowT.zero a2 a3 a4 ViewT.zero),true),_,_,rfl,rfl,by simp[dd,eU,e4,pr,aC hp1,aC hp2,aC hp3,aC hp4,h11,h20,h32,h37,h45,MsgT.zero,RecT.zero, *],(ht1.trans (ht2.trans (ht3.trans ht4)))⟩;refine PS ?_;refine nx J17 (CN (sr λ_ J21=>PS ?_));refine ao ?_ ?_<;>intro h56;refine PS ?_;refine nx J21 (CY (sr λ_ J22=>PS ?_));refine CP F4 (p8 rb v1 r1) (SM [1]) (λ_ d _=>(hf1).more d) (λcP HP hP=>?_) (λvR HR hR=>?_);obtain⟨vP,rfl,rfl,hpP⟩:=hP;refine av (aK (av (WK [0] (aO ?_))));exact⟨_,rfl,rfl,by simp[dd,eU,e4,aC hp1,bN hpP,h11,h20,h32,h37,h45,h56, *]⟩;obtain⟨a2,r2,v2,rfl,rfl,hp2,ht2⟩:=hR;have hf2:=ht2 _ hf1
 refine FA 182 io bf ?_;refine SP 1 bf an bi RecT.wp_view ?_;refine nx J22 (aa λ_ J23=>D1 1 bc ?_);refine LY 0 io iw bi ?_;refine FD 1 182 io bf ?_;refine ta 2 rfl (aJ (vs:=ints a2.flat) rfl eF rfl bf rfl (λ_ h=>h.2.1) (an a2) (Mg (RecT.mk a1 0 RowT.zero 0 BallotT.zero ChangeT.zero a2) 0 rfl (by decide) (bj (an a2)))) ?_;refine AL 3 ?_;refine CE IV (lT a2 (qM hp2)) ID ?_;refine EN (AL 4 ?_);refine SW 2 iw bi ?_;refine EN (PD 5 ?_);refine DN (ac J23 (ai (aH (ad (RT 2 [0] io iw (bi _) ?_)))));exact⟨((RecT.mk a1 0 RowT.zero 0 BallotT.zero ChangeT.zero a2),(jX a2)),_,_,rfl,rfl,by simp[dd,eU,e4,pr,aC hp1,aC hp2,h11,h20,h32,h37,h45,h56,MsgT.zero,RecT.zero, *],(ht1.trans ht2)⟩;refine PS ?_;refine nx J21 (CN (aS (ag (ac J3 (sr λ_ J24=>LW 0 io iw bi ?_)))));refine SW 2 iw bi ?_;refine PS ?_;refine nx J24 (ai (RT 2 [1] io iw (bi _) ?_));exact⟨((RecT.mk a1 0 RowT.zero 0 BallotT.zero ChangeT.zero ViewT.zero),true),_,_,rfl,rfl,by simp[dd,eU,e4,pr,aC hp1,h11,h20,h32,h37,h45,h56,MsgT.zero,RecT.zero, *],ht1⟩
theorem BP(rb mb gb:Nat)(v:Value)(bs:List UInt8)(m0:MsgT)(g0:Bool):
 DT 141 #[(.pointer (some ⟨rb,0,none⟩)),(.pointer (some ⟨mb,0,none⟩)),(.pointer (some ⟨gb,0,none⟩))] (IsB v bs) [ak rb [v] 197,ak mb (ints m0.flat) 178,ak gb [(.bool (g0))] 4] (tF (λ_ H=>∃x' r a,H=ak rb [x'] 197::[ak mb (ints a.1.flat) 178,ak gb [.bool a.2] 4]∧Tail v bs x' r∧cH bs=some (a,r)) (λc H=>c=gO∧∃(x':Value) (_:Unit),H=ak rb [x'] 197::[ak mb (ints m0.flat) 178,ak gb [.bool g0] 4]∧cH bs=none)):=by
 refine BD 9 Tryz.func141 rfl rfl rfl λw0 F hF=>ae (PS ?_)
 refine CP Kx (yu rb v bs) ID (λ_ d _=>(hF).more d) (λcP HP hP=>?_) (λvR HR hR=>?_);obtain⟨vP,rfl,rfl,hpP⟩:=hP;exact WK [0,0,0] (aO ⟨rfl,_,(),rfl,hpP⟩);obtain⟨a1,r1,v1,rfl,rfl,hp1,ht1⟩:=hR;refine P3 ?_;refine SW 1 bW aG ?_;refine S0 2 kd ?_;exact au (WK [0,0,0] (bu rfl ⟨_,_,_,rfl,ht1,hp1⟩))
theorem AM(x:Value)(bs:List UInt8):
 DT 104 #[x] (IsB x bs) [] (RI (.tuple #[.agg (ints (ik bs).1.flat).toArray, .int .i64 (ik bs).2]) []):=by
 refine Leg.Does.body (vs:=[x]) (n:=18) Tryz.func104 rfl rfl rfl (λw0 F hF=>?_);refine sr λ_ J1=>?_
 refine pj (ab rfl) rfl rfl rfl lD (λb2=>?_);change TL _ _ _ _ _ _ _ _ _ [ak b2 (ints MsgT.zero.flat) 178];refine ot ?_;refine nx J1 ?_;clear J1;refine sr λ_ J2=>?_
 refine pj (ab rfl) rfl rfl rfl lD (λb4=>?_);change TL _ _ _ _ _ _ _ _ _ [ak b4 (ints MsgT.zero.flat) 178,ak b2 (ints MsgT.zero.flat) 178];refine nx J2 ?_;clear J2;refine sr λ_ J3=>?_
 refine pj (ab rfl) rfl rfl rfl z4 (λb5=>?_);refine bS (i:=0) (ab rfl) rfl rfl rfl rfl rfl kd rfl rfl (lb rfl) rfl rfl ?_;refine nx J3 ?_;clear J3;refine sr λ_ J4=>?_
 refine mv ?_;refine tp (Ml rfl rfl) ?_;refine j9 (ab rfl) rfl rfl rfl JN rfl (xm (bs:=bs) (C:=[ak b4 (ints MsgT.zero.flat) 178,ak b5 [(.bool false)] 4]) (caps:=[(.pointer (some ⟨b4,0,none⟩)),(.pointer (some ⟨b5,0,none⟩))]) (A:=λa:MsgT×Bool=>[ak b4 (ints a.1.flat) 178,ak b5 [.bool a.2] 4]) (G:=λ_:Unit=>[ak b4 (ints MsgT.zero.flat) 178,ak b5 [(.bool false)] 4]) (φ:=λa r=>cH bs=some (a,r)) (ψ:=λ_=>cH bs=none) (λ_ h=>h) (λ_ _ h d=>h.more d) Ky (λrb=>BP rb b4 b5 x bs MsgT.zero false)) (λ_ s=>aA [1,0] rfl s) (λ_ d _=>(hF).more d) (λvR HR hR=>?_);rcases hR with⟨r,⟨m,g⟩,rfl,rfl,hs⟩| ⟨_,rfl,rfl,hs⟩
 refine ao (λh9=>?_) (λh9=>?_);refine ot ?_;refine nx J4 ?_;clear J4;refine aa λ_ J5=>?_
 refine sr λ_ J6=>?_
 refine mv ?_;refine tp (nq (r:=false) rfl rfl rfl) ?_;refine mv ?_;refine tq (gH (v:=(.bool (g))) rfl Y4 rfl rfl (eN 1 rfl rfl) rfl) ?_;refine aX (λh13=>?_) (λh13=>?_);refine tq (nq (r:=false) rfl rfl rfl) ?_;refine tp (wW rfl rfl rfl) ?_;refine nx J6 ?_;clear J6;refine Ds rfl ?_;refine aS ?_;refine ac J5 ?_;clear J5;refine sr λ_ J7=>?_
 refine tp (aJ (vs:=ints m.flat) rfl aY rfl bW rfl (eN 0 rfl rfl) (aG m) (bj (aG m))) ?_;refine ci (vs:=ints m.flat) (i:=2) (ab rfl) rfl rfl rfl rfl rfl (by rw[(aG m)];exact bW) (bv _) rfl rfl (by have h0:=(aG MsgT.zero);have h1:=(aG m);omega) (cu ((aG MsgT.zero).trans (aG m).symm)) rfl ?_;refine ot ?_;refine nx J7 ?_;clear J7;refine ai ?_;refine kX (H':=[]) rfl rfl rfl aY rfl bW (eN 2 rfl rfl) (aG m) (λ_ s=>aj [] rfl s) ?_;exact⟨by simp[ik, *],rfl⟩;refine tq (nq (r:=true) rfl rfl rfl) ?_;refine tp (wW rfl rfl rfl) ?_;refine nx J6 ?_;clear J6;refine mu rfl ?_;refine sr λ_ J8=>?_
 refine tp (ju (cells:=(ints MsgT.zero.flat).toArray) rfl rfl (by as_aux_lemma=>kernel_rfl)) ?_;refine ci (vs:=ints MsgT.zero.flat) (i:=2) (ab rfl) rfl rfl rfl rfl rfl (by rw[(aG MsgT.zero)];exact bW) (bv _) rfl rfl (by have h0:=(aG MsgT.zero);have h1:=(aG MsgT.zero);omega) (cu ((aG MsgT.zero).trans (aG MsgT.zero).symm)) rfl ?_;refine ot ?_;refine nx J8 ?_;clear J8;refine ai ?_;refine ad ?_;clear J5;refine kX (H':=[]) rfl rfl rfl aY rfl bW (eN 2 rfl rfl) (aG MsgT.zero) (λ_ s=>aj [] rfl s) ?_;exact⟨by simp[ik, *],rfl⟩;refine ot ?_;refine nx J4 ?_;clear J4;refine aa λ_ J9=>?_
 refine sr λ_ J10=>?_
 refine mv ?_;refine tp (nq (r:=true) rfl rfl rfl) ?_;refine mv ?_;refine pi (b:=true) rfl rfl rfl rfl (lb rfl) ?_;refine pi (b:=true) rfl rfl rfl rfl (lb rfl) ?_;refine tp (wW rfl rfl rfl) ?_;refine nx J10 ?_;clear J10;refine mu rfl ?_;refine sr λ_ J11=>?_
 refine tp (ju (cells:=(ints MsgT.zero.flat).toArray) rfl rfl (by as_aux_lemma=>kernel_rfl)) ?_;refine ci (vs:=ints MsgT.zero.flat) (i:=2) (ab rfl) rfl rfl rfl rfl rfl (by rw[(aG MsgT.zero)];exact bW) (bv _) rfl rfl (by have h0:=(aG MsgT.zero);have h1:=(aG MsgT.zero);omega) (cu ((aG MsgT.zero).trans (aG MsgT.zero).symm)) rfl ?_;refine ot ?_;refine nx J11 ?_;clear J11;refine ai ?_;refine ad ?_;clear J9;refine kX (H':=[]) rfl rfl rfl aY rfl bW (eN 2 rfl rfl) (aG MsgT.zero) (λ_ s=>aj [] rfl s) ?_;exact⟨by simp[ik, *],rfl⟩;refine ot ?_;refine nx J4 ?_;clear J4;refine aa λ_ J12=>?_
 refine sr λ_ J13=>?_
 refine mv ?_;refine tp (nq (r:=true) rfl rfl rfl) ?_;refine mv ?_;refine pi (b:=true) rfl rfl rfl rfl (lb rfl) ?_;refine pi (b:=true) rfl rfl rfl rfl (lb rfl) ?_;refine tp (wW rfl rfl rfl) ?_;refine nx J13 ?_;clear J13;refine mu rfl ?_;refine sr λ_ J14=>?_
 refine tp (ju (cells:=(ints MsgT.zero.flat).toArray) rfl rfl (by as_aux_lemma=>kernel_rfl)) ?_;refine ci (vs:=ints MsgT.zero.flat) (i:=2) (ab rfl) rfl rfl rfl rfl rfl (by rw[(aG MsgT.zero)];exact bW) (bv _) rfl rfl (by have h0:=(aG MsgT.zero);have h1:=(aG MsgT.zero);omega) (cu ((aG MsgT.zero).trans (aG MsgT.zero).symm)) rfl ?_;refine ot ?_;refine nx J14 ?_;clear J14;refine ai ?_;refine ad ?_;clear J12;refine kX (H':=[]) rfl rfl rfl aY rfl bW (eN 2 rfl rfl) (aG MsgT.zero) (λ_ s=>aj [] rfl s) ?_;exact⟨by simp[ik, *],rfl⟩
theorem Ea(rb mb gb:Nat)(v:Value)(bs:List UInt8)(m0:RecT)(g0:Bool):
 DT 82 #[(.pointer (some ⟨rb,0,none⟩)),(.pointer (some ⟨mb,0,none⟩)),(.pointer (some ⟨gb,0,none⟩))] (IsB v bs) [ak rb [v] 197,ak mb (ints m0.flat) 90,ak gb [(.bool (g0))] 4] (tF (λ_ H=>∃x' r a,H=ak rb [x'] 197::[ak mb (ints a.1.flat) 90,ak gb [.bool a.2] 4]∧Tail v bs x' r∧dd bs=some (a,r)) (λc H=>c=gO∧∃(x':Value) (_:Unit),H=ak rb [x'] 197::[ak mb (ints m0.flat) 90,ak gb [.bool g0] 4]∧dd bs=none)):=by
 refine BD 9 Tryz.func82 rfl rfl rfl λw0 F hF=>ae (PS ?_)
 refine CP LH (yt rb v bs) ID (λ_ d _=>(hF).more d) (λcP HP hP=>?_) (λvR HR hR=>?_);obtain⟨vP,rfl,rfl,hpP⟩:=hP;exact WK [0,0,0] (aO ⟨rfl,_,(),rfl,hpP⟩);obtain⟨a1,r1,v1,rfl,rfl,hp1,ht1⟩:=hR;refine P3 ?_;refine SW 1 iw bi ?_;refine S0 2 kd ?_;exact au (WK [0,0,0] (bu rfl ⟨_,_,_,rfl,ht1,hp1⟩))
theorem tv(x:Value)(bs:List UInt8):
 DT 49 #[x] (IsB x bs) [] (RI (.tuple #[.agg (ints (mO bs).1.flat).toArray, .int .i64 (mO bs).2]) []):=by
 refine Leg.Does.body (vs:=[x]) (n:=18) Tryz.func49 rfl rfl rfl (λw0 F hF=>?_);refine sr λ_ J1=>?_
 refine pj (ab rfl) rfl rfl rfl Jn (λb2=>?_);change TL _ _ _ _ _ _ _ _ _ [ak b2 (ints RecT.zero.flat) 90];refine ot ?_;refine nx J1 ?_;clear J1;refine sr λ_ J2=>?_
 refine pj (ab rfl) rfl rfl rfl Jn (λb4=>?_);change TL _ _ _ _ _ _ _ _ _ [ak b4 (ints RecT.zero.flat) 90,ak b2 (ints RecT.zero.flat) 90];refine nx J2 ?_;clear J2;refine sr λ_ J3=>?_
 refine pj (ab rfl) rfl rfl rfl z4 (λb5=>?_);refine bS (i:=0) (ab rfl) rfl rfl rfl rfl rfl kd rfl rfl (lb rfl) rfl rfl ?_;refine nx J3 ?_;clear J3;refine sr λ_ J4=>?_
 refine mv ?_;refine tp (Ml rfl rfl) ?_;refine j9 (ab rfl) rfl rfl rfl JN rfl (xm (bs:=bs) (C:=[ak b4 (ints RecT.zero.flat) 90,ak b5 [(.bool false)] 4]) (caps:=[(.pointer (some ⟨b4,0,none⟩)),(.pointer (some ⟨b5,0,none⟩))]) (A:=λa:RecT×Bool=>[ak b4 (ints a.1.flat) 90,ak b5 [.bool a.2] 4]) (G:=λ_:Unit=>[ak b4 (ints RecT.zero.flat) 90,ak b5 [(.bool false)] 4]) (φ:=λa r=>dd bs=some (a,r)) (ψ:=λ_=>dd bs=none) (λ_ h=>h) (λ_ _ h d=>h.more d) LI (λrb=>Ea rb b4 b5 x bs RecT.zero false)) (λ_ s=>aA [1,0] rfl s) (λ_ d _=>(hF).more d) (λvR HR hR=>?_);rcases hR with⟨r,⟨m,g⟩,rfl,rfl,hs⟩| ⟨_,rfl,rfl,hs⟩
 refine ao (λh9=>?_) (λh9=>?_);refine ot ?_;refine nx J4 ?_;clear J4;refine aa λ_ J5=>?_
 refine sr λ_ J6=>?_
 refine mv ?_;refine tp (nq (r:=false) rfl rfl rfl) ?_;refine mv ?_;refine tq (gH (v:=(.bool (g))) rfl Y4 rfl rfl (eN 1 rfl rfl) rfl) ?_;refine aX (λh13=>?_) (λh13=>?_);refine tq (nq (r:=false) rfl rfl rfl) ?_;refine tp (wW rfl rfl rfl) ?_;refine nx J6 ?_;clear J6;refine Ds rfl ?_;refine aS ?_;refine ac J5 ?_;clear J5;refine sr λ_ J7=>?_
 refine tp (aJ (vs:=ints m.flat) rfl io rfl iw rfl (eN 0 rfl rfl) (bi m) (bj (bi m))) ?_;refine ci (vs:=ints m.flat) (i:=2) (ab rfl) rfl rfl rfl rfl rfl (by rw[(bi m)];exact iw) (bv _) rfl rfl (by have h0:=(bi RecT.zero);have h1:=(bi m);omega) (cu ((bi RecT.zero).trans (bi m).symm)) rfl ?_;refine ot ?_;refine nx J7 ?_;clear J7;refine ai ?_;refine kX (H':=[]) rfl rfl rfl io rfl iw (eN 2 rfl rfl) (bi m) (λ_ s=>aj [] rfl s) ?_;exact⟨by simp[mO, *],rfl⟩;refine tq (nq (r:=true) rfl rfl rfl) ?_;refine tp (wW rfl rfl rfl) ?_;refine nx J6 ?_;clear J6;refine mu rfl ?_;refine sr λ_ J8=>?_
 refine tp (ju (cells:=(ints RecT.zero.flat).toArray) rfl rfl (by as_aux_lemma=>kernel_rfl)) ?_;refine ci (vs:=ints RecT.zero.flat) (i:=2) (ab rfl) rfl rfl rfl rfl rfl (by rw[(bi RecT.zero)];exact iw) (bv _) rfl rfl (by have h0:=(bi RecT.zero);have h1:=(bi RecT.zero);omega) (cu ((bi RecT.zero).trans (bi RecT.zero).symm)) rfl ?_;refine ot ?_;refine nx J8 ?_;clear J8;refine ai ?_;refine ad ?_;clear J5;refine kX (H':=[]) rfl rfl rfl io rfl iw (eN 2 rfl rfl) (bi RecT.zero) (λ_ s=>aj [] rfl s) ?_;exact⟨by simp[mO, *],rfl⟩;refine ot ?_;refine nx J4 ?_;clear J4;refine aa λ_ J9=>?_
 refine sr λ_ J10=>?_
 refine mv ?_;refine tp (nq (r:=true) rfl rfl rfl) ?_;refine mv ?_;refine pi (b:=true) rfl rfl rfl rfl (lb rfl) ?_;refine pi (b:=true) rfl rfl rfl rfl (lb rfl) ?_;refine tp (wW rfl rfl rfl) ?_;refine nx J10 ?_;clear J10;refine mu rfl ?_;refine sr λ_ J11=>?_
 refine tp (ju (cells:=(ints RecT.zero.flat).toArray) rfl rfl (by as_aux_lemma=>kernel_rfl)) ?_;refine ci (vs:=ints RecT.zero.flat) (i:=2) (ab rfl) rfl rfl rfl rfl rfl (by rw[(bi RecT.zero)];exact iw) (bv _) rfl rfl (by have h0:=(bi RecT.zero);have h1:=(bi RecT.zero);omega) (cu ((bi RecT.zero).trans (bi RecT.zero).symm)) rfl ?_;refine ot ?_;refine nx J11 ?_;clear J11;refine ai ?_;refine ad ?_;clear J9;refine kX (H':=[]) rfl rfl rfl io rfl iw (eN 2 rfl rfl) (bi RecT.zero) (λ_ s=>aj [] rfl s) ?_;exact⟨by simp[mO, *],rfl⟩;refine ot ?_;refine nx J4 ?_;clear J4;refine aa λ_ J12=>?_
 refine sr λ_ J13=>?_
 refine mv ?_;refine tp (nq (r:=true) rfl rfl rfl) ?_;refine mv ?_;refine pi (b:=true) rfl rfl rfl rfl (lb rfl) ?_;refine pi (b:=true) rfl rfl rfl rfl (lb rfl) ?_;refine tp (wW rfl rfl rfl) ?_;refine nx J13 ?_;clear J13;refine mu rfl ?_;refine sr λ_ J14=>?_
 refine tp (ju (cells:=(ints RecT.zero.flat).toArray) rfl rfl (by as_aux_lemma=>kernel_rfl)) ?_;refine ci (vs:=ints RecT.zero.flat) (i:=2) (ab rfl) rfl rfl rfl rfl rfl (by rw[(bi RecT.zero)];exact iw) (bv _) rfl rfl (by have h0:=(bi RecT.zero);have h1:=(bi RecT.zero);omega) (cu ((bi RecT.zero).trans (bi RecT.zero).symm)) rfl ?_;refine ot ?_;refine nx J14 ?_;clear J14;refine ai ?_;refine ad ?_;clear J12;refine kX (H':=[]) rfl rfl rfl io rfl iw (eN 2 rfl rfl) (bi RecT.zero) (λ_ s=>aj [] rfl s) ?_;exact⟨by simp[mO, *],rfl⟩
end Go.Proofs.YtjblgopghhgflaaGreat
end
