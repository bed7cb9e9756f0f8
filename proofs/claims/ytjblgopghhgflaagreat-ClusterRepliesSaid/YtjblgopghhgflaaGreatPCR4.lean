/-
  Joined texts:what a statement's proof reaches.
-/
import Derived.Test.YtjblgopghhgflaaGreatPCR3
set_option maxHeartbeats 8000000
set_option maxRecDepth 100000
set_option linter.unusedSimpArgs false
set_option linter.unusedVariables false
section
namespace Go.Proofs.YtjblgopghhgflaaGreat
open Go Leg Codec Api Dsk Wal
theorem DD(x:Value)(ps:List (List UInt8)):
 DT 128 #[x] (LP x ps) [] (RI (.int .u32 (fF ps.flatten)) []):=by
 refine BD 39 Tryz.func128 rfl rfl rfl λw0 F hF=>sr λ_ J1=>PS ?_
 refine nx J1 (sr λ_ J2=>PS ?_);refine nx J2 (aa λ_ J3=>sr λ_ J4=>PS ?_);refine tp (cu rfl tN rfl hF.len) ?_;refine PS ?_;refine nx J4 (ap ?_)
 refine bB (α:=(Nat)) (λk=>k≤ps.length) (λk=>[(2,(.int .u32 0)),(3,(.int .u32 (fa 4294967295 (ps.take k).flatten))),(8,x),(9,(.int .i64 (((ps.length:Nat):Int)))),(10,(.int .i64 (((k:Nat):Int))))]) (λk=>[]) (λk=>ps.length-k) 0
  (aN _) SB
  (λ_ s=>s) (λk hinv=>?_)
 obtain hk:=hinv;refine sr λ_ J5=>PS ?_
 refine am ?_ ?_<;>intro h11;obtain⟨b_a,off_a,cap_a,cs_a,T_a,z_a,us_a,hv_a,hc_a,hb_a,hl_a,hs_a,hE_a⟩:=IsL.at hF (j:=k) (by omega);obtain⟨u_a,rfl,hu_a⟩:=hE_a;refine nx J5 (aa λ_ J6=>CY (qx J6 (aa λ_ J7=>ap (sr λ_ J8=>tp (bv (r:=off_a+k) hv_a rfl tN mR rfl rfl (by omega) (by omega) (by omega)) ?_))));refine tp (cV (v:=u_a) rfl gk rfl rfl (Bw hb_a (λ_ h=>e5 h)) (by have:=zR (j:=0) hs_a rfl;simpa using this)) ?_;refine PS ?_;refine nx J8 (sr λ_ J9=>PS ?_);refine tp (cu rfl gk rfl hu_a.len) ?_;refine PS ?_;refine nx J9 (ap ?_)
 refine bB (α:=(Nat)) (λj=>j≤ps[k].length) (λj=>[(2,(.int .u32 0)),(3,(.int .u32 (fa (fa 4294967295 (ps.take k).flatten) (ps[k].take j)))),(8,x),(9,(.int .i64 (((ps.length:Nat):Int)))),(10,(.int .i64 (((k:Nat):Int)))),(14,u_a),(15,(.int .i64 (((ps[k].length:Nat):Int)))),(16,(.int .i64 (((j:Nat):Int))))]) (λj=>[]) (λj=>ps[k].length-j) 0
  (aN _) SB
  (λ_ s=>s) (λj hinv=>?_)
 obtain hj:=hinv;refine sr λ_ J10=>PS ?_
 refine am ?_ ?_<;>intro h17;obtain⟨b_b,off_b,cap_b,cs_b,T_b,z_b,hv_b,hb_b,hcs_b,hcp_b⟩:=IsW.at hu_a (j:=j) (by omega);have hlt_b:=IsW.lt hu_a;refine nx J10 (aa λ_ J11=>CY (qx J11 (aa λ_ J12=>ap (sr λ_ J13=>tp (bv (r:=off_b+j) hv_b rfl gk kS rfl rfl (by omega) (by omega) (by omega)) ?_))));refine tp (cV (v:=(.int .u8 (((((ps[k]).getD j 0).toNat:Nat):Int)))) rfl Y5 rfl rfl (Bw hb_b (λ_ h=>e5 h)) (hcs_b j (by omega))) ?_;refine PS ?_;refine nx J13 (sr λ_ J14=>P2 ?_);refine tp (eg (r:=((((ps[k]).getD j 0).toNat:Nat):Int)) rfl Y5 zr rfl (j5 (by omega) (by have:=(ps[k].getD j 0).toNat_lt;omega))) ?_;refine tp (PV.xor (r:=oH .u32 (fa (fa 4294967295 (ps.take k).flatten) (ps[k].take j)) (((((ps[k]).getD j 0).toNat:Nat):Int))) rfl rfl rfl rfl) ?_;refine PS ?_;refine nx J14 (sr λ_ J15=>PS ?_);refine nx J15 (ap ?_)
 refine bB (α:=(Nat)) (λi=>i≤8) (λi=>[(2,(.int .u32 0)),(3,(.int .u32 (lV (oH .u32 (fa (fa 4294967295 (ps.take k).flatten) (ps[k].take j)) ((((ps[k]).getD j 0).toNat:Nat):Int)) i))),(8,x),(9,(.int .i64 (((ps.length:Nat):Int)))),(10,(.int .i64 (((k:Nat):Int)))),(14,u_a),(15,(.int .i64 (((ps[k].length:Nat):Int)))),(16,(.int .i64 (((j:Nat):Int)))),(24,(.int .i64 (((i:Nat):Int))))]) (λi=>[]) (λi=>8-i) 0
  (aN _) SB
  (λ_ s=>s) (λi hinv=>?_)
 obtain hi:=hinv;refine sr λ_ J16=>PS ?_
 refine am ?_ ?_<;>intro h25;refine nx J16 (aa λ_ J17=>CY (qx J17 (aa λ_ J18=>ap (sr λ_ J19=>PS ?_))));refine tp (tR (r:=rV .u32 (lV (oH .u32 (fa (fa 4294967295 (ps.take k).flatten) (ps[k].take j)) ((((ps[k]).getD j 0).toNat:Nat):Int)) i) 1) rfl rfl rfl rfl) ?_;refine PS ?_;refine am ?_ ?_<;>intro h28;refine nx J19 (CY (af (PS ?_)));refine tp (lm (r:=(lV (oH .u32 (fa (fa 4294967295 (ps.take k).flatten) (ps[k].take j)) ((((ps[k]).getD j 0).toNat:Nat):Int)) i).fdiv 2) rfl rfl rfl (by omega) rfl) ?_;refine tp (PV.xor (r:=oH .u32 ((lV (oH .u32 (fa (fa 4294967295 (ps.take k).flatten) (ps[k].take j)) ((((ps[k]).getD j 0).toNat:Nat):Int)) i).fdiv 2) 3988292384) rfl rfl rfl rfl) ?_;refine PS ?_;refine au (ag (ac J18 (af (AD ?_))));refine PS ?_;refine au ?_
 exact aJ ((i+1):(Nat)) (by omega) (by show 8- (i+1)<8-i;omega)
  (aS (bC rfl (congrArg (Value.int .u32) (by rw[lV,CV,if_pos h28])) SB))
  (λ_ s=>s)
 refine nx J19 (CN (af (PS ?_)));refine tp (lm (r:=(lV (oH .u32 (fa (fa 4294967295 (ps.take k).flatten) (ps[k].take j)) ((((ps[k]).getD j 0).toNat:Nat):Int)) i).fdiv 2) rfl rfl rfl (by omega) rfl) ?_;refine PS ?_;refine au (ag (ac J18 (af (AD ?_))));refine PS ?_;refine au ?_
 exact aJ ((i+1):(Nat)) (by omega) (by show 8- (i+1)<8-i;omega)
  (aS (bC rfl (congrArg (Value.int .u32) (by rw[lV,CV,if_neg h28])) SB))
  (λ_ s=>s)
 refine nx J16 (aa λ_ J20=>CN (aZ (aB (aB (bw (ag (ac J12 (af (AD ?_)))))))));refine PS ?_;refine au ?_
 exact aJ ((j+1):(Nat)) (by omega) (by show ps[k].length- (j+1)<ps[k].length-j;omega)
  (aS (bC rfl (congrArg (Value.int .u32) (by obtain rfl:i=8:=(by omega);rw[Bb (by omega)];rfl)) SB))
  (λ_ s=>s)
 refine nx J10 (aa λ_ J21=>CN (aZ (aB (aB (bw (ag (ac J7 (af (AD ?_)))))))));refine PS ?_;refine au ?_
 exact aJ ((k+1):(Nat)) (by omega) (by show ps.length- (k+1)<ps.length-k;omega)
  (aS (bC rfl (congrArg (Value.int .u32) (by rw[show j=ps[k].length by omega,g8,Bc (by omega)])) SB))
  (λ_ s=>s)
 refine nx J5 (aa λ_ J22=>CN (aZ (aB (aB (bw (ac J3 (sr λ_ J23=>PS ?_)))))));refine tp (PV.com (r:=oH .u32 4294967295 (fa 4294967295 (ps.take k).flatten)) rfl rfl rfl) ?_;refine PS ?_;refine nx J23 (ai (WK [] (aq rfl rfl ?_)));obtain rfl:k=ps.length:=by omega
 rw[g8];exact⟨rfl,rfl⟩
theorem sZ(x:Value)(bs:List UInt8)(hb:bs.length≤1000000000):
 DT 90 #[x] (IsW x bs) [] (dw (λv H=>H=[dL v (o7 bs) 5])):=by
 refine BD 29 Tryz.func90 rfl rfl rfl λw0 F hF=>sr λ_ J1=>PS ?_
 refine nx J1 (sr λ_ J2=>PS ?_);refine aU (cells:=#[x]) (ab rfl) rfl rfl rfl tN Fp rfl rfl rfl (rM hF.one (by simp)) (λb6=>CF I1 (DD (.slice (some ⟨b6,0,none⟩) (1) (1)) [bs]) ID (AN hF 0 rfl rfl) ?_);rw[show [bs].flatten=bs by simp];refine PS ?_;refine nx J2 (sr λ_ J3=>PS ?_);refine tp (cu rfl gk rfl hF.len) ?_;refine AD ?_;refine TL.makeB (0) (bs.length+4) (ab rfl) rfl rfl rfl gk xQ rfl rfl rfl (by omega) (by omega) (by omega) (λb11=>cp (H':=[dL (.slice (some ⟨b11,0,none⟩) 0 (bs.length+4)) ([]) 5,aj b6 [x] 93]) (λ_ s=>Dr 0 rfl rfl (by omega) (by simp only[maxLen];omega) (by simp[ek]) rfl s) (PS ?_));refine nx J3 (sr λ_ J4=>P2 ?_);refine cG (k:=0) (news:=ek (bs)) (nn':=(bs:List UInt8).length) (xs':=ek (bs)) (ab rfl) rfl rfl rfl gk xQ rfl rfl rfl rfl rfl rfl (λ_ _=>hF.src (λ_ h=>e5 h)) (eU _) (by simp only[maxLen,aA];omega) (by simp only[aA];omega) (by simp) (ce _) (λv14 ov14=>PS ?_);refine nx J4 (sr λ_ J5=>P2 ?_);refine tp (eg (r:=(((r8 (fF bs)).toNat:Nat):Int)) rfl zr Y5 rfl (r8_wrap _)) ?_;refine PS ?_;refine tp (lm (r:=(fF bs).fdiv 256) rfl rfl rfl (by omega) rfl) ?_;refine tp (eg (r:=(((r8 ((fF bs).fdiv 256)).toNat:Nat):Int)) rfl zr Y5 rfl (r8_wrap _)) ?_;refine PS ?_;refine tp (lm (r:=(fF bs).fdiv 65536) rfl rfl rfl (by omega) rfl) ?_;refine tp (eg (r:=(((r8 ((fF bs).fdiv 65536)).toNat:Nat):Int)) rfl zr Y5 rfl (r8_wrap _)) ?_;refine PS ?_
 refine tp (lm (r:=(fF bs).fdiv 16777216) rfl rfl rfl (by omega) rfl) ?_;refine tp (eg (r:=(((r8 ((fF bs).fdiv 16777216)).toNat:Nat):Int)) rfl zr Y5 rfl (r8_wrap _)) ?_;refine aU (cells:=#[(.int .u8 ((((r8 (fF bs)).toNat:Nat):Int))),(.int .u8 ((((r8 ((fF bs).fdiv 256)).toNat:Nat):Int))),(.int .u8 ((((r8 ((fF bs).fdiv 65536)).toNat:Nat):Int))),(.int .u8 ((((r8 ((fF bs).fdiv 16777216)).toNat:Nat):Int)))]) (ab rfl) rfl rfl rfl gk xQ rfl rfl rfl (by as_aux_lemma=>kernel_rfl) (λb27=>cG (k:=1) (news:=ek ([(r8 (fF bs)),(r8 ((fF bs).fdiv 256)),(r8 ((fF bs).fdiv 65536)),(r8 ((fF bs).fdiv 16777216))])) (nn':=(bs++[(r8 (fF bs)),(r8 ((fF bs).fdiv 256)),(r8 ((fF bs).fdiv 65536)),(r8 ((fF bs).fdiv 16777216))]:List UInt8).length) (xs':=ek (bs++[(r8 (fF bs)),(r8 ((fF bs).fdiv 256)),(r8 ((fF bs).fdiv 65536)),(r8 ((fF bs).fdiv 16777216))])) (ab rfl) rfl rfl rfl gk xQ rfl rfl rfl rfl rfl rfl (λ_ _=>jg rfl (RO 0) rfl) (eU [(r8 (fF bs)),(r8 ((fF bs).fdiv 256)),(r8 ((fF bs).fdiv 65536)),(r8 ((fF bs).fdiv 16777216))]) (by simp only[maxLen];omega) (by omega) (by simp) (iC _ _).symm (λv28 ov28=>PS ?_));exact nx J5 (ai (WK [1] (aq rfl rfl rfl)))
theorem Ep(a:Option Addr)(c:Nat)(bs:List UInt8)(hc:bs.length≤c)(hb:bs.length≤1000000000):
 DT 167 #[(.slice a bs.length c)] (IsW (.slice a bs.length c) bs) [] (dw (λv H=>(mc bs=none∧v= .tuple #[.slice none 0 0, .bool false]∧H=[])∨∃t u,mc bs=some t∧v= .tuple #[u, .bool true]∧H=[dL u t 5])):=by
 refine BD 50 Tryz.func167 rfl rfl rfl λw0 F hF=>sr λ_ J1=>P2 ?_
 refine nx J1 (aa λ_ J2=>sr λ_ J3=>PS ?_);refine tp (cu rfl gk rfl ⟨_,_,rfl⟩) ?_;refine PS ?_;refine am ?_ ?_<;>intro h9;refine nx J3 (CY (sr λ_ J4=>P2 ?_));refine nx J4 (ai (ae (WK [] (ii rfl rfl rfl ?_))));exact .inl ⟨by rw[mc,if_pos (by omega)],rfl,rfl⟩;have hT:IsW (jC (.slice a bs.length c) 0 (bs.length-4)) (bs.take (bs.length-4)) F:=by have:=hF.cut (lo:=0) (hi:=bs.length-4) (by omega) (by omega);simpa using this
 have hU:IsW (jC (.slice a bs.length c) (bs.length-4) bs.length) (bs.drop (bs.length-4)) F:=by have:=hF.cut (lo:=bs.length-4) (hi:=bs.length) (by omega) (by omega);rwa [g8]at this
 have hq:(bs.drop (bs.length-4)).length=4:=by rw[dO];omega
 obtain⟨b_b,off_b,cap_b,cs_b,T_b,z_b,hv_b,hb_b,hcs_b,hcp_b⟩:=IsW.at hU (j:=0) (by omega);have hlt_b:=IsW.lt hU;refine nx J3 (CN (qx J2 (aa λ_ J5=>D0 dC ?_)));refine PD 0 ?_;refine PD 1 ?_;refine ta 2 rfl (cu rfl gk rfl ⟨_,_,rfl⟩) ?_;refine ta 3 rfl (jE (r:=(((bs.length-4:Nat):Nat):Int)) rfl rfl rfl (by rw[show(((bs.length:Nat):Int)-4)=((bs.length-4:Nat):Int)by omega];exact bI (by omega) (by omega))) ?_;refine ta 4 rfl (PV.sliceH (hi:=bs.length-4) rfl gk kS rfl rfl rfl (by omega)) ?_;refine PD 5 ?_;refine PD 6 ?_;refine ta 7 rfl (cu rfl gk rfl ⟨_,_,rfl⟩) ?_;refine ta 8 rfl (jE (r:=(((bs.length-4:Nat):Nat):Int)) rfl rfl rfl (by rw[show(((bs.length:Nat):Int)-4)=((bs.length-4:Nat):Int)by omega];exact bI (by omega) (by omega))) ?_;refine ta 9 rfl (PV.sliceL (lo:=bs.length-4) rfl gk kS rfl rfl rfl (by omega)) ?_;refine PD 10 ?_;refine PD 11 ?_;refine DN (ac J5 (aa λ_ J6=>D0 dC ?_));refine PD 0 ?_;refine ta 1 rfl (bv (r:=off_b) hv_b rfl gk kS rfl rfl (by omega) (by omega) (by omega)) ?_;refine ta 2 rfl (cV (v:=(.int .u8 ((((((bs.drop (bs.length-4))).getD 0 0).toNat:Nat):Int)))) rfl Y5 rfl rfl (Bw hb_b (λ_ h=>h.1)) (hcs_b 0 (by omega))) ?_;refine ta 3 rfl (eg (r:=(((((bs.drop (bs.length-4))).getD 0 0).toNat:Nat):Int)) rfl Y5 zr rfl (j5 (by omega) (by have:=UInt8.toNat_lt (n:=(bs.drop (bs.length-4)).getD 0 0);omega))) ?_;refine PD 4 ?_
 refine ta 5 rfl (bv (r:=off_b+1) hv_b rfl gk kS rfl rfl (by omega) (by omega) (by omega)) ?_;refine ta 6 rfl (cV (v:=(.int .u8 ((((((bs.drop (bs.length-4))).getD 1 0).toNat:Nat):Int)))) rfl Y5 rfl rfl (Bw hb_b (λ_ h=>h.1)) (hcs_b 1 (by omega))) ?_;refine ta 7 rfl (eg (r:=(((((bs.drop (bs.length-4))).getD 1 0).toNat:Nat):Int)) rfl Y5 zr rfl (j5 (by omega) (by have:=UInt8.toNat_lt (n:=(bs.drop (bs.length-4)).getD 1 0);omega))) ?_;refine ta 8 rfl (w4 (r:=IntKind.u32.wrap ((((((bs.drop (bs.length-4))).getD 1 0).toNat:Nat):Int)*2^8)) rfl rfl rfl (by omega) rfl) ?_;refine ta 9 rfl (Hy (r:=ik .u32 (((((bs.drop (bs.length-4))).getD 0 0).toNat:Nat):Int) (IntKind.u32.wrap ((((((bs.drop (bs.length-4))).getD 1 0).toNat:Nat):Int)*2^8))) rfl rfl rfl rfl) ?_;refine PD 10 ?_;refine ta 11 rfl (bv (r:=off_b+2) hv_b rfl gk kS rfl rfl (by omega) (by omega) (by omega)) ?_;refine ta 12 rfl (cV (v:=(.int .u8 ((((((bs.drop (bs.length-4))).getD 2 0).toNat:Nat):Int)))) rfl Y5 rfl rfl (Bw hb_b (λ_ h=>h.1)) (hcs_b 2 (by omega))) ?_;refine ta 13 rfl (eg (r:=(((((bs.drop (bs.length-4))).getD 2 0).toNat:Nat):Int)) rfl Y5 zr rfl (j5 (by omega) (by have:=UInt8.toNat_lt (n:=(bs.drop (bs.length-4)).getD 2 0);omega))) ?_;refine ta 14 rfl (w4 (r:=IntKind.u32.wrap ((((((bs.drop (bs.length-4))).getD 2 0).toNat:Nat):Int)*2^16)) rfl rfl rfl (by omega) rfl) ?_
 refine ta 15 rfl (Hy (r:=ik .u32 (ik .u32 (((((bs.drop (bs.length-4))).getD 0 0).toNat:Nat):Int) (IntKind.u32.wrap ((((((bs.drop (bs.length-4))).getD 1 0).toNat:Nat):Int)*2^8))) (IntKind.u32.wrap ((((((bs.drop (bs.length-4))).getD 2 0).toNat:Nat):Int)*2^16))) rfl rfl rfl rfl) ?_;refine PD 16 ?_;refine ta 17 rfl (bv (r:=off_b+3) hv_b rfl gk kS rfl rfl (by omega) (by omega) (by omega)) ?_;refine ta 18 rfl (cV (v:=(.int .u8 ((((((bs.drop (bs.length-4))).getD 3 0).toNat:Nat):Int)))) rfl Y5 rfl rfl (Bw hb_b (λ_ h=>h.1)) (hcs_b 3 (by omega))) ?_;refine ta 19 rfl (eg (r:=(((((bs.drop (bs.length-4))).getD 3 0).toNat:Nat):Int)) rfl Y5 zr rfl (j5 (by omega) (by have:=UInt8.toNat_lt (n:=(bs.drop (bs.length-4)).getD 3 0);omega))) ?_;refine ta 20 rfl (w4 (r:=IntKind.u32.wrap ((((((bs.drop (bs.length-4))).getD 3 0).toNat:Nat):Int)*2^24)) rfl rfl rfl (by omega) rfl) ?_;refine ta 21 rfl (Hy (r:=GW ((bs.drop (bs.length-4)).getD 0 0) ((bs.drop (bs.length-4)).getD 1 0) ((bs.drop (bs.length-4)).getD 2 0) ((bs.drop (bs.length-4)).getD 3 0)) rfl rfl rfl rfl) ?_;refine PD 22 ?_;refine DN (ac J6 (aa λ_ J7=>sr λ_ J8=>PS ?_));refine aU (cells:=#[(jC (.slice a bs.length c) 0 (bs.length-4))]) (ab rfl) rfl rfl rfl tN Fp rfl rfl rfl (rM hT.one (by simp)) (λb43=>CF I1 (DD (.slice (some ⟨b43,0,none⟩) (1) (1)) [(bs.take (bs.length-4))]) ID (AN hT 0 rfl rfl) ?_)
 rw[show [(bs.take (bs.length-4))].flatten=(bs.take (bs.length-4))by simp];refine P2 ?_;refine am ?_ ?_<;>intro h46;refine nx J8 (CY (sr λ_ J9=>P2 ?_));refine nx J9 (ai (ae (WK [] (ii rfl rfl rfl ?_))));exact .inl ⟨by rw[mc,if_neg (by omega),if_neg h46],rfl,rfl⟩;refine nx J8 (CN (qx J7 (sr λ_ J10=>Br (ab rfl) rfl rfl rfl gk kS (λv47=>PS ?_))));refine cG (k:=0) (news:=ek ((bs.take (bs.length-4)))) (nn':=((bs.take (bs.length-4)):List UInt8).length) (xs':=ek ((bs.take (bs.length-4)))) (ab rfl) rfl rfl rfl gk xQ rfl rfl rfl rfl rfl rfl (λ_ _=>hT.src (λ_ h=>e5 h)) (eU _) (by simp only[maxLen,aA,bo];omega) (by simp only[aA,bo];omega) (by simp) (ce _) (λv49 ov49=>P2 ?_);refine nx J10 (ai (WK [0] (ii rfl rfl rfl ?_)));exact .inr ⟨_,_,by rw[mc,if_neg (by omega),if_pos (by simpa using h46)],rfl,rfl⟩
theorem xl(x:Value)(bs:List UInt8)(hb:bs.length≤1000000000):DT 167 #[x] (IsW x bs) [] (dw (λv H=>(mc bs=none∧v= .tuple #[.slice none 0 0, .bool false]∧H=[])∨∃t u,mc bs=some t∧v= .tuple #[u, .bool true]∧H=[dL u t 5])):=λw G h m=>by
 obtain⟨a,c,rfl,hc,_⟩:=h.form;exact Ep a c bs hc hb w G h m
theorem tg(n:Nat)(hn:n≤1000000000000):
 DT 176 #[(.int .i64 (((n:Nat):Int)))] T0 [] (RI (.int .i64 ((bp n:Nat):Int)) []):=by
 refine BD 9 Tryz.func176 rfl rfl rfl λw0 F hF=>sr λ_ J1=>PS ?_
 refine nx J1 (aa λ_ J2=>sr λ_ J3=>P2 ?_);refine am ?_ ?_<;>intro h4;refine nx J3 (CY (sr λ_ J4=>PS ?_));refine nx J4 (ai (ae (WK [] (aq rfl rfl ?_))));obtain rfl:n=0:=by omega
 exact⟨rfl,rfl⟩;refine nx J3 (CN (qx J2 (sr λ_ J5=>PS ?_)));refine tp (jE rfl rfl rfl (bI (by omega) (by omega))) ?_;refine tp (PV.quo (r:=(((n-1) / 52:Nat):Int)) rfl rfl rfl (by omega) (by rw[show(((n:Nat):Int)-1)=((n-1:Nat):Int)by omega];exact Jo (n-1) 52 (by omega))) ?_;refine AD ?_;refine PS ?_;refine nx J5 (ai (WK [] (aq rfl rfl ?_)));rw[bp,if_neg (by omega)];exact⟨by simp,rfl⟩
theorem B4{number:Int}{bs:List UInt8}{k:Nat}:mg number bs (k+1)=mg number bs k++[o7 (jl number k (bp bs.length) (gd bs k))++[1]]:=B3 number bs k
theorem yB(a:Option Addr)(c number:Nat)(bs:List UInt8)(hc:bs.length≤c)(hb:bs.length≤3000):
 DT 178 #[(.int .i64 (((number:Nat):Int))),(.slice a bs.length c)] (IsW (.slice a bs.length c) bs) [] (dw (λv H=>H=[lJ 93 5 v (cj ((number:Nat):Int) bs)])):=by
 refine BD 68 Tryz.func178 rfl rfl rfl λw0 F hF=>sr λ_ J1=>PS ?_
 refine nx J1 (sr λ_ J2=>PS ?_);refine tp (cu rfl gk rfl ⟨_,_,rfl⟩) ?_;refine CE IK (tg bs.length (by omega)) ID ?_;refine PS ?_;refine nx J2 (sr λ_ J3=>PS ?_);refine nx J3 (aa λ_ J4=>sr λ_ J5=>P2 ?_);refine nx J5 (ap ?_)
 refine bB (α:=(Nat)×(Value)) (λ⟨k,vr⟩=>k≤bp bs.length∧vr.oneCell'=true) (λ⟨k,vr⟩=>[(0,(.int .i64 (((number:Nat):Int)))),(1,(.slice a bs.length c)),(4,(.slice none 0 0)),(5,(.int .i64 (((bp bs.length:Nat):Int)))),(6,vr),(14,(.int .i64 (((bp bs.length:Nat):Int)))),(15,(.int .i64 (((k:Nat):Int))))]) (λ⟨k,vr⟩=>[lJ 93 5 vr (mg ((number:Nat):Int) bs k)]) (λ⟨k,vr⟩=>bp bs.length-k) (0,(.slice none 0 0))
  ⟨aN _,rfl⟩ SB
  (λ_ s=>s5 93 5 s) (λ⟨k,vr⟩ hinv=>?_)
 obtain⟨hk,hvr⟩:=hinv;refine sr λ_ J6=>PS ?_
 refine am ?_ ?_<;>intro h16;have hkn:=H0 (n:=bs.length) (k:=k) (by omega);have hpe:=H3 bs k;have hP:IsW (jC (.slice a bs.length c) (k*52) (min ((k+1)*52) bs.length)) (gd bs k) F:=by rw[←hpe];exact hF.cut (by omega) (by omega)
 have hpl:=sA bs k;have hpk:=vh hb;have hP2:=hP.len;refine nx J6 (aa λ_ J7=>CY (qx J7 (aa λ_ J8=>ap (sr λ_ J9=>P2 ?_))));refine nx J9 (sr λ_ J10=>P2 ?_);refine tp (IC (r:=((k*52:Nat):Int)) rfl rfl rfl (by rw[show((k:Nat):Int)*52=((k*52:Nat):Int)by omega];exact bI (by omega) (by omega))) ?_;refine PS ?_;refine AD ?_;refine tp (IC (r:=(((k+1)*52:Nat):Int)) rfl rfl rfl (by rw[show(((k:Nat):Int)+1)*52=(((k+1)*52:Nat):Int)by omega];exact bI (by omega) (by omega))) ?_;refine PS ?_;refine tp (cu rfl gk rfl ⟨_,_,rfl⟩) ?_;refine tp (PV.minI rfl rfl rfl) ?_;refine tp (PV.sliceLH (lo:=k*52) (hi:=min ((k+1)*52) bs.length) rfl gk kS rfl rfl rfl rfl (by omega) (by omega) (by omega)) ?_;refine PS ?_;refine nx J10 (sr λ_ J11=>TL.makeB (59) (59) (ab rfl) rfl rfl rfl gk xQ rfl rfl rfl rfl (by omega) (by omega) (λb28=>PS ?_));refine nx J11 (aa λ_ J12=>sr λ_ J13=>PS ?_);refine nx J13 (ap (qS 5 (sr λ_ J14=>PS ?_)));refine nx J14 (aa λ_ J15=>CY (qx J15 (aa λ_ J16=>ap (sr λ_ J17=>P2 ?_))));refine nx J17 (af (P4 ?_));refine tp (jE (r:=3) rfl rfl rfl (by decide)) ?_;refine tp (IC (r:=24) rfl rfl rfl (by decide)) ?_;refine tp (lm (r:=((number:Nat):Int).fdiv 16777216) rfl rfl rfl (by omega) rfl) ?_;refine tp (eg (r:=(((r8 (((number:Nat):Int).fdiv 16777216)).toNat:Nat):Int)) rfl Y3 Y5 rfl (r8_wrap _)) ?_
 refine tp (jh (r:=0) rfl gk kS rfl rfl (by first|omega|decide) (by first|omega|decide) rfl) ?_;refine S0 0 kS ?_;refine au (ag (ac J16 (af (tp (cw (r:=1) rfl rfl rfl (by decide)) ?_))));refine PS ?_;refine au (ef (sr λ_ J18=>PS ?_));refine nx J18 (aa λ_ J19=>CY (qx J19 (aa λ_ J20=>ap (sr λ_ J21=>P2 ?_))));refine nx J21 (af (P4 ?_));refine tp (jE (r:=2) rfl rfl rfl (by decide)) ?_;refine tp (IC (r:=16) rfl rfl rfl (by decide)) ?_;refine tp (lm (r:=((number:Nat):Int).fdiv 65536) rfl rfl rfl (by omega) rfl) ?_;refine tp (eg (r:=(((r8 (((number:Nat):Int).fdiv 65536)).toNat:Nat):Int)) rfl Y3 Y5 rfl (r8_wrap _)) ?_;refine tp (jh (r:=1) rfl gk kS rfl rfl (by first|omega|decide) (by first|omega|decide) rfl) ?_;refine S0 0 kS ?_;refine au (ag (ac J20 (af (tp (cw (r:=2) rfl rfl rfl (by decide)) ?_))));refine PS ?_;refine au (ef (sr λ_ J22=>PS ?_));refine nx J22 (aa λ_ J23=>CY (qx J23 (aa λ_ J24=>ap (sr λ_ J25=>P2 ?_))));refine nx J25 (af (P4 ?_));refine tp (jE (r:=1) rfl rfl rfl (by decide)) ?_;refine tp (IC (r:=8) rfl rfl rfl (by decide)) ?_;refine tp (lm (r:=((number:Nat):Int).fdiv 256) rfl rfl rfl (by omega) rfl) ?_;refine tp (eg (r:=(((r8 (((number:Nat):Int).fdiv 256)).toNat:Nat):Int)) rfl Y3 Y5 rfl (r8_wrap _)) ?_;refine tp (jh (r:=2) rfl gk kS rfl rfl (by first|omega|decide) (by first|omega|decide) rfl) ?_;refine S0 0 kS ?_
 refine au (ag (ac J24 (af (tp (cw (r:=3) rfl rfl rfl (by decide)) ?_))));refine PS ?_;refine au (ef (sr λ_ J26=>PS ?_));refine nx J26 (aa λ_ J27=>CY (qx J27 (aa λ_ J28=>ap (sr λ_ J29=>P2 ?_))));refine nx J29 (af (P4 ?_));refine tp (jE (r:=0) rfl rfl rfl (by decide)) ?_;refine tp (IC (r:=0) rfl rfl rfl (by decide)) ?_;refine tp (lm (r:=((number:Nat):Int)) rfl rfl rfl (by omega) (Int.fdiv_one _)) ?_;refine tp (eg (r:=(((r8 (((number:Nat):Int))).toNat:Nat):Int)) rfl Y3 Y5 rfl (r8_wrap _)) ?_;refine tp (jh (r:=3) rfl gk kS rfl rfl (by first|omega|decide) (by first|omega|decide) rfl) ?_;refine S0 0 kS ?_;refine au (ag (ac J28 (af (tp (cw (r:=4) rfl rfl rfl (by decide)) ?_))));refine PS ?_;refine au (ef (sr λ_ J30=>PS ?_));refine nx J30 (aa λ_ J31=>CN (aZ (aB (aB (bw (ac J12 (sr λ_ J32=>P4 ?_)))))));refine tp (eg (r:=(((r8 (((k:Nat):Int))).toNat:Nat):Int)) rfl Y3 Y5 rfl (r8_wrap _)) ?_;refine PS ?_;refine tp (eg (r:=(((r8 (((bp bs.length:Nat):Int))).toNat:Nat):Int)) rfl Y3 Y5 rfl (r8_wrap _)) ?_;refine PS ?_;refine tp (cu rfl gk rfl hP2) ?_;refine tp (eg (r:=(((r8 ((((gd bs k).length:Nat):Int))).toNat:Nat):Int)) rfl Y3 Y5 rfl (r8_wrap _)) ?_;refine tp (jh (r:=4) rfl gk kS rfl rfl (by first|omega|decide) (by first|omega|decide) rfl) ?_;refine S0 0 kS ?_;refine tp (jh (r:=5) rfl gk kS rfl rfl (by first|omega|decide) (by first|omega|decide) rfl) ?_;refine S0 0 kS ?_
 refine tp (jh (r:=6) rfl gk kS rfl rfl (by first|omega|decide) (by first|omega|decide) rfl) ?_;refine S0 0 kS ?_;refine nx J32 (sr λ_ J33=>PS ?_);refine tp (PV.sliceLo (k:=7) (v:=(.slice (some ⟨b28,7,none⟩) (52) (52))) rfl gk kS rfl rfl rfl (by decide) rfl) ?_;refine PS ?_;refine JT (i:=0) (m:=(gd bs k).length) (news:=(ek (gd bs k))) (H':=[aj b28 (ek (jl ((number:Nat):Int) k (bp bs.length) (gd bs k))) 5,lJ 93 5 vr (mg ((number:Nat):Int) bs k)]) (ab rfl) rfl rfl rfl gk kS rfl rfl rfl rfl (λ_ _=>hP.src (λ_ h=>e5 h)) (eU _) (by show 7+min (gd bs k).length 52≤59;omega) (Eo (number:=((number:Nat):Int)) (place:=k) (all:=bp bs.length) hpl) rfl (nx J33 (af (P2 ?_)));refine CQ Kt (sZ (.slice (some ⟨b28,0,none⟩) (59) (59)) (jl ((number:Nat):Int) k (bp bs.length) (gd bs k)) (by rw[iW hpl];decide)) ID (λg d s=>Jf (GZ 0 59 (iW hpl) (by decide) rfl rfl g d s)) λvR HR hR=>?_
 subst hR;refine aU (cells:=#[(.int .u8 1)]) (ab rfl) rfl rfl rfl gk xQ rfl rfl rfl (by as_aux_lemma=>kernel_rfl) (λb62=>cG (k:=1) (news:=ek ([1])) (nn':=(o7 (jl ((number:Nat):Int) k (bp bs.length) (gd bs k))++[1]:List UInt8).length) (xs':=ek (o7 (jl ((number:Nat):Int) k (bp bs.length) (gd bs k))++[1])) (ab rfl) rfl rfl rfl gk xQ rfl rfl rfl rfl rfl rfl (λ_ _=>jg rfl (RO 0) rfl) (eU [1]) (by rw[kf,iW hpl];simp only[maxLen];omega) (by rw[kf,iW hpl];omega) (by simp) (iC _ _).symm (λv63 ov63=>aU (cells:=#[v63]) (ab rfl) rfl rfl rfl tN Fp rfl rfl rfl (rM ov63 (by simp)) (λb64=>?_)));change TL _ _ _ _ _ _ _ _ _ [aj b64 [v63] 93,aj b62 [(.int .u8 1)] 5,dL v63 (o7 (jl ((number:Nat):Int) k (bp bs.length) (gd bs k))++[1]) 5,aj b28 (ek (jl ((number:Nat):Int) k (bp bs.length) (gd bs k))) 5,lJ 93 5 vr (mg ((number:Nat):Int) bs k)];refine cp (λ_ s=>az [4] rfl s) (Jc (λus65=>cG (k:=0) (m:=1) (news:=[v63]) (nn':=(mg ((number:Nat):Int) bs k).length+1) (xs':=us65++[v63]) (ab rfl) rfl rfl rfl tN Fp rfl rfl rfl rfl rfl rfl (λ_ _=>jg rfl (RO 2) rfl) (List.forall_mem_cons.2 ⟨ov63,λ_ h=>by cases h⟩) (by rw[xp];simp only[maxLen];omega) (by rw[xp];omega) rfl rfl (λv65 ov65=>?_)))
 change TL _ _ _ _ _ _ _ _ _ [own v65 ((mg ((number:Nat):Int) bs k).length+1) (us65++[v63]) 93 1,ej us65 (mg ((number:Nat):Int) bs k) 5,aj b64 [v63] 93,aj b62 [(.int .u8 1)] 5,dL v63 (o7 (jl ((number:Nat):Int) k (bp bs.length) (gd bs k))++[1]) 5,aj b28 (ek (jl ((number:Nat):Int) k (bp bs.length) (gd bs k))) 5];refine cp (λ_ s=>yz 4 rfl rfl s) (cp (H':=[own v65 ((mg ((number:Nat):Int) bs k).length+1) (us65++[v63]) 93 1,ej us65 (mg ((number:Nat):Int) bs k) 5,gm v63 (o7 (jl ((number:Nat):Int) k (bp bs.length) (gd bs k))++[1]) 5,aj b64 [v63] 93,aj b62 [(.int .u8 1)] 5,aj b28 (ek (jl ((number:Nat):Int) k (bp bs.length) (gd bs k))) 5]) (λ_ s=>az [0,0,2] rfl s) (cp (λ_ s=>s7 s) ?_));rw[←B4];refine PS ?_;refine au (ag (ac J8 (af (AD ?_))));refine PS ?_;refine au ?_
 exact aJ ((k+1,v65):(Nat)×(Value)) ⟨by omega,ov65⟩ (by show bp bs.length- (k+1)<bp bs.length-k;omega)
  SB
  (λ_ s=>ak [0] rfl s)
 refine nx J6 (aa λ_ J34=>CN (aZ (aB (aB (bw (ac J4 (sr λ_ J35=>P2 ?_)))))));refine nx J35 (ai (WK [0] (aq rfl rfl ?_)));obtain rfl:k=bp bs.length:=by omega
 exact rfl
theorem yC(x:Value)(number:Nat)(bs:List UInt8)(hb:bs.length≤3000):DT 178 #[.int .i64 ((number:Nat):Int),x] (IsW x bs) [] (dw (λv H=>H=[lJ 93 5 v (cj ((number:Nat):Int) bs)])):=λw G h m=>by
 obtain⟨a,c,rfl,hc,_⟩:=h.form;exact yB a c number bs hc hb w G h m
theorem vj(s:js)(number place:Int)(hs:s.length=64):
 DT 159 #[(.agg (ek s).toArray),(.int .i64 (number)),(.int .i64 (place))] T0 [] (dw (λv H=>(e8 s number place=none∧v= .tuple #[.slice none 0 0, .int .i64 0, .bool false]∧H=[])∨∃b all u,e8 s number place=some (b,all)∧v= .tuple #[u, .int .i64 all, .bool true]∧H=[gm u b 5])):=by
 refine BD 74 Tryz.func159 rfl rfl rfl λw0 F hF=>sr λ_ J1=>XY (ek s) λb3=>?_
 refine P3 ?_;refine nx J1 (sr λ_ J2=>tp (MP (k:=63) rfl qJ kS rfl rfl (by omega) (by omega) rfl) ?_);refine CQ IN (xl (.slice (some ⟨b3,0,none⟩) (63) (64)) (s.take 63) (by rw[bo];omega)) ID (λg d s'=>Jf (Fm 0 63 (by omega) (by omega) (by decide) (by rw[aC (by rw[bm];omega)]) hs.symm rfl rfl g d s')) λvR HR hR=>?_
 rcases hR with⟨ht,rfl,rfl⟩| ⟨t,u,ht,rfl,rfl⟩
 refine P4 ?_;refine PS ?_;refine nx J2 (aa λ_ J3=>sr λ_ J4=>PS ?_);refine PS ?_;refine PS ?_
 iterate 3 refine UT ?_
 refine PS ?_;refine nx J4 (CY (sr λ_ J5=>P3 ?_));exact nx J5 (ai (ae (WK [] (my rfl rfl rfl rfl (.inl ⟨yQ ht,rfl,rfl⟩)))));have htl:=xm ht;rw[bo]at htl;have ht59:t.length=59:=by omega
 refine fG 0 rfl rfl (by omega) (λg cap hv hcap=>P4 ?_);refine PS ?_;refine nx J2 (aa λ_ J6=>sr λ_ J7=>PS ?_);refine PS ?_;refine PS ?_;refine IX 63 qJ kS ?_;refine LT 1 Y5 (.int .u8 ((((s.getD 63 0).toNat:Nat):Int))) ?_ (hc:=by exact p9 (by omega));refine PS ?_;refine am ?_ ?_<;>intro h26;refine PS ?_;refine nx J7 (CY (sr λ_ J8=>P3 ?_));refine nx J8 (ai (ae (WK [] (my rfl rfl rfl rfl ?_))));exact .inl ⟨qo (λh=>h26 (by rw[h];rfl)),rfl,rfl⟩;refine PS ?_;refine nx J7 (CN (qx J6 (sr λ_ J9=>PS ?_)));refine nx J9 (aa λ_ J10=>sr λ_ J11=>PS ?_);refine tp (MV (PV.sliceH (a:=some ⟨g,0,none⟩) (len:=t.length) (cap:=cap) (hi:=4) rfl gk kS (by rw[←hv];rfl) rfl rfl (by omega)) (Ip (by omega))) ?_;refine tp (rX rfl gk rfl) ?_;refine PS ?_;refine nx J11 (ap ?_)
 refine bB (α:=(Nat)) (λk=>k≤4) (λk=>[(1,(.int .i64 (number))),(2,(.int .i64 (place))),(6,(.slice none 0 0)),(7,(.int .i64 0)),(8,(.bool false)),(9,u),(11,(.int .i64 (FI (t.take k)))),(29,(.slice (some ⟨g,0,none⟩) (4) (cap))),(30,(.int .i64 4)),(31,(.int .i64 (((k:Nat):Int))))]) (λk=>[dL u (t) 5,aj b3 (ek s) 128]) (λk=>4-k) 0
  (aN _) SB
  (λ_ s=>s) (λk hinv=>?_)
 obtain hk:=hinv;refine sr λ_ J12=>PS ?_
 refine am ?_ ?_<;>intro h32;refine nx J12 (aa λ_ J13=>CY (qx J13 (aa λ_ J14=>ap (sr λ_ J15=>tp (jh (r:=k) rfl gk kS rfl rfl (by first|omega|decide) (by first|omega|decide) (by omega)) ?_))));refine tp (cV (v:=(.int .u8 ((((t.getD k 0).toNat:Nat):Int)))) rfl Y5 rfl rfl (dT 0 rfl hv rfl) (p9 (by omega))) ?_;refine PS ?_;refine nx J15 (af (PS ?_));refine tp (w4 (r:=IntKind.i64.wrap ((FI (t.take k))*2^8)) rfl rfl rfl (by omega) rfl) ?_;refine PS ?_;refine tp (eg (r:=(((t.getD k 0).toNat:Nat):Int)) rfl Y5 Y3 rfl (bI (by omega) (by have:=UInt8.toNat_lt (n:=t.getD k 0);omega))) ?_;refine tp (Hy (r:=ik .i64 (IntKind.i64.wrap ((FI (t.take k))*2^8)) (((t.getD k 0).toNat:Nat):Int)) rfl rfl rfl rfl) ?_;refine PS ?_;refine au (ag (ac J14 (af (AD ?_))));refine PS ?_;refine au ?_
 exact aJ ((k+1):(Nat)) (by omega) (by show 4- (k+1)<4-k;omega)
  (aS (aS (aS (aS (aS (aS (bC rfl (congrArg (Value.int .i64) (Hn (by omega)).symm) SB)))))))
  (λ_ s=>s)
 refine nx J12 (aa λ_ J16=>CN (aZ (aB (aB (bw (ac J10 (aa λ_ J17=>qL (λw=>Frm F w∧Hx g (ek (t)) w∧True) dC rfl (λ_ s=>⟨e5 s,dT 0 rfl hv rfl _ s,trivial⟩) (PD 0 ?_))))))));refine ta 1 rfl (bv (r:=5) hv rfl gk kS rfl rfl (by omega) (by omega) rfl) ?_;refine ta 2 rfl (cV (v:=(.int .u8 ((((t.getD 5 0).toNat:Nat):Int)))) rfl Y5 rfl rfl (λ_ h=>h.2.1) (p9 (by omega))) ?_;refine ta 3 rfl (eg (r:=(((t.getD 5 0).toNat:Nat):Int)) rfl Y5 Y3 rfl (bI (by omega) (by have:=UInt8.toNat_lt (n:=t.getD 5 0);omega))) ?_;refine PD 4 ?_;refine ta 5 rfl (bv (r:=6) hv rfl gk kS rfl rfl (by omega) (by omega) rfl) ?_;refine ta 6 rfl (cV (v:=(.int .u8 ((((t.getD 6 0).toNat:Nat):Int)))) rfl Y5 rfl rfl (λ_ h=>h.2.1) (p9 (by omega))) ?_;refine ta 7 rfl (eg (r:=(((t.getD 6 0).toNat:Nat):Int)) rfl Y5 Y3 rfl (bI (by omega) (by have:=UInt8.toNat_lt (n:=t.getD 6 0);omega))) ?_;refine PD 8 ?_;refine PD 9 ?_;refine DN (ac J17 (aa λ_ J18=>sr λ_ J19=>P3 ?_));refine am ?_ ?_<;>intro h51;refine PS ?_
 iterate 6 refine UT ?_
 refine P2 ?_
 iterate 3 refine UT ?_
 refine P2 ?_;refine UT ?_;refine UT ?_;refine PS ?_;refine nx J19 (CY (sr λ_ J20=>P3 ?_));refine nx J20 (ai (ae (WK [] (my rfl rfl rfl rfl ?_))));exact .inl ⟨lR ht (.inl (by have:k=4:=(by omega);subst this;exact h51)),rfl,rfl⟩;refine P2 ?_;refine tq (bv (r:=4) hv rfl gk kS rfl rfl (by omega) (by omega) rfl) ?_;refine tq (cV (v:=(.int .u8 ((((t.getD 4 0).toNat:Nat):Int)))) rfl Y5 rfl rfl (dT 0 rfl hv rfl) (p9 (by omega))) ?_;refine tq (eg (r:=(((t.getD 4 0).toNat:Nat):Int)) rfl Y5 Y3 rfl (bI (by omega) (by have:=UInt8.toNat_lt (n:=t.getD 4 0);omega))) ?_;refine P2 ?_;refine am ?_ ?_<;>intro h58;refine P2 ?_
 iterate 3 refine UT ?_
 refine P2 ?_;refine UT ?_;refine UT ?_;refine PS ?_;refine nx J19 (CY (sr λ_ J21=>P3 ?_));exact nx J21 (ai (ae (WK [] (my rfl rfl rfl rfl (.inl ⟨lR ht (.inr (.inl h58)),rfl,rfl⟩)))))
 iterate 5 refine PS ?_
 refine am ?_ ?_<;>intro h63;refine P2 ?_;refine UT ?_;refine UT ?_;refine PS ?_;refine nx J19 (CY (sr λ_ J22=>P3 ?_));exact nx J22 (ai (ae (WK [] (my rfl rfl rfl rfl (.inl ⟨lR ht (.inr (.inr (.inl h63))),rfl,rfl⟩)))));refine P4 ?_;refine am ?_ ?_<;>intro h67;refine PS ?_;refine nx J19 (CY (sr λ_ J23=>P3 ?_));exact nx J23 (ai (ae (WK [] (my rfl rfl rfl rfl (.inl ⟨lR ht (.inr (.inr (.inr h67))),rfl,rfl⟩)))));refine PS ?_;refine nx J19 (CN (qx J18 (sr λ_ J24=>P2 ?_)));refine tp (cw (r:=((7+(t.getD 6 0).toNat:Nat):Int)) rfl rfl rfl (by rw[show(7:Int)+(((t.getD 6 0).toNat:Nat):Int)=((7+(t.getD 6 0).toNat:Nat):Int)by omega];have:=UInt8.toNat_lt (n:=t.getD 6 0);exact bI (by omega) (by omega))) ?_;refine tp (MV (PV.sliceLH (a:=some ⟨g,0,none⟩) (len:=t.length) (cap:=cap) (lo:=7) (hi:=7+(t.getD 6 0).toNat) rfl gk kS (by rw[←hv];rfl) rfl rfl rfl rfl (by omega) (by omega)) (congrArg (λq=>jC q 7 (7+(t.getD 6 0).toNat)) hv.symm)) ?_;refine P4 ?_;refine nx J24 (ai (aE (H':=[gm (jC u 7 (7+(t.getD 6 0).toNat)) ((t.drop 7).take (t.getD 6 0).toNat) 5]) (dE _) (λ_ s'=>ak [0] rfl (uR 0 rfl rfl hv (by omega) (by omega) (by omega) (by rw[nE,cm]) s')) (my rfl rfl rfl rfl ?_)));obtain rfl:k=4:=by omega
 have h1:s.getD 63 0=1:=UInt8.toNat_inj.1 (by have h1':(1:UInt8).toNat=1:=rfl;omega);exact .inr ⟨_,_,_,Au ht h1 (by omega),rfl,rfl⟩
end Go.Proofs.YtjblgopghhgflaaGreat
end

section
namespace Wal
open Go Leg Codec Api Dsk
theorem sI(i:Nat){us:List Value}{ls:List (List UInt8)}{e k:Nat}{B:List HP}{F:Hl}(hk:k<ls.length)(hi:Nat.blt i B.length=true)(hH:B.getD i (λ_=>True)=ej us ls e): ∀g,Dj g F→bH B g→IsB (us.getD k undef) ls[k] (jn g F):=λg d s=>by
 obtain⟨h1,h2,d',rfl,a,_⟩:=eI i (lb hi) s;rw[hH]at a;obtain⟨hl,a⟩:=a;obtain⟨u,e1,k1,k2,dk,rfl,a3⟩:=vV us ls e _ hl a k hk;rw[List.getD_eq_getElem?_getD,e1];exact zQ a3 λb o e=>gG (gG (gG e))
theorem In.read{s ws:fo}(h1:In s)(h2:In ws)(at':Int)(h: ¬(0≤at'∧at'<2048)): ∀k,k≤ws.length→iH s ws at' k=zs
 |0,_=>by
  show ky s at'=zs
  induction s with
  |nil=>rfl
  |cons p s ih=>
   obtain⟨a,b⟩:=p;simp only[ky];have hh:=h1 (a,b) (by simp);rw[if_neg (λe=>h (by simp only at hh;omega))];exact ih λq hq=>h1 q (by simp[hq])
 |k+1,hk=>by
  simp only[iH];rw[if_neg,In.read h1 h2 at' h k (by omega)];intro e;rw[ux (by omega)]at e;have hh:=h2 ws[k] (bZ _);exact h (by omega)
theorem DS.In.read{D:DS}(h:Wal.DS.In D){at':Int}(h2: ¬(0≤at'∧at'<2048)):D.read at'=zs:=Wal.In.read h.1 h.2 at' h2 _ (aP _)
theorem E4(number place:Int):e8 zs number place=none:=qo (by decide)
theorem vv{rd:Int→js}{number at' all:Int}: ∀(m:Nat) {b:List UInt8},kj rd number at' all m=some b→∀k,k<m→∃x,e8 (rd (at'+k)) number k=some (x,all)
 |0,_,_,k,hk=>by omega
 |m+1,b,h,k,hk=>by
  simp only[kj]at h;split at h
  · cases h
  · rename_i b' hb
    split at h
    · cases h
    · rename_i x same hx
      split at h
      · rename_i hs
        by_cases e:k=m
        · subst e;exact⟨x,by rw[hx,hs]⟩
        · exact vv m hb k (by omega)
      · cases h
theorem kH{rd:Int→js}{number at' all:Int}{b:List UInt8}(hl:(rd at').length=64)(h:fA rd number at'=some (b,all)):0<all∧all≤255∧∀k:Nat,(k:Int)<all→∃x,e8 (rd (at'+k)) number k=some (x,all):=by
 unfold fA at h;split at h
 · cases h
 · rename_i x al hp
   obtain⟨f1,f2,_⟩:=nV hl hp;obtain⟨c,hc,e⟩:=Option.map_eq_some_iff.1 h;injection e with e1 e2
   subst e1;subst e2;exact⟨f1,f2,λk hk=>vv _ hc k (by omega)⟩
theorem nN{D:DS}(hI:Wal.DS.In D)(hD:D.Ok){number at' all:Int}{b:List UInt8}(h0:0≤at')(h:fA D.read number at'=some (b,all)):at'+all≤2048:=by
 obtain⟨f1,f2,f3⟩:=kH (lu hD _) h;obtain⟨x,hx⟩:=f3 (all-1).toNat (by omega)
 by_cases q:at'+all≤2048
 · exact q
 · rw[DS.In.read hI (by omega),E4]at hx;cases hx
theorem xq{rd:Int→js}{f:Nat}{cnt used:Int}(h:fA rd (cnt+1) used=none):fE rd f cnt used=([],used):=by
 cases f with
 |zero=>rfl
 |succ f=>simp only[fE,h]
theorem Ds{rd:Int→js}{f:Nat}{cnt used all:Int}{b:List UInt8}(h:fA rd (cnt+1) used=some (b,all)):fE rd (f+1) cnt used=(b::(fE rd f (cnt+1) (used+all)).1,(fE rd f (cnt+1) (used+all)).2):=by simp only[fE,h]
def Scan(D:DS)(f:Nat)(rs:List (List UInt8))(used:Int):Prop:=
 fE D.read iO 0 0=(rs++(fE D.read f rs.length used).1,(fE D.read f rs.length used).2)∧0≤used∧used≤2048∧2049≤(f:Int)+used∧(rs.length:Int)≤used
theorem Scan.start(D:DS):Scan D iO [] 0:=by
 refine⟨?_,by omega,by omega,by rw[rI];omega,by simp⟩;have e:((([]:List (List UInt8)).length:Nat):Int)=0:=rfl;rw[ce,e]
theorem Scan.next{D:DS}(hI:Wal.DS.In D)(hD:D.Ok){f:Nat}{rs:List (List UInt8)}{used all:Int}{b:List UInt8}(h:Scan D f rs used)(h2:fA D.read ((rs.length:Int)+1) used=some (b,all)): ∃f',f=f'+1∧Scan D f' (rs++[b]) (used+all):=by
 obtain⟨h1,h0,h3,h4,h5⟩:=h;have hr:=nN hI hD h0 h2;have hf:=(kH (lu hD _) h2).1;obtain⟨f',rfl⟩: ∃f',f=f'+1:=⟨f-1,by omega⟩;refine⟨f',rfl,?_,by omega,by omega,by omega,by simp;omega⟩;rw[h1,Ds h2];simp
theorem Scan.stop{D:DS}{f:Nat}{rs:List (List UInt8)}{used:Int}(h:Scan D f rs used)(h2:fA D.read ((rs.length:Int)+1) used=none):fE D.read iO 0 0=(rs,used):=by
 rw[h.1,xq h2];simp
theorem zC{D:DS}{at':Int}(h:2048≤at'):jk (2048-at').toNat at' D=(0,D):=by rw[show(2048-at').toNat=0 by omega];rfl
theorem Ee{D:DS}{at':Int}(h:at'<2048)(h2:D.read at'=zs):jk (2048-at').toNat at' D=jk (2048- (at'+1)).toNat (at'+1) D:=by
 rw[show(2048-at').toNat=(2048- (at'+1)).toNat+1 by omega,jk,if_pos h2]
theorem HH{D:DS}{at':Int}(h:at'<2048)(h2:D.read at'≠zs)(h3:(D.write at' []).1=0):jk (2048-at').toNat at' D=jk (2048- (at'+1)).toNat (at'+1) (D.write at' []).2:=by
 rw[show(2048-at').toNat=(2048- (at'+1)).toNat+1 by omega,jk,if_neg h2,if_pos h3]
theorem Ef{D:DS}{at':Int}(h:at'<2048)(h2:D.read at'≠zs)(h3:(D.write at' []).1≠0):jk (2048-at').toNat at' D=D.write at' []:=by
 rw[show(2048-at').toNat=(2048- (at'+1)).toNat+1 by omega,jk,if_neg h2,if_neg h3]
theorem Cf{D D':DS}{rs:List (List UInt8)}{used e:Int}(h:fE D.read iO 0 0=(rs,used))(h2:jk (2048-used).toNat used D=(e,D'))(h3:e≠0):bL D=⟨e,[],0,D'⟩:=by
 simp only[bL,h,h2];rw[if_pos h3]
theorem Ce{D D':DS}{rs:List (List UInt8)}{used:Int}(h:fE D.read iO 0 0=(rs,used))(h2:jk (2048-used).toNat used D=(0,D'))(h3:D'.sync.1≠0):bL D=⟨D'.sync.1,[],0,D'.sync.2⟩:=by
 simp only[bL,h,h2,ne_eq,not_true_eq_false,if_false];rw[if_pos h3]
theorem Dz{D D':DS}{rs:List (List UInt8)}{used:Int}(h:fE D.read iO 0 0=(rs,used))(h2:jk (2048-used).toNat used D=(0,D'))(h3:D'.sync.1=0):bL D=⟨0,rs,used,D'.sync.2⟩:=by
 simp only[bL,h,h2,ne_eq,not_true_eq_false,if_false];rw[if_neg (by simp[h3])]
def fX:List js→Int→DS→Int×DS
 | [],_,D=>(0,D)
 |s::ss,at',D=>if(D.write at' s).1=0 then fX ss (at'+1) (D.write at' s).2 else D.write at' s
structure PutR where
 err:Int
 cnt:Nat
 used:Int
 D:DS
def ng(D:DS)(cnt:Nat)(used:Int)(bs:List UInt8):PutR:=
 if 3000<bs.length then⟨2,cnt,used,D⟩
 else if(bp bs.length:Int)>2048-used then⟨3,cnt,used,D⟩
 else
  let w:=fX (cj ((cnt+1:Nat):Int) bs) used D
  if w.1≠0 then⟨w.1,cnt,used,w.2⟩else if w.2.sync.1≠0 then⟨w.2.sync.1,cnt,used,w.2.sync.2⟩else⟨0,cnt+1,used+bp bs.length,w.2.sync.2⟩
theorem zz{ss:List js}{at':Int}{D:DS}{k:Nat}(hk:k<ss.length)(h:(D.write (at'+k) ss[k]).1=0):fX (ss.drop k) (at'+k) D=fX (ss.drop (k+1)) (at'+(k+1:Nat)) (D.write (at'+k) ss[k]).2:=by
 rw[di hk,fX,if_pos h];congr 1;omega
theorem zA{ss:List js}{at':Int}{D:DS}{k:Nat}(hk:k<ss.length)(h:(D.write (at'+k) ss[k]).1≠0):fX (ss.drop k) (at'+k) D=D.write (at'+k) ss[k]:=by
 rw[di hk,fX,if_neg h]
section
variable {D D':DS} {cnt:Nat} {used:Int} {bs:List UInt8}
theorem Gp(h:3000<bs.length):ng D cnt used bs=⟨2,cnt,used,D⟩:=by rw[ng,if_pos h]
theorem Gq(h: ¬3000<bs.length)(h2:(bp bs.length:Int)>2048-used):ng D cnt used bs=⟨3,cnt,used,D⟩:=by rw[ng,if_neg h,if_pos h2]
theorem EU{e:Int}(h: ¬3000<bs.length)(h2: ¬(bp bs.length:Int)>2048-used)(h3:fX (cj ((cnt+1:Nat):Int) bs) used D=(e,D'))(h4:e≠0):ng D cnt used bs=⟨e,cnt,used,D'⟩:=by
 rw[ng,if_neg h,if_neg h2];simp only[h3];rw[if_pos h4]
theorem ET(h: ¬3000<bs.length)(h2: ¬(bp bs.length:Int)>2048-used)(h3:fX (cj ((cnt+1:Nat):Int) bs) used D=(0,D'))(h4:D'.sync.1≠0):ng D cnt used bs=⟨D'.sync.1,cnt,used,D'.sync.2⟩:=by
 rw[ng,if_neg h,if_neg h2];simp only[h3,ne_eq,not_true_eq_false,if_false];rw[if_pos h4]
theorem put_ok(h: ¬3000<bs.length)(h2: ¬(bp bs.length:Int)>2048-used)(h3:fX (cj ((cnt+1:Nat):Int) bs) used D=(0,D'))(h4:D'.sync.1=0):ng D cnt used bs=⟨0,cnt+1,used+bp bs.length,D'.sync.2⟩:=by
 rw[ng,if_neg h,if_neg h2];simp only[h3,ne_eq,not_true_eq_false,if_false];rw[if_neg (by simp[h4])]
end
end Wal
end

section
namespace Go.Proofs.YtjblgopghhgflaaGreat
open Go Leg Codec Api Dsk Wal
abbrev DR(lg d:Nat)(cnt used:Int):HP:=aj lg [.pointer (some ⟨d,0,none⟩), .int .i64 cnt, .int .i64 used] 210
abbrev L9(v:Value)(ls:List (List UInt8)):HP:=lJ 93 5 v ls
theorem zZ(d:Nat)(D:DS)(number at':Int)(hD:D.Ok)(hb:D.ws.length≤1000000000)(ha:0≤at'∧at'≤1000000):
 DT 129 #[(.pointer (some ⟨d,0,none⟩)),(.int .i64 (number)),(.int .i64 (at'))] T0 [dk d (D)] (dw (λv H=>(fA D.read number at'=none∧v= .tuple #[.slice none 0 0, .int .i64 0, .bool false]∧H=[dk d D])∨∃b all u,fA D.read number at'=some (b,all)∧v= .tuple #[u, .int .i64 all, .bool true]∧H=[gm u b 5,dk d D])):=by
 refine BD 56 Tryz.func129 rfl rfl rfl λw0 F hF=>sr λ_ J1=>P3 ?_
 refine nx J1 (sr λ_ J2=>P2 ?_);refine CR GG (zc d (D) at' hD hb) ID λvR HR hR=>?_
 obtain⟨hv,rfl⟩:=hR;subst hv;refine PS ?_;refine CR IQ (vj ((D).read at') number 0 (lu hD _)) ID λvR HR hR=>?_
 rcases hR with⟨hp,rfl,rfl⟩| ⟨b,all,u,hp,rfl,rfl⟩
 refine P4 ?_;refine P3 ?_;refine nx J2 (aa λ_ J3=>sr λ_ J4=>PS ?_);refine PS ?_;refine nx J4 (CY (sr λ_ J5=>P3 ?_));exact nx J5 (ai (ae (WK [0] (my rfl rfl rfl rfl (.inl ⟨pW hp,rfl,rfl⟩)))));refine TL.subLen 0 rfl rfl (λhul hu=>?_);have hpf:=nV (lu hD _) hp;refine P4 ?_;refine P3 ?_;refine nx J2 (aa λ_ J6=>sr λ_ J7=>PS ?_);refine PS ?_;refine nx J7 (CN (qx J6 (aa λ_ J8=>sr λ_ J9=>PS ?_)));refine nx J9 (ap ?_)
 refine bB (α:=(Nat)×(List UInt8)×(Value)) (λ⟨k,c,w⟩=>1≤k∧k≤all.toNat∧kj D.read number at' all k=some c∧c.length≤k*52∧w.oneCell'=true) (λ⟨k,c,w⟩=>[(0,(.pointer (some ⟨d,0,none⟩))),(1,(.int .i64 (number))),(2,(.int .i64 (at'))),(9,w),(10,(.int .i64 (all))),(12,(.int .i64 (((k:Nat):Int))))]) (λ⟨k,c,w⟩=>[gm w (c) 5,dk d (D)]) (λ⟨k,c,w⟩=>all.toNat-k) (1,b,u)
  ⟨aP _,by omega,Fh hp,by omega,hu⟩ SB
  (λ_ s=>s) (λ⟨k,c,w⟩ hinv=>?_)
 obtain⟨hk1,hk2,hk3,hk4,hw⟩:=hinv;refine aa λ_ J10=>sr λ_ J11=>P3 ?_
 refine am ?_ ?_<;>intro h29;refine nx J11 (CY (qx J10 (aa λ_ J12=>ap (sr λ_ J13=>P3 ?_))));refine AD ?_;refine CR GG (zc d (D) (at'+((k:Nat):Int)) hD hb) (SM [1]) λvR HR hR=>?_
 obtain⟨hv,rfl⟩:=hR;subst hv;refine P2 ?_;refine CR IQ (vj ((D).read (at'+((k:Nat):Int))) number ((k:Nat):Int) (lu hD _)) ID λvR HR hR=>?_
 rcases hR with⟨hp2,rfl,rfl⟩| ⟨b2,all2,u2,hp2,rfl,rfl⟩
 refine P4 ?_;refine P3 ?_;refine nx J13 (aa λ_ J14=>sr λ_ J15=>PS ?_);refine PS ?_;refine PS ?_
 iterate 3 refine UT ?_
 refine PS ?_;refine nx J15 (CY (sr λ_ J16=>P3 ?_));refine nx J16 (ai (ae (aH (ae (ae (aH (ae (WK [0] (my rfl rfl rfl rfl ?_)))))))));exact .inl ⟨pV hp (vu (.inl hp2) _ (by omega)),rfl,rfl⟩;refine TL.subLen 0 rfl rfl (λhul2 hu2=>?_);have hpf2:=nV (lu hD _) hp2;refine P4 ?_;refine P3 ?_;refine nx J13 (aa λ_ J17=>sr λ_ J18=>PS ?_);refine PS ?_;refine P4 ?_;refine am ?_ ?_<;>intro h49;refine PS ?_;refine nx J18 (CY (sr λ_ J19=>P3 ?_));refine nx J19 (ai (ae (aH (ae (ae (aH (ae (WK [1] (my rfl rfl rfl rfl ?_)))))))));exact .inl ⟨pV hp (vu (.inr ⟨b2,all2,hp2,h49⟩) _ (by omega)),rfl,rfl⟩;refine PS ?_;refine nx J18 (CN (qx J17 (af (P2 ?_))));refine TL.appendS (k:=2) (news:=b2) (bs':=c++b2) (ab rfl) rfl rfl rfl gk xQ rfl rfl rfl rfl (λ_ s=>Src.sub 0 rfl rfl s) (by omega) rfl (λv53 ov53=>PS ?_);refine au (ag (ac J12 (af (PS ?_))));refine AD ?_;refine PS ?_;refine au ?_
 exact aJ ((k+1,c++b2,v53):(Nat)×(List UInt8)×(Value)) ⟨by omega,by omega,vw hk3 (by rw[hp2,show all2=all by omega]),by rw[ad];omega,ov53⟩ (by show all.toNat- (k+1)<all.toNat-k;omega)
  SB
  (λ_ s=>ak [2,1] rfl s)
 refine nx J11 (CN (aZ (aB (aB (bw (ac J8 (sr λ_ J20=>?_)))))))
 iterate 5 refine PS ?_
 refine nx J20 (ai (WK [0,0] (my rfl rfl rfl rfl ?_)));exact .inr ⟨c,all,w,rj hp (by rw[show all.toNat=k by omega];exact hk3),rfl,rfl⟩
theorem EL(lg d:Nat)(cnt used:Int)(h:0≤used∧used≤2048):
 DT 177 #[(.pointer (some ⟨lg,0,none⟩))] T0 [aj lg [(.pointer (some ⟨d,0,none⟩)),(.int .i64 (cnt)),(.int .i64 (used))] 210] (RI (.int .i64 (2048-used)) [DR lg d cnt used]):=by
 refine BD 8 Tryz.func177 rfl rfl rfl λw0 F hF=>sr λ_ J1=>PS ?_
 refine nx J1 (sr λ_ J2=>P2 ?_);refine FA 2 pS aO ?_;refine LA 0 Y3 ?_;refine tp (jE rfl rfl rfl (bI (by omega) (by omega))) ?_;refine PS ?_;exact nx J2 (ai (WK [0] (aq rfl rfl ⟨rfl,rfl⟩)))
theorem zJ(lg d cnt:Nat)(used:Int)(x:Value)(bs:List UInt8)(D:DS)(hD:D.Ok)(hb:D.ws.length≤1000000)(hu:0≤used∧used≤2048)(hc:cnt≤1000000):
 DT 166 #[(.pointer (some ⟨lg,0,none⟩)),x] (IsW x bs) [aj lg [(.pointer (some ⟨d,0,none⟩)),(.int .i64 (((cnt:Nat):Int))),(.int .i64 (used))] 210,dk d (D)] (RI (.int .i64 (ng D cnt used bs).err) [DR lg d (((ng D cnt used bs).cnt:Nat):Int) (ng D cnt used bs).used,dk d (ng D cnt used bs).D]):=by
 refine BD 72 Tryz.func166 rfl rfl rfl λw0 F hF=>sr λ_ J1=>PS ?_
 refine nx J1 (aa λ_ J2=>sr λ_ J3=>PS ?_);refine tp (cu rfl gk rfl hF.len) ?_;refine PS ?_;refine am ?_ ?_<;>intro h12;refine nx J3 (CY (sr λ_ J4=>PS ?_));refine nx J4 (ai (ae (WK [0,0] (aq rfl rfl ?_))));rw[Gp (by omega)];exact⟨rfl,rfl⟩;refine nx J3 (CN (qx J2 (sr λ_ J5=>PS ?_)));refine tp (cu rfl gk rfl hF.len) ?_;refine CE IK (tg bs.length (by omega)) ID ?_;refine PS ?_;refine nx J5 (aa λ_ J6=>sr λ_ J7=>P2 ?_);refine CE KS (EL lg d ((cnt:Nat):Int) used hu) ID ?_;refine PS ?_;refine am ?_ ?_<;>intro h19;refine nx J7 (CY (sr λ_ J8=>PS ?_));refine nx J8 (ai (ae (WK [0,0] (aq rfl rfl ?_))));rw[Gq (by omega) (by omega)];exact⟨rfl,rfl⟩;refine nx J7 (CN (qx J6 (aa λ_ J9=>sr λ_ J10=>P2 ?_)));refine FA 1 pS aO ?_;refine LA 0 Y3 ?_;refine tp (MV (v':=(.int .i64 (((cnt+1:Nat):Int)))) (cw rfl rfl rfl (bI (by omega) (by omega))) rfl) ?_;refine PS ?_;refine CQ KR (yC x (cnt+1) bs (by omega)) ID (λg d _=>LO hF d) λvR HR hR=>?_
 have hR:=hR;subst hR;change TL _ _ _ _ _ _ _ _ _ [lJ 93 5 vR (cj ((cnt+1:Nat):Int) bs),aj lg [(.pointer (some ⟨d,0,none⟩)),(.int .i64 (((cnt:Nat):Int))),(.int .i64 (used))] 210,dk d (D)];refine TL.recsLen 0 rfl rfl (λhrl hro=>?_);rw[el]at hrl;refine tp (cu rfl tN rfl hrl) ?_;refine PS ?_;refine nx J10 (ap ?_)
 refine bB (α:=(Nat)×(DS)) (λ⟨k,D'⟩=>k≤bp bs.length∧fX (cj ((cnt+1:Nat):Int) bs) used D=fX ((cj ((cnt+1:Nat):Int) bs).drop k) (used+(k:Nat)) D'∧D'.Ok∧D'.ws.length≤D.ws.length+k) (λ⟨k,D'⟩=>[(0,(.pointer (some ⟨lg,0,none⟩))),(5,(.int .i64 (((bp bs.length:Nat):Int)))),(26,vR),(27,(.int .i64 ((((bp bs.length):Nat):Int)))),(28,(.int .i64 (((k:Nat):Int))))]) (λ⟨k,D'⟩=>[aj lg [(.pointer (some ⟨d,0,none⟩)),(.int .i64 (((cnt:Nat):Int))),(.int .i64 (used))] 210,dk d (D'),lJ 93 5 vR (cj ((cnt+1:Nat):Int) bs)]) (λ⟨k,D'⟩=>bp bs.length-k) (0,D)
  ⟨aN _,by simp,hD,by omega⟩ SB
  (λ_ s=>az [1,1,0] rfl s) (λ⟨k,D'⟩ hinv=>?_)
 obtain⟨hk,hwr,hD',hws⟩:=hinv;refine sr λ_ J11=>PS ?_
 refine am ?_ ?_<;>intro h29;refine cp (λ_ s=>az [2] rfl s) (Jc (λus=>?_));change TL _ _ _ _ _ _ _ _ _ [own vR ((cj ((cnt+1:Nat):Int) bs).length) (us) 93 1,ej us (cj ((cnt+1:Nat):Int) bs) 5,aj lg [(.pointer (some ⟨d,0,none⟩)),(.int .i64 (((cnt:Nat):Int))),(.int .i64 (used))] 210,dk d (D')];refine wW (p:=us.length=(cj ((cnt+1:Nat):Int) bs).length*1) (λw m=>m.own_len (i:=0) (lb rfl) rfl) (λhul=>?_);rw[el,fy]at hul;have hkl:k< (cj ((cnt+1:Nat):Int) bs).length:=by rw[el];omega
 obtain⟨sk,hsk⟩: ∃x,(cj ((cnt+1:Nat):Int) bs)[k]=x:=⟨_,rfl⟩;refine fG 0 rfl rfl (by omega) (λg cap hv hcap=>nx J11 (aa λ_ J12=>CY (qx J12 (aa λ_ J13=>ap (sr λ_ J14=>PS ?_)))));refine tp (bv (r:=k) hv rfl tN mR rfl rfl (by omega) (by omega) (by omega)) ?_;refine tp (cV (v:=(us.getD k undef)) rfl gk rfl rfl (dT 0 rfl hv rfl) (by simp[List.getD_eq_getElem?_getD,show k<us.length by omega])) ?_;refine P2 ?_;refine nx J14 (aa λ_ J15=>D1 2 dC ?_);refine PD 0 ?_;refine PD 1 ?_;refine FD 2 0 pS oU ?_;refine LX 3 wj (.pointer (some ⟨d,0,none⟩)) ?_ (hc:=by exact rfl);refine PD 4 ?_;refine PD 5 ?_;refine FD 6 2 pS aO ?_;refine LX 7 Y3 (.int .i64 (used)) ?_ (hc:=by exact rfl);refine PD 8 ?_;refine ta 9 rfl (cw rfl rfl rfl (bI (by omega) (by omega))) ?_;refine PD 10 ?_;refine AL 11 ?_;refine CQ KA (A8 d D' (used+((k:Nat):Int)) (us.getD k undef) sk hD' (by omega)) (SM [3]) (λg d s=>Jf (hsk▸sI 1 hkl rfl rfl g d s)) λvR HR hR=>?_
 obtain⟨hv2,rfl⟩:=hR;subst hv2;refine EN (PD 12 ?_);refine DN (ac J15 (sr λ_ J16=>P2 ?_));refine am ?_ ?_<;>intro h46;refine nx J16 (CY (sr λ_ J17=>P2 ?_));refine nx J17 (ai (aH (ae (ae (aH (ae (WK [3,0] (aq rfl rfl ?_))))))));have hf:=zA (D:=D') (at':=used) hkl (by rw[hsk];exact h46);rw[hsk]at hf;rw[EU (by omega) (by omega) (hwr.trans hf) h46];exact⟨rfl,rfl⟩;refine nx J16 (CN (aQ (ag (ac J13 (af (AD ?_))))));refine PS ?_;refine au ?_
 exact aJ ((k+1,(D'.write (used+((k:Nat):Int)) sk).2):(Nat)×(DS)) ⟨by omega,by rw[hwr];subst hsk;exact zz hkl (by simpa using h46),DS.write_ok hD' _ _,by have:=DS.write_ws (D:=D') (at':=used+((k:Nat):Int)) (bs:=sk);omega⟩ (by show bp bs.length- (k+1)<bp bs.length-k;omega)
  SB
  (λ_ s=>az [1,1,0] rfl (bi (p:=λus:List Value=>[own vR (cj ((cnt+1:Nat):Int) bs).length us 93 1,ej us (cj ((cnt+1:Nat):Int) bs) 5]) us (ak [1,1,1,0] rfl s)))
 refine nx J11 (aa λ_ J18=>CN (aZ (aB (aB (bw (ac J9 (aa λ_ J19=>sr λ_ J20=>P2 ?_)))))));refine FA 0 pS oU ?_;refine LA 0 wj ?_;refine CR Kz (DZ d (D') hD') (SM [1]) λvR HR hR=>?_
 obtain⟨hv,rfl⟩:=hR;subst hv;refine PS ?_;refine nx J20 (sr λ_ J21=>P2 ?_);refine am ?_ ?_<;>intro h55;refine nx J21 (CY (sr λ_ J22=>P2 ?_));refine nx J22 (ai (ae (WK [1,0] (aq rfl rfl ?_))));have hf:fX (cj ((cnt+1:Nat):Int) bs) used D=(0,D'):=by rw[hwr,cE (by rw[el];omega)];rfl
 rw[ET (by omega) (by omega) hf h55];exact⟨rfl,rfl⟩;refine nx J21 (CN (qx J19 (sr λ_ J23=>P2 ?_)));refine FA 1 pS aO ?_;refine LA 1 Y3 ?_;refine AD ?_;refine PS ?_;refine FA 1 pS aO ?_;refine S0 1 aO ?_;refine nx J23 (sr λ_ J24=>P2 ?_);refine FA 2 pS aO ?_;refine LA 1 Y3 ?_;refine PS ?_;refine AD ?_;refine PS ?_;refine FA 2 pS aO ?_;refine S0 1 aO ?_;refine nx J24 (sr λ_ J25=>PS ?_);refine nx J25 (ai (WK [1,0] (aq rfl rfl ?_)));have hf:fX (cj ((cnt+1:Nat):Int) bs) used D=(0,D'):=by rw[hwr,cE (by rw[el];omega)];rfl
 rw[put_ok (by omega) (by omega) hf (by simpa using h55)];exact⟨rfl,rfl⟩
theorem Fa(d:Nat)(D:DS)(hD:D.Ok)(hI:Wal.DS.In D)(hb:D.ws.length≤1000000):
 DT 92 #[(.pointer (some ⟨d,0,none⟩))] T0 [dk d (D)] (dw (λv H=>((bL D).err≠0∧v= .tuple #[.pointer none, .slice none 0 0, .int .i64 (bL D).err]∧H=[dk d (bL D).D])∨((bL D).err=0∧∃lg vr,v= .tuple #[.pointer (some ⟨lg,0,none⟩),vr, .int .i64 0]∧H=[DR lg d (((bL D).recs.length:Nat):Int) (bL D).used,L9 vr (bL D).recs,dk d (bL D).D]))):=by
 refine BD 80 Tryz.func92 rfl rfl rfl λw0 F hF=>sr λ_ J1=>P3 ?_
 refine nx J1 (aa λ_ J2=>sr λ_ J3=>PS ?_);refine tp (jF rfl wj rfl rfl) ?_;refine nx J3 (CN (qx J2 (sr λ_ J4=>PS ?_)));refine BV #[(.pointer (some ⟨d,0,none⟩)),(.int .i64 0),(.int .i64 0)] ?_;refine XB λb17=>?_
 refine PS ?_;refine nx J4 (sr λ_ J5=>PS ?_);refine nx J5 (aa λ_ J6=>ap ?_)
 refine bB (α:=(Nat)×(List (List UInt8))×(Int)×(Value)) (λ⟨f,rs,used,vr⟩=>Scan D f rs used∧vr.oneCell'=true) (λ⟨f,rs,used,vr⟩=>[(0,(.pointer (some ⟨d,0,none⟩))),(2,(.pointer none)),(3,(.slice none 0 0)),(4,(.int .i64 0)),(5,(.pointer (some ⟨b17,0,none⟩))),(6,vr)]) (λ⟨f,rs,used,vr⟩=>[aj b17 [(.pointer (some ⟨d,0,none⟩)),(.int .i64 (((rs.length:Nat):Int))),(.int .i64 (used))] 210,dk d (D),lJ 93 5 vr (rs)]) (λ⟨f,rs,used,vr⟩=>f) (iO,[],0,(.slice none 0 0))
  ⟨Scan.start D,rfl⟩ SB
  (λ_ s=>dX (List.Perm.trans (List.Perm.swap _ _ _) (List.Perm.cons _ (List.Perm.swap _ _ _))) (s5 93 5 s)) (λ⟨f,rs,used,vr⟩ hinv=>?_)
 obtain⟨hsc,hvr⟩:=hinv;obtain⟨hs1,hs2,hs3,hs4,hs5⟩:=id hsc;refine ap (aa λ_ J7=>D1 0 dC ?_);refine PD 0 ?_;refine PD 1 ?_;refine PD 2 ?_;refine FD 3 1 pS aO ?_;refine LX 4 Y3 (.int .i64 (((rs.length:Nat):Int))) ?_ (hc:=by exact rfl);refine ta 5 rfl (cw rfl rfl rfl (bI (by omega) (by omega))) ?_;refine PD 6 ?_;refine PD 7 ?_;refine FD 8 2 pS aO ?_;refine LX 9 Y3 (.int .i64 (used)) ?_ (hc:=by exact rfl);refine AL 10 ?_;refine CR Lm (zZ d D (((rs.length:Nat):Int)+1) used hD (by omega) (by omega)) (SM [1]) λvR HR hR=>?_
 rcases hR with⟨hst,rfl,rfl⟩| ⟨b,all,u,hst,rfl,rfl⟩
 have hss:=Scan.stop hsc hst;refine EN (PD 11 ?_);refine PD 12 ?_;refine PD 13 ?_;refine PD 14 ?_;refine PD 15 ?_;refine PD 16 ?_;refine PD 17 ?_;refine DN (ac J7 (aa λ_ J8=>sr λ_ J9=>PS ?_));refine PS ?_;refine nx J9 (CY (aZ (aB (TE.miss (by decide) (aB (bw (ac J6 (aa λ_ J10=>sr λ_ J11=>P2 ?_))))))));refine FA 2 pS aO ?_;refine LA 1 Y3 ?_;refine PS ?_;refine nx J11 (ap ?_)
 refine bB (α:=(Int)×(DS)) (λ⟨at',D'⟩=>used≤at'∧at'≤2048∧jk (2048-used).toNat used D=jk (2048-at').toNat at' D'∧D'.Ok∧D'.ws.length≤D.ws.length+(at'-used).toNat) (λ⟨at',D'⟩=>[(0,(.pointer (some ⟨d,0,none⟩))),(5,(.pointer (some ⟨b17,0,none⟩))),(6,vr),(10,(.int .i64 (at')))]) (λ⟨at',D'⟩=>[aj b17 [(.pointer (some ⟨d,0,none⟩)),(.int .i64 (((rs.length:Nat):Int))),(.int .i64 (used))] 210,dk d (D'),lJ 93 5 vr (rs)]) (λ⟨at',D'⟩=>(2048-at').toNat) (used,D)
  ⟨by omega,by omega,rfl,hD,by omega⟩ SB
  (λ_ s=>ak [1,0,0] rfl s) (λ⟨at',D'⟩ hinv=>?_)
 obtain⟨ha1,ha2,hwi,hD',hws⟩:=hinv;refine aa λ_ J12=>sr λ_ J13=>P2 ?_
 refine am ?_ ?_<;>intro h59;refine nx J13 (CY (qx J12 (aa λ_ J14=>ap (aa λ_ J15=>sr λ_ J16=>P2 ?_))));refine CR GG (zc d (D') at' hD' (by omega)) (SM [1]) λvR HR hR=>?_
 obtain⟨hv,rfl⟩:=hR;subst hv;refine BV ((ek zs).toArray) ?_;refine tp (PV.eqlBy (a:=((D').read at')) (b:=zs) (m:=2) Ki Kg rfl Kk Km Kl (lu hD' _) (by decide) rfl rfl rfl) ?_;refine am ?_ ?_<;>intro h66;refine nx J16 (CY (aZ (aB (bw (ac J14 (af (PS ?_)))))));refine AD ?_;refine PS ?_;refine au ?_
 exact aJ ((at'+1,D'):(Int)×(DS)) ⟨by omega,by omega,by rw[hwi];exact Ee (by omega) h66,hD',by omega⟩ (by show(2048- (at'+1)).toNat< (2048-at').toNat;omega)
  SB
  (λ_ s=>ak [1,0,0] rfl s)
 refine nx J16 (CN (qx J15 (sr λ_ J17=>P2 ?_)));refine CQ KA (A8 d (D') at' (.slice none 0 0) ([]) hD' (by omega)) ID (λ_ _ _=> .inl (.inl ⟨rfl,rfl⟩)) λvR HR hR=>?_
 obtain⟨hv,rfl⟩:=hR;subst hv;refine PS ?_;refine nx J17 (sr λ_ J18=>P2 ?_);refine am ?_ ?_<;>intro h71;refine nx J18 (CY (sr λ_ J19=>P4 ?_));refine nx J19 (ai (aH (ae (ae (aH (ae (WK [0] (my rfl rfl rfl rfl ?_))))))));rw[Cf hss (hwi.trans (Ef (by omega) h66 h71)) h71];exact .inl ⟨h71,rfl,rfl⟩;refine nx J18 (CN (aQ (ag (ac J14 (af (PS ?_))))));refine AD ?_;refine PS ?_;refine au ?_
 exact aJ ((at'+1,(D'.write at' []).2):(Int)×(DS)) ⟨by omega,by omega,by rw[hwi];exact HH (by omega) h66 (by simpa using h71),DS.write_ok hD' _ _,by have:=DS.write_ws (D:=D') (at':=at') (bs:=[]);omega⟩ (by show(2048- (at'+1)).toNat< (2048-at').toNat;omega)
  SB
  (λ_ s=>ak [1,0,0] rfl s)
 refine nx J13 (CN (aZ (aB (aB (bw (ac J10 (aa λ_ J20=>sr λ_ J21=>PS ?_)))))));refine CR Kz (DZ d (D') hD') (SM [1]) λvR HR hR=>?_
 obtain⟨hv,rfl⟩:=hR;subst hv;refine PS ?_;refine nx J21 (sr λ_ J22=>P2 ?_);refine am ?_ ?_<;>intro h76;refine nx J22 (CY (sr λ_ J23=>P4 ?_));refine nx J23 (ai (ae (WK [0] (my rfl rfl rfl rfl ?_))));rw[Ce hss (hwi.trans (zC (by omega))) h76];exact .inl ⟨h76,rfl,rfl⟩;refine nx J22 (CN (qx J20 (sr λ_ J24=>?_)))
 iterate 5 refine PS ?_
 refine nx J24 (ai (WK [1,1,0] (my rfl rfl rfl rfl ?_)));have h76':D'.sync.1=0:=by omega
 rw[Dz hss (hwi.trans (zC (by omega))) h76'];exact .inr ⟨rfl,b17,vr,rfl,rfl⟩;have hro:=nN hI hD (by omega) hst;have hfa:=(kH (lu hD _) hst).1;obtain⟨f',rfl,hsn⟩:=Scan.next hI hD hsc hst;refine TL.subLen 0 rfl rfl (λhul hu=>EN (PD 11 ?_));refine PD 12 ?_;refine PD 13 ?_;refine PD 14 ?_;refine PD 15 ?_;refine PD 16 ?_;refine PD 17 ?_;refine DN (ac J7 (aa λ_ J25=>sr λ_ J26=>PS ?_));refine PS ?_;refine nx J26 (CN (qx J25 (sr λ_ J27=>P2 ?_)));refine aU (cells:=#[u]) (ab rfl) rfl rfl rfl tN Fp rfl rfl rfl (rM hu (by simp)) (λb37=>?_);change TL _ _ _ _ _ _ _ _ _ [aj b37 [u] 93,gm u (b) 5,dk d (D),aj b17 [(.pointer (some ⟨d,0,none⟩)),(.int .i64 (((rs.length:Nat):Int))),(.int .i64 (used))] 210,lJ 93 5 vr (rs)];refine cp (λ_ s=>az [4] rfl s) (Jc (λus38=>cG (k:=0) (m:=1) (news:=[u]) (nn':=(rs).length+1) (xs':=us38++[u]) (ab rfl) rfl rfl rfl tN Fp rfl rfl rfl rfl rfl rfl (λ_ _=>jg rfl (RO 2) rfl) (List.forall_mem_cons.2 ⟨hu,λ_ h=>by cases h⟩) (by simp only[maxLen];omega) (by omega) rfl rfl (λv38 ov38=>?_)));change TL _ _ _ _ _ _ _ _ _ [own v38 ((rs).length+1) (us38++[u]) 93 1,ej us38 (rs) 5,aj b37 [u] 93,gm u (b) 5,dk d (D),aj b17 [(.pointer (some ⟨d,0,none⟩)),(.int .i64 (((rs.length:Nat):Int))),(.int .i64 (used))] 210]
 refine cp (H':=[own v38 ((rs).length+1) (us38++[u]) 93 1,ej us38 (rs) 5,gm u (b) 5,aj b37 [u] 93,dk d (D),aj b17 [(.pointer (some ⟨d,0,none⟩)),(.int .i64 (((rs.length:Nat):Int))),(.int .i64 (used))] 210]) (λ_ s=>az [0,0,1] rfl s) (cp (λ_ s=>s7 s) (PS ?_));refine nx J27 (sr λ_ J28=>P2 ?_);refine FA 1 pS aO ?_;refine LA 3 Y3 ?_;refine tp (MV (v':=(.int .i64 ((((rs++[b]).length:Nat):Int)))) (cw rfl rfl rfl (bI (by omega) (by omega))) (congrArg (Value.int .i64) (by simp))) ?_;refine PS ?_;refine FA 1 pS aO ?_;refine S0 3 aO ?_;refine nx J28 (af (P2 ?_));refine FA 2 pS aO ?_;refine LA 3 Y3 ?_;refine PS ?_;refine AD ?_;refine PS ?_;refine FA 2 pS aO ?_;refine S0 3 aO ?_;refine au (ag ?_)
 exact aJ ((f',rs++[b],used+all,v38):(Nat)×(List (List UInt8))×(Int)×(Value)) ⟨hsn,ov38⟩ (Nat.lt_succ_self _)
  SB
  (λ_ s=>ak [3,2,0] rfl s)
end Go.Proofs.YtjblgopghhgflaaGreat
end

section
namespace Wal
open Go Leg Codec Api Dsk
theorem Aa(s ws:fo)(j:Int): ∀k,ky (AJ s ws k) j=iH s ws j k
 |0=>rfl
 |k+1=>by
  rw[AJ,iH,F8,Aa s ws j k]
  by_cases h:j=(kn ws k).1
  · rw[if_pos h,if_pos h.symm]
  · rw[if_neg h,if_neg (λq=>h q.symm)]
theorem FU{ws x:fo}{k:Nat}(h:k<ws.length):kn (ws++x) k=kn ws k:=by simp[kn,List.getD_eq_getElem?_getD,List.getElem?_append_left h]
theorem vd{s ws x:fo}{j:Int}: ∀k,k≤ws.length→iH s (ws++x) j k=iH s ws j k
 |0,_=>rfl
 |k+1,h=>by rw[iH,iH,FU (by omega),vd k (by omega)]
theorem ES(s ws:fo)(p:Int×js)(j:Int):iH s (ws++[p]) j (ws++[p]).length=if j=p.1 then p.2 else iH s ws j ws.length:=by
 rw[ad,ax,aA,bh,iH,vd _ (aP _)];have:kn (ws++[p]) ws.length=p:=by simp[kn,List.getD_eq_getElem?_getD]
 rw[this]
 by_cases h:j=p.1
 · rw[if_pos h,if_pos h.symm]
 · rw[if_neg h,if_neg (λq=>h q.symm)]
def Cc(D:DS)(at':Int)(bs:List UInt8):DS:= {D with ws:=D.ws++[(at',eB bs)],lf:=if D.ar=true then D.lf-1 else D.lf,dn:=false}
theorem ul{D:DS}{at':Int}{bs:List UInt8}(h1:0≤at'∧at'<2048)(h2:bs.length≤64)(h3:D.dn=false)(h4:D.ar=false∨0<D.lf):D.write at' bs=(0,Cc D at' bs):=by
 rw[DS.write,if_neg (by omega),if_neg]
 · rfl
 · rintro (h| ⟨h,h5⟩)
   · rw[h3]at h;cases h
   · rcases h4 with h4|h4
     · rw[h4]at h;cases h
     · omega
theorem BC{D:DS}{at':Int}{bs:List UInt8}(h1:0≤at'∧at'<2048)(h2:bs.length≤64)(h4:D.ar=true∧D.lf=0):D.write at' bs=(4,{D with dn:=true}):=by
 rw[DS.write,if_neg (by omega),if_pos (.inr h4)]
theorem EX(D:DS)(at':Int)(bs:List UInt8)(j:Int):(Cc D at' bs).read j=if j=at' then eB bs else D.read j:=ES _ _ _ _
theorem Dw{D:DS}(h:D.Ok){at':Int}{bs:List UInt8}(h2:bs.length≤64)(h4:D.ar=false∨0<D.lf):(Cc D at' bs).Ok:=by
 refine⟨h.s,h.ws.add _ (du h2),?_⟩;have:=h.lf;show 0≤(if D.ar=true then D.lf-1 else D.lf)∧(if D.ar=true then D.lf-1 else D.lf)≤9223372036854775807;split
 · rename_i h5
   rcases h4 with h4|h4
   · rw[h4]at h5;cases h5
   · omega
 · exact this
theorem Dx{D:DS}(h:Wal.DS.In D){at':Int}{bs:List UInt8}(h1:0≤at'∧at'<2048):Wal.DS.In (Cc D at' bs):=⟨h.1,λp hp=>by
 rcases cx.1 hp with hp|hp
 · exact h.2 p hp
 · simp only[da]at hp;subst hp;exact h1⟩
theorem In.put{s:fo}(h:In s){k:Int}{v:js}(h1:0≤k∧k<2048):In (m9 s k v):=by
 induction s with
 |nil=>intro p hp;simp only[m9,da]at hp;subst hp;exact h1
 |cons p s ih=>
  obtain⟨a,b⟩:=p;intro q hq;simp only[m9]at hq;split at hq
  · rcases ci.1 hq with rfl|hq
    · exact h (a,b) (by simp)
    · exact h q (by simp[hq])
  · rcases ci.1 hq with rfl|hq
    · exact h (a,b) (by simp)
    · exact ih (λq hq=>h q (by simp[hq])) q hq
theorem In.lay{s ws:fo}(h:In s)(hw:In ws): ∀k,k≤ws.length→In (AJ s ws k)
 |0,_=>h
 |k+1,hk=>by
  have:=hw (kn ws k) (by rw[ux (by omega)];exact bZ _);exact(In.lay h hw k (by omega)).put this
theorem In.crash{mask torn:Int}{c:Nat}{s ws:fo}(h:In s)(hw:In ws): ∀k,k≤ws.length→In (mp mask torn c s ws k)
 |0,_=>h
 |k+1,hk=>by
  have h1:=hw (kn ws k) (by rw[ux (by omega)];exact bZ _);have ih:=In.crash (mask:=mask) (torn:=torn) (c:=c) h hw k (by omega);simp only[mp,l5];split
  · exact ih.put h1
  · split
    · exact ih.put h1
    · exact ih
theorem In.nil:In []:=λ_ h=>absurd h (by simp)
abbrev Nb:= @In.nil
structure Calm(D:DS):Prop where
 ok:D.Ok
 inn:Wal.DS.In D
 ar:D.ar=false
 dn:D.dn=false
theorem Calm.crash{D:DS}(h:D.Ok)(hi:Wal.DS.In D)(mask torn n:Int):Calm (D.crash mask torn n):=⟨DS.crash_ok h _ _ _,⟨hi.1.crash hi.2 _ (aP _),Nb⟩,rfl,rfl⟩
theorem Er{D:DS}(h:D.dn=false)(j:Int):D.sync.2.read j=D.read j:=by
 unfold DS.sync;rw[if_neg (by simp[h])];exact Aa _ _ _ _
theorem sw{D:DS}(h:D.dn=false):D.sync.1=0∧D.sync.2.ws=[]∧D.sync.2.dn=false∧D.sync.2.ar=D.ar∧D.sync.2.lf=D.lf:=by
 unfold DS.sync;rw[if_neg (by simp[h])];exact⟨rfl,rfl,h,rfl,rfl⟩
theorem Do{D:DS}(h:Wal.DS.In D):Wal.DS.In D.sync.2:=by
 unfold DS.sync;split
 · exact h
 · exact⟨h.1.lay h.2 _ (aP _),Nb⟩
theorem Calm.sync{D:DS}(h:Calm D):Calm D.sync.2:=by
 obtain⟨_,_,h3,h4,_⟩:=sw h.dn;exact⟨DS.sync_ok h.ok,Do h.inn,h4.trans h.ar,h3⟩
theorem Calm.put{D:DS}(h:Calm D){at':Int}{bs:List UInt8}(h1:0≤at'∧at'<2048)(h2:bs.length≤64):Calm (Cc D at' bs):=⟨Dw h.ok h2 (.inl h.ar),Dx h.inn h1,h.ar,rfl⟩
theorem Gu:eB []=zs:=rfl
theorem sc: ∀(n:Nat) (at':Int) (D:DS),Calm D→0≤at'→at'+n≤2048→∃D',jk n at' D=(0,D')∧Calm D'∧∀j,D'.read j=if at'≤j∧j<at'+n then zs else D.read j
 |0,at',D,h,_,_=>⟨D,rfl,h,λj=>by rw[if_neg (by omega)]⟩
 |n+1,at',D,h,h0,h1=>by
  by_cases hz:D.read at'=zs
  · obtain⟨D',e,c,r⟩:=sc n (at'+1) D h (by omega) (by omega)
    refine⟨D',by rw[jk,if_pos hz,e],c,λj=>?_⟩;rw[r j]
    by_cases q:j=at'
    · subst q;rw[if_neg (by omega),if_pos (by omega),hz]
    · by_cases q2:at'+1≤j∧j<at'+1+n
      · rw[if_pos q2,if_pos (by omega)]
      · rw[if_neg q2,if_neg (by omega)]
  · have hw:=ul (D:=D) (at':=at') (bs:=[]) (by omega) (by simp) h.dn (.inl h.ar)
    obtain⟨D',e,c,r⟩:=sc n (at'+1) (Cc D at' []) (h.put (by omega) (by simp)) (by omega) (by omega);refine⟨D',by rw[jk,if_neg hz,hw,if_pos rfl,e],c,λj=>?_⟩;rw[r j,EX,Gu]
    by_cases q:j=at'
    · subst q;rw[if_neg (by omega),if_pos rfl,if_pos (by omega)]
    · rw[if_neg q]
      by_cases q2:at'+1≤j∧j<at'+1+n
      · rw[if_pos q2,if_pos (by omega)]
      · rw[if_neg q2,if_neg (by omega)]
theorem EE{D:DS}(h:Calm D):0≤(fE D.read iO 0 0).2∧(fE D.read iO 0 0).2≤2048∧((fE D.read iO 0 0).1.length:Int)≤(fE D.read iO 0 0).2:=by
 have key: ∀f rs used,Scan D f rs used→∃rs' used',fE D.read iO 0 0=(rs',used')∧0≤used'∧used'≤2048∧(rs'.length:Int)≤used':=by
  intro f
  induction f with
  |zero=>
   intro rs used hs;cases hst:fA D.read ((rs.length:Int)+1) used with
   |none=>exact⟨rs,used,hs.stop hst,hs.2.1,hs.2.2.1,hs.2.2.2.2⟩
   |some p=>obtain⟨b,all⟩:=p;obtain⟨f',e,_⟩:=Scan.next h.inn h.ok hs hst;omega
  |succ f ih=>
   intro rs used hs;cases hst:fA D.read ((rs.length:Int)+1) used with
   |none=>exact⟨rs,used,hs.stop hst,hs.2.1,hs.2.2.1,hs.2.2.2.2⟩
   |some p=>
    obtain⟨b,all⟩:=p;obtain⟨f',e,hs'⟩:=Scan.next h.inn h.ok hs hst;obtain rfl:f=f':=by omega
    exact ih _ _ hs'
 obtain⟨rs,used,e,h1,h2,h3⟩:=key _ _ _ (Scan.start D);rw[e];exact⟨h1,h2,h3⟩
theorem Fb{D:DS}(h:Calm D): ∃D',bL D=⟨0,(fE D.read iO 0 0).1,(fE D.read iO 0 0).2,D'⟩∧Calm D'∧D'.ws=[]∧∀j,D'.read j=if(fE D.read iO 0 0).2≤j∧j<2048 then zs else D.read j:=by
 obtain⟨h1,h2,_⟩:=EE h;generalize hr:fE D.read iO 0 0=r at*;obtain⟨rs,used⟩:=r;simp only at h1 h2 ⊢;obtain⟨D',e,c,rd⟩:=sc (2048-used).toNat used D h h1 (by omega);obtain⟨s1,s2,_⟩:=sw c.dn;refine⟨D'.sync.2,Dz hr e s1,c.sync,s2,λj=>?_⟩;rw[Er c.dn,rd j]
 by_cases q:used≤j∧j<2048
 · rw[if_pos q,if_pos (by omega)]
 · rw[if_neg q,if_neg (by omega)]
def jA:Nat→List (List UInt8)→List js
 |_,[]=>[]
 |n,b::ls=>cj ((n+1:Nat):Int) b++jA (n+1) ls
def oW(ls:List (List UInt8)):Nat:=(jA 0 ls).length
theorem y6: ∀(a:List (List UInt8)) (n:Nat) (b:List (List UInt8)),jA n (a++b)=jA n a++jA (n+a.length) b
 | [],n,b=>by simp[jA]
 |x::a,n,b=>by
  simp only[wn,jA,y6 a (n+1) b,aY,ax];rw[show n+1+a.length=n+(a.length+1)by omega]
theorem xS: ∀(ls:List (List UInt8)) (n m:Nat),(jA n ls).length=(jA m ls).length
 | [],_,_=>rfl
 |b::ls,n,m=>by simp only[jA,ad,el,xS ls (n+1) (m+1)]
theorem z0: ∀ls:List (List UInt8),ls.length≤oW ls
 | []=>aP _
 |b::ls=>by
  have h1:=z0 ls;have h2:=o8 b.length;have h3:=xS ls 1 0;simp only[oW,jA,ad,el,ax,h3]at*;omega
theorem yE{number:Int}{b:List UInt8}{k:Nat}(h:k< (cj number b).length):(cj number b)[k]=oY number k (bp b.length) (gd b k):=by simp[cj]
theorem yD(number:Int)(b:List UInt8): ∀s∈cj number b,s.length=64:=λs hs=>by
 obtain⟨i,_,rfl⟩:=eH.1 hs;exact EC (sA b i)
theorem vi{number:Int}{b:List UInt8}{k:Nat}(h:k< (cj number b).length)(h0:0≤number)(h1:number<4294967296)(hb:b.length≤3000):e8 (cj number b)[k] number k=some (gd b k,((bp b.length:Nat):Int)):=by
 rw[yE h];rw[el]at h;exact Av (sA b k) h0 h1 h (by have:=vh hb;omega)
theorem xI{rd:Int→js}{number at':Int}{b:List UInt8}(h0:0≤number)(h1:number<4294967296)(hb:b.length≤3000): ∀k,k≤bp b.length→(∀j (h:j< (cj number b).length),j<k→rd (at'+j)=(cj number b)[j])→
 kj rd number at' ((bp b.length:Nat):Int) k=some ((List.range k).map (gd b)).flatten
 |0,_,_=>rfl
 |k+1,hk,h=>by
  have ih:=xI h0 h1 hb k (by omega) (λj hj hj2=>h j hj (by omega));have hl:k< (cj number b).length:=by rw[el];omega
  rw[vw ih (by rw[h k hl (by omega)];exact vi hl h0 h1 hb)];simp[cS]
theorem zY{rd:Int→js}{number at':Int}{b:List UInt8}(h0:0≤number)(h1:number<4294967296)(hb:b.length≤3000)(h: ∀j (h:j< (cj number b).length),rd (at'+j)=(cj number b)[j]):fA rd number at'=some (b,((bp b.length:Nat):Int)):=by
 have hl:0< (cj number b).length:=by rw[el];exact o8 _
 have hp:e8 (rd at') number 0=some (gd b 0,((bp b.length:Nat):Int)):=by
  have e:=h 0 hl;rw[show at'+((0:Nat):Int)=at' by omega]at e;rw[e];exact vi hl h0 h1 hb
 refine rj hp ?_;rw[HA,xI h0 h1 hb _ (aP _) (λj hj _=>h j hj),E6 b _ (wG _)]
def Shows(rd:Int→js)(at':Int)(l:List js):Prop:=∀j (h:j<l.length),rd (at'+j)=l[j]
theorem Shows.left{rd:Int→js}{at':Int}{a b:List js}(h:Shows rd at' (a++b)):Shows rd at' a:=λj hj=>by
 rw[h j (by rw[ad];omega),jj hj]
theorem Shows.right{rd:Int→js}{at':Int}{a b:List js}(h:Shows rd at' (a++b)):Shows rd (at'+a.length) b:=λj hj=>by
 have:=h (a.length+j) (by rw[ad];omega);rw[show at'+((a.length+j:Nat):Int)=at'+a.length+j by omega]at this;rw[this,Mb (by omega)];congr 1;omega
theorem Ah{rd:Int→js}: ∀(ls:List (List UInt8)) (n:Nat) (at':Int) (f:Nat),(∀b∈ls,b.length≤3000)→n+ls.length<4294967296→Shows rd at' (jA n ls)→
 fE rd (ls.length+f) n at'=(ls++(fE rd f ((n+ls.length:Nat):Int) (at'+(jA n ls).length)).1,(fE rd f ((n+ls.length:Nat):Int) (at'+(jA n ls).length)).2)
 | [],n,at',f,_,_,_=>by simp[jA]
 |b::ls,n,at',f,hl,hn,h=>by
  simp only[jA]at h ⊢;simp only[ax]at hn ⊢;have hs:=zY (rd:=rd) (number:=((n+1:Nat):Int)) (at':=at') (by omega) (by omega) (hl b (by simp)) h.left;have ih:=Ah (rd:=rd) ls (n+1) (at'+(cj ((n+1:Nat):Int) b).length) f (λx hx=>hl x (by simp[hx])) (by omega) h.right;rw[el]at ih;rw[show ls.length+1+f=(ls.length+f)+1 by omega,Ds (b:=b) (all:=((bp b.length:Nat):Int)) (by rw[←hs];congr 1)];rw[show((n:Nat):Int)+1=((n+1:Nat):Int)by omega,ih];rw[ad,el,show n+1+ls.length=n+(ls.length+1)by omega,show at'+((bp b.length+(jA (n+1) ls).length:Nat):Int)=at'+((bp b.length:Nat):Int)+(((jA (n+1) ls).length:Nat):Int)by omega];simp
structure LogD(D:DS)(ls:List (List UInt8)):Prop where
 ok:D.Ok
 inn:Wal.DS.In D
 ws:D.ws=[]
 short: ∀b∈ls,b.length≤3000
 room:oW ls≤2048
 shows:Shows D.read 0 (jA 0 ls)
 zero: ∀j,((oW ls:Nat):Int)≤j→D.read j=zs
theorem LogD.len{D:DS}{ls:List (List UInt8)}(h:LogD D ls):ls.length≤2048:=by have:=z0 ls;have:=h.room;omega
theorem Eu{rd:Int→js}{number at':Int}(h:(rd at').getD 63 0≠1):fA rd number at'=none:=pW (qo h)
theorem Jg:zs.getD 63 0≠1:=by decide
theorem LogD.scan{D:DS}{ls:List (List UInt8)}(h:LogD D ls):fE D.read iO 0 0=(ls,((oW ls:Nat):Int)):=by
 have hl:=h.len;obtain⟨f,hf⟩: ∃f,iO=ls.length+f:=⟨iO-ls.length,by rw[rI];omega⟩;have:=Ah (rd:=D.read) ls 0 0 f h.short (by omega) h.shows;rw[←hf]at this;rw[show((0:Nat):Int)=0 from rfl]at this;have hz:=h.zero _ (Int.le_refl _);simp only[oW]at hz;rw[this,Int.zero_add,xq (Eu (by rw[hz];exact Jg))];simp[oW]
theorem LogD.new:LogD DS.new []:=⟨DS.new_ok,⟨Nb,Nb⟩,rfl,λ_ h=>absurd h (by simp),by decide,λj h=>absurd h (by simp[jA]),λj _=>rfl⟩
theorem LogD.open{D:DS}{ls:List (List UInt8)}(h:LogD D ls)(ha:D.ar=false)(hd:D.dn=false): ∃D',bL D=⟨0,ls,((oW ls:Nat):Int),D'⟩∧LogD D' ls∧D'.ar=false∧D'.dn=false:=by
 obtain⟨D',e,c,hw,hr⟩:=Fb (D:=D) ⟨h.ok,h.inn,ha,hd⟩;rw[h.scan]at e hr
 have hrd: ∀j,D'.read j=D.read j:=λj=>by
  rw[hr j];split
  · rename_i q;rw[h.zero j q.1]
  · rfl
 exact⟨D',e,⟨c.ok,c.inn,hw,h.short,h.room,λj hj=>by rw[hrd];exact h.shows j hj,λj hj=>by rw[hrd];exact h.zero j hj⟩,c.ar,c.dn⟩
def JY:Int→List js→fo
 |_,[]=>[]
 |at',s::ss=>(at',s)::JY (at'+1) ss
structure Half(D:DS)(ls:List (List UInt8))(bs:List UInt8):Prop where
 ok:D.Ok
 inn:Wal.DS.In D
 short: ∀b∈ls,b.length≤3000
 short':bs.length≤3000
 room:oW ls+bp bs.length≤2048
 shows:Shows (ky D.s) 0 (jA 0 ls)
 zero: ∀j,((oW ls:Nat):Int)≤j→ky D.s j=zs
 ws: ∃m,m≤bp bs.length∧D.ws=JY ((oW ls:Nat):Int) ((cj ((ls.length+1:Nat):Int) bs).take m)
end Wal
end

section
namespace Go.Proofs.YtjblgopghhgflaaGreat
open Go Leg Codec Api
theorem BE(wb b off cap:Nat)(v:Value)(bs:List UInt8)(l:List Int)(cs:List Value)(T:TypeId)(z:Nat×Nat)(hlen:bs.length+10*l.length≤140737488355328)(hb: ∀j,j<l.length→cs[off+j]?=some (.int .i64 (l.getD j 0))):
 DT 84 #[(.pointer (some ⟨wb,0,none⟩)),(.slice (some ⟨b,off,none⟩) (l.length) (cap))] (λF=>F b=some (.cells cs.toArray T z)) [aj wb [v] 144,dL v (bs) 5] (py 144 5 wb (bs++bb l)):=by
 refine BD 45 Tryz.func84 rfl rfl rfl λw0 F hF=>sr λ_ J1=>PS ?_
 refine nx J1 (aa λ_ J2=>sr λ_ J3=>PS ?_);refine tp (rX rfl jT rfl) ?_;refine PS ?_;refine nx J3 (ap ?_)
 refine bB (α:=(Nat)×(Value)×(List UInt8)) (λ⟨k,u,laid⟩=>k≤l.length∧laid++bb (l.drop k)=bs++bb l) (λ⟨k,u,laid⟩=>[(0,(.pointer (some ⟨wb,0,none⟩))),(4,(.pointer none)),(8,(.slice (some ⟨b,off,none⟩) (l.length) (cap))),(9,(.int .i64 (((l.length:Nat):Int)))),(10,(.int .i64 ((k:Nat))))]) (λ⟨k,u,laid⟩=>[aj wb [u] 144,dL u (laid) 5]) (λ⟨k,u,laid⟩=>l.length-k) (0,v,bs)
  ⟨by omega,rfl⟩ SB
  (λ_ s=>s) (λ⟨k,u,laid⟩ hinv=>?_)
 obtain⟨hk,hL⟩:=hinv;refine sr λ_ J4=>PS ?_
 refine am ?_ ?_<;>intro h11;refine nx J4 (aa λ_ J5=>CY (qx J5 (aa λ_ J6=>ap (sr λ_ J7=>tp (jh (r:=off+k) rfl jT aO rfl rfl (by first|omega|decide) (by first|omega|decide) (by omega)) ?_))));refine tp (gR (v:=(.int .i64 ((l.getD k 0)))) rfl Y3 rfl rfl (Rd.ro hF) (hb k (by omega))) ?_;refine PS ?_;refine nx J7 (sr λ_ J8=>PS ?_);refine tp (eg (r:=((((l.getD k 0%18446744073709551616).toNat:Nat)):Int)) rfl Y3 Tryz.underlying202 rfl (yh _)) ?_;refine PS ?_;refine nx J8 (aa λ_ J9=>ap ?_)
 refine bB (α:=(Nat)×(Value)×(List UInt8)) (λ⟨m,u2,laid2⟩=>laid2++(vN m++bb (l.drop (k+1)))=bs++bb l) (λ⟨m,u2,laid2⟩=>[(0,(.pointer (some ⟨wb,0,none⟩))),(4,(.pointer none)),(7,(.int .u64 ((m:Nat)))),(8,(.slice (some ⟨b,off,none⟩) (l.length) (cap))),(9,(.int .i64 (((l.length:Nat):Int)))),(10,(.int .i64 ((k:Nat))))]) (λ⟨m,u2,laid2⟩=>[aj wb [u2] 144,dL u2 (laid2) 5]) (λ⟨m,u2,laid2⟩=>m) ((l.getD k 0%18446744073709551616).toNat,u,laid)
  (by rw[←hL,Fx (l:=l) (k:=k) (by omega)];rfl) SB
  (λ_ s=>s) (λ⟨m,u2,laid2⟩ hinv=>?_)
 have hM:=hinv;refine aa λ_ J10=>sr λ_ J11=>P2 ?_
 refine am ?_ ?_<;>intro h17;refine nx J11 (CY (qx J10 (ap (sr λ_ J12=>P3 ?_))));refine FA 0 Ht mR ?_;refine LA 0 gk ?_;refine PS ?_;refine tp (eg (r:=(IntKind.u8.wrap ((m:Nat):Int))) rfl Tryz.underlying202 Y5 rfl rfl) ?_;refine tp (Hy (r:=(((UInt8.ofNat (m%128+128)).toNat:Nat):Int)) rfl rfl rfl (Kr m)) ?_;refine aU (cells:=#[(.int .u8 ((((UInt8.ofNat (m%128+128)).toNat:Nat):Int)))]) (ab rfl) rfl rfl rfl gk xQ rfl rfl rfl (by as_aux_lemma=>kernel_rfl) (λb26=>cG (k:=2) (news:=ek ([(UInt8.ofNat (m%128+128))])) (nn':=(laid2++[(UInt8.ofNat (m%128+128))]:List UInt8).length) (xs':=ek (laid2++[(UInt8.ofNat (m%128+128))])) (ab rfl) rfl rfl rfl gk xQ rfl rfl rfl rfl rfl rfl (λ_ _=>jg rfl (RO 0) rfl) (eU [(UInt8.ofNat (m%128+128))]) (by have:=congrArg List.length hM;have:=aT l;have:=pk m;simp only[ad,maxLen]at*;omega) (by have:=congrArg List.length hM;have:=aT l;have:=pk m;simp only[ad]at*;omega) (by simp) (iC _ _).symm (λv27 ov27=>PS ?_));refine FA 0 Ht mR ?_;refine bT (i:=1) (ab rfl) rfl rfl rfl rfl ov27 mR rfl rfl (lb rfl) rfl rfl (nx J12 (af (PS ?_)));refine tp (lm (r:=((m / 128:Nat):Int)) rfl rfl rfl (by omega) (Mi m)) ?_;refine PS ?_;refine au (ag ?_)
 exact aJ ((m / 128,v27,laid2++[(UInt8.ofNat (m%128+128))]):(Nat)×(Value)×(List UInt8)) (by rw[←hM,tX (by omega)];simp) (by show m / 128<m;omega)
  SB
  (λ_ s=>ak [1,1] rfl s)
 refine nx J11 (CN (aZ (aB (aB (bw (ac J9 (af (P3 ?_))))))));refine FA 0 Ht mR ?_;refine LA 0 gk ?_;refine PS ?_;refine tp (eg (r:=(((UInt8.ofNat m).toNat:Nat):Int)) rfl Tryz.underlying202 Y5 rfl (It (by omega))) ?_;refine aU (cells:=#[(.int .u8 ((((UInt8.ofNat m).toNat:Nat):Int)))]) (ab rfl) rfl rfl rfl gk xQ rfl rfl rfl (by as_aux_lemma=>kernel_rfl) (λb39=>cG (k:=2) (news:=ek ([(UInt8.ofNat m)])) (nn':=(laid2++[(UInt8.ofNat m)]:List UInt8).length) (xs':=ek (laid2++[(UInt8.ofNat m)])) (ab rfl) rfl rfl rfl gk xQ rfl rfl rfl rfl rfl rfl (λ_ _=>jg rfl (RO 0) rfl) (eU [(UInt8.ofNat m)]) (by have:=congrArg List.length hM;have:=aT l;have:=pk m;simp only[ad,maxLen]at*;omega) (by have:=congrArg List.length hM;have:=aT l;have:=pk m;simp only[ad]at*;omega) (by simp) (iC _ _).symm (λv40 ov40=>PS ?_));refine FA 0 Ht mR ?_;refine bT (i:=1) (ab rfl) rfl rfl rfl rfl ov40 mR rfl rfl (lb rfl) rfl rfl (au (ag (ac J6 (af (AD ?_)))));refine PS ?_;refine au ?_
 exact aJ ((k+1,v40,laid2++[(UInt8.ofNat m)]):(Nat)×(Value)×(List UInt8)) ⟨by omega,by rw[←hM,rN (by omega)];simp⟩ (by show _-_<_-_;omega)
  SB
  (λ_ s=>ak [1,1] rfl s)
 refine nx J4 (aa λ_ J13=>CN (aZ (aB (aB (bw (ac J2 (sr λ_ J14=>P2 ?_)))))));refine nx J14 (ai (WK [0,0] (aq rfl rfl ?_)));obtain rfl:laid=bs++bb l:=by rw[←hL,eS (by omega)];simp[bb]
 exact⟨u,rfl,rfl⟩
theorem FQ(wb:Nat)(v:Value)(bs:List UInt8):
 DT 84 #[(.pointer (some ⟨wb,0,none⟩)),(.slice none 0 0)] T0 [aj wb [v] 144,dL v (bs) 5] (py 144 5 wb (bs++bb [])):=by
 refine BD 45 Tryz.func84 rfl rfl rfl λw0 F hF=>sr λ_ J1=>PS ?_
 refine nx J1 (aa λ_ J2=>sr λ_ J3=>PS ?_);refine tp (rX rfl jT rfl) ?_;refine PS ?_;refine nx J3 (ap ?_)
 refine bB (α:=Unit) (λ_u=>True) (λ_u=>[(0,(.pointer (some ⟨wb,0,none⟩))),(4,(.pointer none)),(8,(.slice none 0 0)),(9,(.int .i64 0)),(10,(.int .i64 0))]) (λ_u=>[aj wb [v] 144,dL v (bs) 5]) (λ_u=>0) ()
  trivial SB
  (λ_ s=>s) (λ_u hinv=>?_)
 obtain _:=hinv;refine sr λ_ J4=>PS ?_
 refine nx J4 (aa λ_ J5=>CN (aZ (aB (aB (bw (ac J2 (sr λ_ J6=>P2 ?_)))))));refine nx J6 (ai (aq rfl rfl ?_));exact⟨v,rfl,by rw[G8,aM]⟩
theorem dG(wb:Nat)(v:Value)(bs:List UInt8)(x:Value)(l:List Int)(hlen:bs.length+10*l.length≤140737488355328):DT 84 #[(.pointer (some ⟨wb,0,none⟩)),x] (MR x l) [aj wb [v] 144,dL v bs 5] (py 144 5 wb (bs++bb l)):=by
 refine Leg.Does.of λF hF=>?_
 rcases id hF with⟨rfl,rfl⟩| ⟨b,off,cap,cs,T,z,rfl,h3,h4⟩
 · exact⟨_,trivial,FQ wb v bs⟩
 · exact⟨_,h3,BE wb b off cap v bs l cs T z hlen h4⟩
theorem dW(wb:Nat)(v:Value)(bs:List UInt8)(hlen:bs.length≤140737488355328):
 DT 89 #[(.pointer (some ⟨wb,0,none⟩))] T0 [aj wb [v] 144,dL v (bs) 5] (dw (λx H=>∃u,x=u∧H=[aj wb [v] 144,dL v bs 5,dL u bs 5])):=by
 refine Leg.Does.body (vs:=[(.pointer (some ⟨wb,0,none⟩))]) (n:=9) Tryz.func89 rfl rfl rfl (λw0 F hF=>?_);refine sr λ_ J1=>?_
 refine oD ?_;refine nx J1 ?_;refine sr λ_ J2=>?_
 refine Br (ab rfl) rfl rfl rfl gk kS (λv3=>?_);change TL _ _ _ _ _ _ _ _ _ [dL v3 ([]) 5,aj wb [v] 144,dL v (bs) 5];refine mv ?_;refine tp (fN rfl rfl) ?_;refine tp (a9 (r:=0) rfl Ht rfl mR rfl rfl) ?_;refine tp (gR (v:=v) rfl gk rfl rfl (eR 1 rfl rfl) rfl) ?_;refine cG (k:=0) (news:=ek (bs)) (nn':=(bs:List UInt8).length) (xs':=ek (bs)) (ab rfl) rfl rfl rfl gk xQ rfl rfl rfl rfl rfl rfl (λ_ s=>M2 2 rfl rfl s) (eU _) (by simp only[maxLen,ax,aA];omega) (by simp only[ax,aA];omega) (by simp) (ce _) (λv8 ov8=>?_);change TL _ _ _ _ _ _ _ _ _ [dL v8 (bs) 5,aj wb [v] 144,dL v (bs) 5];refine oD ?_;refine nx J2 ?_;refine ai ?_;refine aE (dE _) (λ_ s=>ak [1,1,0] rfl s) ?_;refine aq rfl rfl ?_;exact⟨v8,rfl,rfl⟩
theorem zy(wb:Nat)(v:Value)(bs:List UInt8)(a0 a1 g0 g1 g2 g3 g4:Int)(hlen:bs.length+70≤140737488355328):
 DT 88 #[(.pointer (some ⟨wb,0,none⟩)),(.agg #[(.int .i64 (a0)),(.int .i64 (a1)),(.int .i64 (g0)),(.int .i64 (g1)),(.int .i64 (g2)),(.int .i64 (g3)),(.int .i64 (g4))])] T0 [aj wb [v] 144,dL v (bs) 5] (py 144 5 wb (bs++bb [a0,a1,g0,g1,g2,g3,g4])):=by
 refine BD 15 Tryz.func88 rfl rfl rfl λw0 F hF=>sr λ_ J1=>XB λb3=>?_
 refine PS ?_;refine nx J1 (aa λ_ J2=>D1 0 bf ?_);refine PD 0 ?_;refine FD 1 0 eL aO ?_;refine LX 2 Y3 (.int .i64 (a0)) ?_ (hc:=by exact rfl);refine FD 3 1 eL aO ?_;refine LX 4 Y3 (.int .i64 (a1)) ?_ (hc:=by exact rfl);refine FD 7 2 eL fO ?_;refine ta 8 rfl (pB rfl l6 aO rfl) ?_;refine AL 5 ?_;refine aU (cells:=#[(.int .i64 (a0)),(.int .i64 (a1))]) (ab rfl) rfl rfl rfl jT qB rfl rfl rfl (by as_aux_lemma=>kernel_rfl) (λb10=>EN (AL 6 ?_));refine CQ mS (dG wb v (bs) (.slice (some ⟨b10,0,none⟩) (2) (2)) [a0,a1] (by simp only[ad,ax,aA,ay];first|omega| (have:=aT [a0,a1];simp only[ax,aA]at this;omega))) (SM [2,2]) (dx 0 rfl rfl rfl rfl) λvR HR hR=>?_
 obtain⟨u1,rfl,rfl⟩:=hR;refine EN (AL 9 ?_);refine CQ mS (dG wb u1 (bs++bb [a0,a1]) (.slice (some ⟨b3,2,none⟩) (5) (5)) [g0,g1,g2,g3,g4] (by simp only[ad,ax,aA,ay];first|omega| (have:=aT [a0,a1];simp only[ax,aA]at this;omega))) ID (dx 1 rfl rfl rfl rfl) λvR HR hR=>?_
 obtain⟨u2,rfl,rfl⟩:=hR;refine EN (PD 10 ?_);refine DN (ac J2 (ai (WK [0,0] (aq rfl rfl ?_))));exact⟨_,rfl,by rw[aY,←pj];rfl⟩
theorem wu(wb:Nat)(v:Value)(bs:List UInt8)(a0 a1 a2:Int)(hlen:bs.length+30≤140737488355328):
 DT 87 #[(.pointer (some ⟨wb,0,none⟩)),(.agg #[(.int .i64 (a0)),(.int .i64 (a1)),(.int .i64 (a2))])] T0 [aj wb [v] 144,dL v (bs) 5] (py 144 5 wb (bs++bb [a0,a1,a2])):=by
 refine BD 14 Tryz.func87 rfl rfl rfl λw0 F hF=>sr λ_ J1=>XB λb3=>?_
 refine PS ?_;refine nx J1 (sr λ_ J2=>PS ?_);refine FA 0 mx aO ?_;refine LA 0 Y3 ?_;refine FA 1 mx aO ?_;refine LA 0 Y3 ?_;refine FA 2 mx aO ?_;refine LA 0 Y3 ?_;refine aU (cells:=#[(.int .i64 (a0)),(.int .i64 (a1)),(.int .i64 (a2))]) (ab rfl) rfl rfl rfl jT qB rfl rfl rfl (by as_aux_lemma=>kernel_rfl) (λb12=>CQ mS (dG wb v (bs) (.slice (some ⟨b12,0,none⟩) (3) (3)) [a0,a1,a2] (by simp only[ad,ax,aA,ay];first|omega| (have:=aT [a0,a1];simp only[ax,aA]at this;omega))) (SM [2,2]) (dx 0 rfl rfl rfl rfl) λvR HR hR=>?_);obtain⟨u1,rfl,rfl⟩:=hR;refine PS ?_;exact nx J2 (ai (WK [0,0] (aq rfl rfl ⟨_,rfl,rfl⟩)))
theorem ww(wb:Nat)(v:Value)(bs:List UInt8)(a0 a1:Int)(hlen:bs.length+20≤140737488355328):
 DT 86 #[(.pointer (some ⟨wb,0,none⟩)),(.agg #[(.int .i64 (a0)),(.int .i64 (a1))])] T0 [aj wb [v] 144,dL v (bs) 5] (py 144 5 wb (bs++bb [a0,a1])):=by
 refine BD 12 Tryz.func86 rfl rfl rfl λw0 F hF=>sr λ_ J1=>XB λb3=>?_
 refine PS ?_;refine nx J1 (sr λ_ J2=>PS ?_);refine FA 0 jP aO ?_;refine LA 0 Y3 ?_;refine FA 1 jP aO ?_;refine LA 0 Y3 ?_;refine aU (cells:=#[(.int .i64 (a0)),(.int .i64 (a1))]) (ab rfl) rfl rfl rfl jT qB rfl rfl rfl (by as_aux_lemma=>kernel_rfl) (λb10=>CQ mS (dG wb v (bs) (.slice (some ⟨b10,0,none⟩) (2) (2)) [a0,a1] (by simp only[ad,ax,aA,ay];first|omega| (have:=aT [a0,a1];simp only[ax,aA]at this;omega))) (SM [2,2]) (dx 0 rfl rfl rfl rfl) λvR HR hR=>?_);obtain⟨u1,rfl,rfl⟩:=hR;refine PS ?_;exact nx J2 (ai (WK [0,0] (aq rfl rfl ⟨_,rfl,rfl⟩)))
theorem zG(wb:Nat)(v:Value)(bs:List UInt8)(a0 a1 g0 g1 g2 g3 g4:Int)(hlen:bs.length+70≤140737488355328):
 DT 127 #[(.pointer (some ⟨wb,0,none⟩)),(.agg #[(.int .i64 (a0)),(.int .i64 (a1)),(.int .i64 (g0)),(.int .i64 (g1)),(.int .i64 (g2)),(.int .i64 (g3)),(.int .i64 (g4))])] T0 [aj wb [v] 144,dL v (bs) 5] (dw (λx H=>∃v',x= .tuple #[]∧H=[aj wb [v'] 144,dL v' (bs++bb [a0,a1,g0,g1,g2,g3,g4]) 5])):=by
 refine BD 14 Tryz.func127 rfl rfl rfl λw0 F hF=>sr λ_ J1=>XB λb3=>?_
 refine nx J1 (D1 0 bf ?_);refine PD 0 ?_;refine FD 1 0 mM aO ?_;refine LX 2 Y3 (.int .i64 (a0)) ?_ (hc:=by exact rfl);refine FD 3 1 mM aO ?_;refine LX 4 Y3 (.int .i64 (a1)) ?_ (hc:=by exact rfl);refine FD 7 2 mM fO ?_;refine ta 8 rfl (pB rfl l6 aO rfl) ?_;refine AL 5 ?_;refine aU (cells:=#[(.int .i64 (a0)),(.int .i64 (a1))]) (ab rfl) rfl rfl rfl jT qB rfl rfl rfl (by as_aux_lemma=>kernel_rfl) (λb9=>EN (AL 6 ?_));refine CQ mS (dG wb v (bs) (.slice (some ⟨b9,0,none⟩) (2) (2)) [a0,a1] (by simp only[ad,ax,aA,ay];first|omega| (have:=aT [a0,a1];simp only[ax,aA]at this;omega))) (SM [2,2]) (dx 0 rfl rfl rfl rfl) λvR HR hR=>?_
 obtain⟨u1,rfl,rfl⟩:=hR;refine EN (AL 9 ?_);refine CQ mS (dG wb u1 (bs++bb [a0,a1]) (.slice (some ⟨b3,2,none⟩) (5) (5)) [g0,g1,g2,g3,g4] (by simp only[ad,ax,aA,ay];first|omega| (have:=aT [a0,a1];simp only[ax,aA]at this;omega))) ID (dx 1 rfl rfl rfl rfl) λvR HR hR=>?_
 obtain⟨u2,rfl,rfl⟩:=hR;refine EN (DN (WK [0,0] (bu rfl ?_)));exact⟨_,rfl,by rw[aY,←pj];rfl⟩
theorem uq(wb:Nat)(v:Value)(bs:List UInt8)(c:CellT)(hlen:bs.length+70≤140737488355328):DT 127 #[(.pointer (some ⟨wb,0,none⟩)),c.val] T0 [aj wb [v] 144,dL v bs 5] (dw (λx H=>∃v',x= .tuple #[]∧H=[aj wb [v'] 144,dL v' (bs++bb c.flat) 5])):=by
 obtain⟨i,o,g⟩:=c;exact J0 (p:=λg=>Leg.Does Tryz.prog 127 #[(.pointer (some ⟨wb,0,none⟩)),CellT.val ⟨i,o,g⟩] (λ_=>True) [aj wb [v] 144,dL v bs 5] (dw (λx H=>∃v',x= .tuple #[]∧H=[aj wb [v'] 144,dL v' (bs++bb (CellT.flat ⟨i,o,g⟩)) 5]))) (λa b c d e=>zG wb v bs i o a b c d e hlen) g
theorem p8(wb:Nat)(v:Value)(bs:List UInt8)(x:ViewT)(hlen:bs.length+70≤140737488355328):DT 88 #[(.pointer (some ⟨wb,0,none⟩)),x.val] T0 [aj wb [v] 144,dL v bs 5] (py 144 5 wb (bs++bb x.flat)):=by
 obtain⟨i,o,g⟩:=x;exact J0 (p:=λg=>Leg.Does Tryz.prog 88 #[(.pointer (some ⟨wb,0,none⟩)),ViewT.val ⟨i,o,g⟩] (λ_=>True) [aj wb [v] 144,dL v bs 5] (py 144 5 wb (bs++bb (ViewT.flat ⟨i,o,g⟩)))) (λa b c d e=>zy wb v bs i o a b c d e hlen) g
theorem nH(wb:Nat)(v:Value)(bs:List UInt8)(x:ChangeT)(hlen:bs.length+30≤140737488355328):DT 87 #[(.pointer (some ⟨wb,0,none⟩)),x.val] T0 [aj wb [v] 144,dL v bs 5] (py 144 5 wb (bs++bb x.flat)):=wu wb v bs x.kind x.who x.heir (by omega)
theorem iU(wb:Nat)(v:Value)(bs:List UInt8)(x:BallotT)(hlen:bs.length+30≤140737488355328):DT 86 #[(.pointer (some ⟨wb,0,none⟩)),x.val] T0 [aj wb [v] 144,dL v bs 5] (py 144 5 wb (bs++bb x.flat)):=ww wb v bs x.round x.who (by omega)
theorem sa(wb:Nat)(v:Value)(bs:List UInt8)(x:RowT)(hlen:bs.length+2000≤140737488355328):
 DT 85 #[(.pointer (some ⟨wb,0,none⟩)),(.agg (ints x.flat).toArray)] T0 [aj wb [v] 144,dL v (bs) 5] (py 144 5 wb (bs++gZ x)):=by
 refine BD 50 Tryz.func85 rfl rfl rfl λw0 F hF=>sr λ_ J1=>XY (ints x.flat) λb3=>?_
 refine PS ?_;refine nx J1 (sr λ_ J2=>PS ?_);refine FA 0 dS aO ?_;refine LT 0 Y3 (.int .i64 (x.version)) ?_ (hc:=by exact RowT.get_version _);refine aU (cells:=#[(.int .i64 (x.version))]) (ab rfl) rfl rfl rfl jT qB rfl rfl rfl (by as_aux_lemma=>kernel_rfl) (λb14=>CQ mS (dG wb v (bs) (.slice (some ⟨b14,0,none⟩) (1) (1)) [x.version] (by have:=congrArg List.length (Eq.refl bs);have:=gY x;simp only[ad,ax,aA]at*;omega)) (SM [2,2]) (dx 0 rfl rfl rfl rfl) λvR HR hR=>?_);obtain⟨u1,rfl,rfl⟩:=hR;refine nx J2 (aa λ_ J3=>sr λ_ J4=>FA 1 dS kR ?_);refine tp (aK (vs:=ints (bM x.cells.toList)) rfl zw rfl kR rfl (RO 3) (by rw[ints_length,cO];simp) (RowT.get_cells _)) ?_;refine PS ?_;refine nx J4 (ap ?_)
 refine bB (α:=(Nat)×(Value)×(List UInt8)) (λ⟨k,u,laid⟩=>k≤4∧laid++(bb (bM (x.cells.toList.drop k))++fU x 5 0)=bs++gZ x) (λ⟨k,u,laid⟩=>[(0,(.pointer (some ⟨wb,0,none⟩))),(3,(.pointer (some ⟨b3,0,none⟩))),(4,(.pointer none)),(17,(.agg (ints (bM x.cells.toList)).toArray)),(18,(.int .i64 ((k:Nat))))]) (λ⟨k,u,laid⟩=>[aj b3 (ints x.flat) 60,aj wb [u] 144,dL u (laid) 5]) (λ⟨k,u,laid⟩=>4-k) (0,u1,bs++bb [x.version])
  ⟨by omega,by simp[gZ,bb]⟩ SB
  (λ_ s=>ak [3,0,0] rfl s) (λ⟨k,u,laid⟩ hinv=>?_)
 obtain⟨hk,hL⟩:=hinv;have hE:=hL;rw[show bb (bM (x.cells.toList.drop k))=bb (bM (x.cells.toList.drop k))from rfl]at hE;refine sr λ_ J5=>PS ?_
 refine am ?_ ?_<;>intro h19;refine nx J5 (aa λ_ J6=>CY (qx J6 (aa λ_ J7=>ap (sr λ_ J8=>tp (MX (cs:=ints (bM (x.cells.toList))) (r:=k*7) rfl zw mM rfl fJ rfl rfl (by omega) (by omega) (by omega) (xR (by simp;omega))) ?_))));refine XA HC λb6=>?_
 refine ck (vs:=ints ((x.cells.toList)[k]'(by simp;omega)).flat) (cs':=ints ((x.cells.toList)[k]'(by simp;omega)).flat) (i:=0) (ab rfl) rfl rfl rfl rfl rfl (by rw[bA];exact fJ) (bG _) rfl rfl (by rw[bA];exact aP _) (iB (by rw[bA];rfl)) rfl (nx J8 (af (PS ?_)));refine tp (aK (vs:=ints ((x.cells.toList)[k]'(by simp;omega)).flat) rfl mM rfl fJ rfl (RO 0) (bA _) (by rw[bd,aC (by rw[bA];decide)])) ?_;refine CR I2 (uq wb u (laid) ((x.cells.toList)[k]'(by simp;omega)) (by have:=congrArg List.length hE;have:=gY x;have:=aT ((x.cells.toList)[k]'(by simp;omega)).flat;rw[bJ]at this;simp only[ad]at*;omega)) (SM [2,2]) λvR HR hR=>?_
 obtain⟨u2,rfl,rfl⟩:=hR;refine au (ag (ac J7 (af (AD ?_))));refine PS ?_;refine au ?_
 exact aJ ((k+1,u2,laid++bb ((x.cells.toList)[k]'(by simp;omega)).flat):(Nat)×(Value)×(List UInt8)) ⟨by omega,by rw[←hL,n5 (l:=x.cells.toList) (k:=k) (by simp;omega)];simp⟩ (by show _-_<_-_;omega)
  SB
  (λ_ s=>ak [3,0,0] rfl s)
 refine nx J5 (aa λ_ J9=>CN (aZ (aB (aB (bw (ac J3 (aa λ_ J10=>sr λ_ J11=>FA 29 dS fO ?_)))))));refine tp (aK (vs:=ints x.heir.toList) rfl l6 rfl fO rfl (RO 0) (by rw[ints_length];simp) (RowT.get_heirs _)) ?_;refine PS ?_;refine nx J11 (ap ?_)
 refine bB (α:=(Nat)×(Value)×(List UInt8)) (λ⟨i,u,laid⟩=>i≤5∧laid++fU x (5-i) i=bs++gZ x) (λ⟨i,u,laid⟩=>[(0,(.pointer (some ⟨wb,0,none⟩))),(3,(.pointer (some ⟨b3,0,none⟩))),(4,(.pointer none)),(26,(.agg (ints x.heir.toList).toArray)),(27,(.int .i64 ((i:Nat))))]) (λ⟨i,u,laid⟩=>[aj b3 (ints x.flat) 60,aj wb [u] 144,dL u (laid) 5]) (λ⟨i,u,laid⟩=>5-i) (0,u,laid)
  ⟨by omega,by rw[←hL,eS (by simp;omega)];simp[bM,bb]⟩ SB
  (λ_ s=>ak [0,0,0] rfl s) (λ⟨i,u,laid⟩ hinv=>?_)
 obtain⟨hi,hL⟩:=hinv;have hE:=hL;refine sr λ_ J12=>PS ?_
 refine am ?_ ?_<;>intro h28;refine nx J12 (aa λ_ J13=>CY (qx J13 (aa λ_ J14=>ap (sr λ_ J15=>PS ?_))));refine tp (qU (cs:=ints x.heir.toList) (v:= .int .i64 (x.heir[i]'(by omega))) (r:=i) rfl l6 Y3 rfl aO rfl rfl (by omega) (by omega) (by omega) (by rw[ints_get _ _ (by simp;omega)];simp[List.getD_eq_getElem?_getD,show i<5 by omega])) ?_;refine P2 ?_;refine nx J15 (sr λ_ J16=>P2 ?_);refine aU (cells:=#[(.int .i64 (x.heir[i]'(by omega)))]) (ab rfl) rfl rfl rfl jT qB rfl rfl rfl (by as_aux_lemma=>kernel_rfl) (λb33=>CQ mS (dG wb u (laid) (.slice (some ⟨b33,0,none⟩) (1) (1)) [x.heir[i]'(by omega)] (by have:=congrArg List.length hE;have:=gY x;simp only[ad,ax,aA]at*;omega)) (SM [2,2]) (dx 0 rfl rfl rfl rfl) λvR HR hR=>?_);obtain⟨u2,rfl,rfl⟩:=hR;refine nx J16 (sr λ_ J17=>P2 ?_);refine am ?_ ?_<;>intro h36;refine nx J17 (CY (sr λ_ J18=>PS ?_));refine FA 34 dS zN ?_;refine IX (34+i*28) Jb kR ?_;refine tp (aK (vs:=ints (bM (x.left[i]'(by omega)).toList)) rfl zw rfl kR rfl (RO 3) (by rw[ints_length,cO];simp) (RowT.get_left _ i (by omega))) ?_;refine PS ?_;refine nx J18 (ap ?_)
 refine bB (α:=(Nat)×(Value)×(List UInt8)) (λ⟨k,u3,laid3⟩=>k≤4∧laid3++(bb (bM ((x.left[i]'(by omega)).toList.drop k))++fU x (5- (i+1)) (i+1))=bs++gZ x) (λ⟨k,u3,laid3⟩=>[(0,(.pointer (some ⟨wb,0,none⟩))),(3,(.pointer (some ⟨b3,0,none⟩))),(4,(.pointer none)),(26,(.agg (ints x.heir.toList).toArray)),(27,(.int .i64 ((i:Nat)))),(40,(.agg (ints (bM (x.left[i]'(by omega)).toList)).toArray)),(41,(.int .i64 ((k:Nat))))]) (λ⟨k,u3,laid3⟩=>[aj b3 (ints x.flat) 60,aj wb [u3] 144,dL u3 (laid3) 5]) (λ⟨k,u3,laid3⟩=>4-k) (0,u2,laid++bb [x.heir[i]'(by omega)])
  ⟨by omega,by rw[←hL,p1 (i:=i) (by omega),if_pos h36];simp[bb]⟩ SB
  (λ_ s=>ak [3,0,0] rfl s) (λ⟨k,u3,laid3⟩ hinv=>?_)
 obtain⟨hk,hM⟩:=hinv;have hE:=hM;refine sr λ_ J19=>PS ?_
 refine am ?_ ?_<;>intro h42;refine nx J19 (aa λ_ J20=>CY (qx J20 (aa λ_ J21=>ap (sr λ_ J22=>tp (MX (cs:=ints (bM ((x.left[i]'(by omega)).toList))) (r:=k*7) rfl zw mM rfl fJ rfl rfl (by omega) (by omega) (by omega) (xR (by simp;omega))) ?_))));refine XA HC λb10=>?_
 refine ck (vs:=ints (((x.left[i]'(by omega)).toList)[k]'(by simp;omega)).flat) (cs':=ints (((x.left[i]'(by omega)).toList)[k]'(by simp;omega)).flat) (i:=0) (ab rfl) rfl rfl rfl rfl rfl (by rw[bA];exact fJ) (bG _) rfl rfl (by rw[bA];exact aP _) (iB (by rw[bA];rfl)) rfl (nx J22 (af (PS ?_)));refine tp (aK (vs:=ints (((x.left[i]'(by omega)).toList)[k]'(by simp;omega)).flat) rfl mM rfl fJ rfl (RO 0) (bA _) (by rw[bd,aC (by rw[bA];decide)])) ?_;refine CR I2 (uq wb u3 (laid3) (((x.left[i]'(by omega)).toList)[k]'(by simp;omega)) (by have:=congrArg List.length hE;have:=gY x;have:=aT (((x.left[i]'(by omega)).toList)[k]'(by simp;omega)).flat;rw[bJ]at this;simp only[ad]at*;omega)) (SM [2,2]) λvR HR hR=>?_
 obtain⟨u3,rfl,rfl⟩:=hR;refine au (ag (ac J21 (af (AD ?_))));refine PS ?_;refine au ?_
 exact aJ ((k+1,u3,laid3++bb (((x.left[i]'(by omega)).toList)[k]'(by simp;omega)).flat):(Nat)×(Value)×(List UInt8)) ⟨by omega,by rw[←hM,n5 (l:=(x.left[i]'(by omega)).toList) (k:=k) (by simp;omega)];simp⟩ (by show _-_<_-_;omega)
  SB
  (λ_ s=>ak [3,0,0] rfl s)
 refine nx J19 (aa λ_ J23=>CN (aZ (aB (aB (bw (ag (ac J14 (af (AD ?_)))))))));refine PS ?_;refine au ?_
 exact aJ ((i+1,u3,laid3):(Nat)×(Value)×(List UInt8)) ⟨by omega,by rw[←hM,eS (by simp;omega)];simp[bM,bb]⟩ (by show _-_<_-_;omega)
  SB
  (λ_ s=>ak [0,0,0] rfl s)
 refine nx J17 (CN (aQ (ag (ac J14 (af (AD ?_))))));refine PS ?_;refine au ?_
 exact aJ ((i+1,u2,laid++bb [x.heir[i]'(by omega)]):(Nat)×(Value)×(List UInt8)) ⟨by omega,by rw[←hL,p1 (i:=i) (by omega),if_neg h36];simp[bb]⟩ (by show _-_<_-_;omega)
  SB
  (λ_ s=>ak [3,0,0] rfl s)
 refine nx J12 (aa λ_ J24=>CN (aZ (aB (aB (bw (ac J10 (sr λ_ J25=>P2 ?_)))))));refine nx J25 (ai (WK [1,1] (aq rfl rfl ?_)));obtain rfl:laid=bs++gZ x:=by rw[←hL,show 5-i=0 by omega];simp[fU]
 exact⟨u,rfl,rfl⟩
theorem AZ(m:MsgT):
 DT 205 #[(.agg (ints m.flat).toArray)] T0 [] (dw (λr' H=>∃u,r'=u∧H=[dL u (dm m) 5])):=by
 refine BD 100 Tryz.func205 rfl rfl rfl λw0 F hF=>sr λ_ J1=>XY (ints m.flat) λb1=>?_
 refine PS ?_;refine nx J1 (sr λ_ J2=>XA JX λb4=>?_);refine TL.ownNil 5 (λon=>?_);clear on;refine PS ?_;refine nx J2 (aa λ_ J3=>sr λ_ J4=>FA 0 a8 aO ?_);refine LU 2 Y3 (eG m rfl) ?_;refine nx J4 (ap (aa λ_ J5=>eJ (α:=Unit) (λ_u=>True) (λ_u=>[(1,(.pointer (some ⟨b1,0,none⟩))),(2,(.slice none 0 0)),(3,(.pointer (some ⟨b4,0,none⟩))),(6,(.int .i64 (m.kind))),(7,(.bool ((eY m.kind))))]) (λ_u=>[dL (.slice none 0 0) ([]) 5,aj b4 [(.slice none 0 0)] 144,aj b1 (ints m.flat) 178]) (λ_u hinv=>?_) (λtl5=>?_)));have _:=hinv;refine ac J5 (TC.cond rfl (λh7=>?_) (λh7=>?_));refine D1 2 bf ?_;refine PD 0 ?_;refine FD 1 0 a8 aO ?_;refine LR 2 Y3 (eG m rfl) ?_;refine FD 3 1 a8 aO ?_;refine LR 4 Y3 (cg m rfl) ?_;refine FD 7 2 a8 ba ?_;refine ta 8 rfl (aK (vs:=ints m.row.flat) rfl dS rfl ba rfl (λ_ h=>h.2.1) (ah m.row) (lF m 0 rfl (by decide) (bk (ah m.row)))) ?_;refine AL 5 ?_;refine aU (cells:=#[(.int .i64 (m.kind)),(.int .i64 (m.whose))]) (ab rfl) rfl rfl rfl jT qB rfl rfl rfl (by as_aux_lemma=>kernel_rfl) (λb16=>EN (AL 6 ?_));refine CQ mS (dG b4 (.slice none 0 0) ([]) (.slice (some ⟨b16,0,none⟩) (2) (2)) [m.kind,m.whose] (by simp)) (SM [2,1]) (dx 0 rfl rfl rfl rfl) λvR HR hR=>?_
 obtain⟨u1,rfl,rfl⟩:=hR;refine EN (AL 9 ?_);refine CR Jv (sa b4 u1 (bb [m.kind,m.whose]) m.row (by(have:=aT [m.kind,m.whose]);simp only[BallotT.flat,ViewT.flat,ChangeT.flat,ax,aA,ay,ad]at*;omega)) ID λvR HR hR=>?_
 obtain⟨u2,rfl,rfl⟩:=hR;refine EN (DN (ag (ac J3 (sr λ_ J6=>PS ?_))));refine CR qq (dW b4 u2 (bb [m.kind,m.whose]++gZ m.row) (by(have:=aT [m.kind,m.whose]);(have:=gY m.row);simp only[BallotT.flat,ViewT.flat,ChangeT.flat,ax,aA,ay,ad]at*;omega)) ID λvR HR hR=>?_
 obtain⟨_,rfl,rfl⟩:=hR;revert vR;intro u3;refine PS ?_;refine nx J6 (ai (WK [2] (aq rfl rfl ?_)));exact⟨_,rfl,congrArg (λb=>[dL u3 b 5]) (show(bb [m.kind,m.whose]++gZ m.row)=dm m by simp[dm,bb, *])⟩;refine sr λ_ J7=>PS ?_
 refine am ?_ ?_<;>intro h22;refine PS ?_;refine nx J7 (CY (af (PS ?_)));refine FA 0 a8 aO ?_;refine LU 2 Y3 (eG m rfl) ?_;refine FA 176 a8 aO ?_;refine LU 2 Y3 (MsgT.at_version m rfl) ?_;refine aU (cells:=#[(.int .i64 (m.kind)),(.int .i64 (m.version))]) (ab rfl) rfl rfl rfl jT qB rfl rfl rfl (by as_aux_lemma=>kernel_rfl) (λb28=>CQ mS (dG b4 (.slice none 0 0) ([]) (.slice (some ⟨b28,0,none⟩) (2) (2)) [m.kind,m.version] (by simp)) (SM [2,1]) (dx 0 rfl rfl rfl rfl) λvR HR hR=>?_);obtain⟨u1,rfl,rfl⟩:=hR;refine au (ag (ac J3 (sr λ_ J8=>PS ?_)));refine CR qq (dW b4 u1 (bb [m.kind,m.version]) (by(have:=aT [m.kind,m.version]);simp only[BallotT.flat,ViewT.flat,ChangeT.flat,ax,aA,ay,ad]at*;omega)) ID λvR HR hR=>?_
 obtain⟨_,rfl,rfl⟩:=hR;revert vR;intro u2;refine PS ?_;refine nx J8 (ai (WK [2] (aq rfl rfl ?_)));exact⟨_,rfl,congrArg (λb=>[dL u2 b 5]) (show(bb [m.kind,m.version])=dm m by simp[dm,eY,e9,bb, *])⟩;refine PS ?_;refine nx J7 (CN (aa λ_ J9=>eJ (α:=Unit) (λ_u=>True) (λ_u=>[(1,(.pointer (some ⟨b1,0,none⟩))),(2,(.slice none 0 0)),(3,(.pointer (some ⟨b4,0,none⟩))),(6,(.int .i64 (m.kind))),(30,(.bool ((e9 m.kind))))]) (λ_u=>[dL (.slice none 0 0) ([]) 5,aj b4 [(.slice none 0 0)] 144,aj b1 (ints m.flat) 178]) (λ_u hinv=>?_) (λtl9=>?_)));have _:=hinv;refine ac J9 (TC.cond rfl (λh30=>?_) (λh30=>?_));refine D1 2 bf ?_;refine PD 0 ?_;refine FD 1 0 a8 aO ?_;refine LR 2 Y3 (eG m rfl) ?_;refine FD 3 177 a8 aO ?_;refine LR 4 Y3 (ez m rfl) ?_;refine FD 7 178 a8 cv ?_;refine ta 8 rfl (aK (vs:=ints m.ballot.flat) rfl jP rfl cv rfl (λ_ h=>h.2.1) (an m.ballot) (iA m 0 rfl (by decide) (bk (an m.ballot)))) ?_;refine AL 5 ?_;refine aU (cells:=#[(.int .i64 (m.kind)),(.int .i64 (m.epoch))]) (ab rfl) rfl rfl rfl jT qB rfl rfl rfl (by as_aux_lemma=>kernel_rfl) (λb38=>EN (AL 6 ?_));refine CQ mS (dG b4 (.slice none 0 0) ([]) (.slice (some ⟨b38,0,none⟩) (2) (2)) [m.kind,m.epoch] (by simp)) (SM [2,1]) (dx 0 rfl rfl rfl rfl) λvR HR hR=>?_
 obtain⟨u1,rfl,rfl⟩:=hR;refine EN (AL 9 ?_);refine CR Fg (iU b4 u1 (bb [m.kind,m.epoch]) m.ballot (by(have:=aT [m.kind,m.epoch]);simp only[BallotT.flat,ViewT.flat,ChangeT.flat,ax,aA,ay,ad]at*;omega)) ID λvR HR hR=>?_
 obtain⟨u2,rfl,rfl⟩:=hR;refine EN (DN (ag (ac J3 (sr λ_ J10=>PS ?_))));refine CR qq (dW b4 u2 (bb [m.kind,m.epoch]++bb m.ballot.flat) (by(have:=aT [m.kind,m.epoch]);(have:=aT (m.ballot.flat));simp only[BallotT.flat,ViewT.flat,ChangeT.flat,ax,aA,ay,ad]at*;omega)) ID λvR HR hR=>?_
 obtain⟨_,rfl,rfl⟩:=hR;revert vR;intro u3;refine PS ?_;refine nx J10 (ai (WK [2] (aq rfl rfl ?_)));exact⟨_,rfl,congrArg (λb=>[dL u3 b 5]) (show(bb [m.kind,m.epoch]++bb m.ballot.flat)=dm m by simp[dm,bb, *])⟩;refine sr λ_ J11=>PS ?_
 refine am ?_ ?_<;>intro h44;refine PS ?_;refine nx J11 (CY (D1 2 bf ?_));refine PD 0 ?_;refine FD 1 0 a8 aO ?_;refine LR 2 Y3 (eG m rfl) ?_;refine FD 3 177 a8 aO ?_;refine LR 4 Y3 (ez m rfl) ?_;refine FD 7 178 a8 cv ?_;refine ta 8 rfl (aK (vs:=ints m.ballot.flat) rfl jP rfl cv rfl (λ_ h=>h.2.1) (an m.ballot) (iA m 0 rfl (by decide) (bk (an m.ballot)))) ?_;refine FD 10 180 a8 cv ?_;refine ta 11 rfl (aK (vs:=ints m.had.flat) rfl jP rfl cv rfl (λ_ h=>h.2.1) (an m.had) (M9 m 0 rfl (by decide) (bk (an m.had)))) ?_;refine FD 13 182 a8 fl ?_;refine ta 14 rfl (aK (vs:=ints m.change.flat) rfl mx rfl fl rfl (λ_ h=>h.2.1) (aI m.change) (mA m 0 rfl (by decide) (bk (aI m.change)))) ?_;refine AL 5 ?_;refine aU (cells:=#[(.int .i64 (m.kind)),(.int .i64 (m.epoch))]) (ab rfl) rfl rfl rfl jT qB rfl rfl rfl (by as_aux_lemma=>kernel_rfl) (λb50=>EN (AL 6 ?_));refine CQ mS (dG b4 (.slice none 0 0) ([]) (.slice (some ⟨b50,0,none⟩) (2) (2)) [m.kind,m.epoch] (by simp)) (SM [2,1]) (dx 0 rfl rfl rfl rfl) λvR HR hR=>?_
 obtain⟨u1,rfl,rfl⟩:=hR;refine EN (AL 9 ?_);refine CR Fg (iU b4 u1 (bb [m.kind,m.epoch]) m.ballot (by(have:=aT [m.kind,m.epoch]);simp only[BallotT.flat,ViewT.flat,ChangeT.flat,ax,aA,ay,ad]at*;omega)) ID λvR HR hR=>?_
 obtain⟨u2,rfl,rfl⟩:=hR;refine EN (AL 12 ?_);refine CR Fg (iU b4 u2 (bb [m.kind,m.epoch]++bb m.ballot.flat) m.had (by(have:=aT [m.kind,m.epoch]);(have:=aT (m.ballot.flat));simp only[BallotT.flat,ViewT.flat,ChangeT.flat,ax,aA,ay,ad]at*;omega)) ID λvR HR hR=>?_
 obtain⟨u3,rfl,rfl⟩:=hR;refine EN (AL 15 ?_);refine CR Ju (nH b4 u3 (bb [m.kind,m.epoch]++bb m.ballot.flat++bb m.had.flat) m.change (by(have:=aT [m.kind,m.epoch]);(have:=aT (m.ballot.flat));(have:=aT (m.had.flat));simp only[BallotT.flat,ViewT.flat,ChangeT.flat,ax,aA,ay,ad]at*;omega)) ID λvR HR hR=>?_
 obtain⟨u4,rfl,rfl⟩:=hR;refine EN (DN (ag (ac J3 (sr λ_ J12=>PS ?_))));refine CR qq (dW b4 u4 (bb [m.kind,m.epoch]++bb m.ballot.flat++bb m.had.flat++bb m.change.flat) (by(have:=aT [m.kind,m.epoch]);(have:=aT (m.ballot.flat));(have:=aT (m.had.flat));(have:=aT (m.change.flat));simp only[BallotT.flat,ViewT.flat,ChangeT.flat,ax,aA,ay,ad]at*;omega)) ID λvR HR hR=>?_
 obtain⟨_,rfl,rfl⟩:=hR;revert vR;intro u5;refine PS ?_;refine nx J12 (ai (WK [2] (aq rfl rfl ?_)));exact⟨_,rfl,congrArg (λb=>[dL u5 b 5]) (show(bb [m.kind,m.epoch]++bb m.ballot.flat++bb m.had.flat++bb m.change.flat)=dm m by simp[dm,eY,e9,bb, *])⟩;refine PS ?_;refine nx J11 (CN (sr λ_ J13=>PS ?_));refine am ?_ ?_<;>intro h62;refine PS ?_;refine nx J13 (CY (D1 2 bf ?_));refine PD 0 ?_;refine FD 1 0 a8 aO ?_;refine LR 2 Y3 (eG m rfl) ?_;refine FD 3 177 a8 aO ?_;refine LR 4 Y3 (ez m rfl) ?_;refine FD 7 178 a8 cv ?_;refine ta 8 rfl (aK (vs:=ints m.ballot.flat) rfl jP rfl cv rfl (λ_ h=>h.2.1) (an m.ballot) (iA m 0 rfl (by decide) (bk (an m.ballot)))) ?_;refine FD 10 182 a8 fl ?_;refine ta 11 rfl (aK (vs:=ints m.change.flat) rfl mx rfl fl rfl (λ_ h=>h.2.1) (aI m.change) (mA m 0 rfl (by decide) (bk (aI m.change)))) ?_;refine AL 5 ?_;refine aU (cells:=#[(.int .i64 (m.kind)),(.int .i64 (m.epoch))]) (ab rfl) rfl rfl rfl jT qB rfl rfl rfl (by as_aux_lemma=>kernel_rfl) (λb68=>EN (AL 6 ?_));refine CQ mS (dG b4 (.slice none 0 0) ([]) (.slice (some ⟨b68,0,none⟩) (2) (2)) [m.kind,m.epoch] (by simp)) (SM [2,1]) (dx 0 rfl rfl rfl rfl) λvR HR hR=>?_
 obtain⟨u1,rfl,rfl⟩:=hR;refine EN (AL 9 ?_);refine CR Fg (iU b4 u1 (bb [m.kind,m.epoch]) m.ballot (by(have:=aT [m.kind,m.epoch]);simp only[BallotT.flat,ViewT.flat,ChangeT.flat,ax,aA,ay,ad]at*;omega)) ID λvR HR hR=>?_
 obtain⟨u2,rfl,rfl⟩:=hR;refine EN (AL 12 ?_);refine CR Ju (nH b4 u2 (bb [m.kind,m.epoch]++bb m.ballot.flat) m.change (by(have:=aT [m.kind,m.epoch]);(have:=aT (m.ballot.flat));simp only[BallotT.flat,ViewT.flat,ChangeT.flat,ax,aA,ay,ad]at*;omega)) ID λvR HR hR=>?_
 obtain⟨u3,rfl,rfl⟩:=hR;refine EN (DN (ag (ac J3 (sr λ_ J14=>PS ?_))));refine CR qq (dW b4 u3 (bb [m.kind,m.epoch]++bb m.ballot.flat++bb m.change.flat) (by(have:=aT [m.kind,m.epoch]);(have:=aT (m.ballot.flat));(have:=aT (m.change.flat));simp only[BallotT.flat,ViewT.flat,ChangeT.flat,ax,aA,ay,ad]at*;omega)) ID λvR HR hR=>?_
 obtain⟨_,rfl,rfl⟩:=hR;revert vR;intro u4;refine PS ?_;refine nx J14 (ai (WK [2] (aq rfl rfl ?_)));exact⟨_,rfl,congrArg (λb=>[dL u4 b 5]) (show(bb [m.kind,m.epoch]++bb m.ballot.flat++bb m.change.flat)=dm m by simp[dm,eY,e9,bb, *])⟩;refine PS ?_;refine nx J13 (CN (sr λ_ J15=>PS ?_));refine am ?_ ?_<;>intro h77;refine PS ?_;refine nx J15 (CY (D1 2 bf ?_));refine PD 0 ?_;refine FD 1 0 a8 aO ?_;refine LR 2 Y3 (eG m rfl) ?_;refine FD 5 185 a8 be ?_;refine ta 6 rfl (aK (vs:=ints m.view.flat) rfl eL rfl be rfl (λ_ h=>h.2.1) (ao m.view) (tS m 0 rfl (by decide) (bk (ao m.view)))) ?_;refine AL 3 ?_;refine aU (cells:=#[(.int .i64 (m.kind))]) (ab rfl) rfl rfl rfl jT qB rfl rfl rfl (by as_aux_lemma=>kernel_rfl) (λb81=>EN (AL 4 ?_));refine CQ mS (dG b4 (.slice none 0 0) ([]) (.slice (some ⟨b81,0,none⟩) (1) (1)) [m.kind] (by simp)) (SM [2,1]) (dx 0 rfl rfl rfl rfl) λvR HR hR=>?_
 obtain⟨u1,rfl,rfl⟩:=hR;refine EN (AL 7 ?_);refine CR Jt (p8 b4 u1 (bb [m.kind]) m.view (by(have:=aT [m.kind]);simp only[BallotT.flat,ViewT.flat,ChangeT.flat,ax,aA,ay,ad]at*;omega)) ID λvR HR hR=>?_
 obtain⟨u2,rfl,rfl⟩:=hR;refine EN (DN (ag (ac J3 (sr λ_ J16=>PS ?_))));refine CR qq (dW b4 u2 (bb [m.kind]++bb m.view.flat) (by(have:=aT [m.kind]);(have:=aT (m.view.flat));simp only[BallotT.flat,ViewT.flat,ChangeT.flat,ax,aA,ay,ad]at*;omega)) ID λvR HR hR=>?_
 obtain⟨_,rfl,rfl⟩:=hR;revert vR;intro u3;refine PS ?_;refine nx J16 (ai (WK [2] (aq rfl rfl ?_)));exact⟨_,rfl,congrArg (λb=>[dL u3 b 5]) (show(bb [m.kind]++bb m.view.flat)=dm m by simp[dm,eY,e9,bb, *])⟩;refine PS ?_;refine nx J15 (CN (sr λ_ J17=>PS ?_));refine am ?_ ?_<;>intro h87;refine PS ?_;refine nx J17 (CY (D1 2 bf ?_));refine PD 0 ?_;refine FD 1 0 a8 aO ?_;refine LR 2 Y3 (eG m rfl) ?_;refine FD 3 1 a8 aO ?_;refine LR 4 Y3 (cg m rfl) ?_;refine FD 7 185 a8 be ?_;refine ta 8 rfl (aK (vs:=ints m.view.flat) rfl eL rfl be rfl (λ_ h=>h.2.1) (ao m.view) (tS m 0 rfl (by decide) (bk (ao m.view)))) ?_;refine AL 5 ?_;refine aU (cells:=#[(.int .i64 (m.kind)),(.int .i64 (m.whose))]) (ab rfl) rfl rfl rfl jT qB rfl rfl rfl (by as_aux_lemma=>kernel_rfl) (λb93=>EN (AL 6 ?_));refine CQ mS (dG b4 (.slice none 0 0) ([]) (.slice (some ⟨b93,0,none⟩) (2) (2)) [m.kind,m.whose] (by simp)) (SM [2,1]) (dx 0 rfl rfl rfl rfl) λvR HR hR=>?_
 obtain⟨u1,rfl,rfl⟩:=hR;refine EN (AL 9 ?_);refine CR Jt (p8 b4 u1 (bb [m.kind,m.whose]) m.view (by(have:=aT [m.kind,m.whose]);simp only[BallotT.flat,ViewT.flat,ChangeT.flat,ax,aA,ay,ad]at*;omega)) ID λvR HR hR=>?_
 obtain⟨u2,rfl,rfl⟩:=hR;refine EN (DN (ag (ac J3 (sr λ_ J18=>PS ?_))));refine CR qq (dW b4 u2 (bb [m.kind,m.whose]++bb m.view.flat) (by(have:=aT [m.kind,m.whose]);(have:=aT (m.view.flat));simp only[BallotT.flat,ViewT.flat,ChangeT.flat,ax,aA,ay,ad]at*;omega)) ID λvR HR hR=>?_
 obtain⟨_,rfl,rfl⟩:=hR;revert vR;intro u3;refine PS ?_;refine nx J18 (ai (WK [2] (aq rfl rfl ?_)));exact⟨_,rfl,congrArg (λb=>[dL u3 b 5]) (show(bb [m.kind,m.whose]++bb m.view.flat)=dm m by simp[dm,eY,e9,bb, *])⟩;refine PS ?_;refine nx J17 (CN (aQ (ag (ac J3 (sr λ_ J19=>PS ?_)))));refine CR qq (dW b4 (.slice none 0 0) ([]) (by simp)) (SM [1,0]) λvR HR hR=>?_
 obtain⟨_,rfl,rfl⟩:=hR;revert vR;intro u1;refine PS ?_;refine nx J19 (ai (WK [2] (aq rfl rfl ?_)));exact⟨_,rfl,congrArg (λb=>[dL u1 b 5]) (show([]:List UInt8)=dm m by simp[dm,bb, *])⟩;refine sr λ_ J20=>P2 ?_
 refine am ?_ ?_<;>intro h30;refine nx J20 (CY (aQ ?_))
 exact aE
  (aS (aS (aS (aS (bC rfl (by simp[e9, *]) SB)))))
  (λ_ s=>s)
  (tl9 (():Unit) trivial)
 refine nx J20 (CN (af (PS ?_)));refine am ?_ ?_<;>intro h32;refine PS ?_;refine au ?_
 exact aE
  (aS (aS (aS (aS (bC rfl (by simp[e9, *]) SB)))))
  (λ_ s=>s)
  (tl9 (():Unit) trivial)
 refine PS ?_;refine au ?_
 exact aE
  (aS (aS (aS (aS (bC rfl (by simp[e9, *]) SB)))))
  (λ_ s=>s)
  (tl9 (():Unit) trivial)
 refine sr λ_ J21=>P2 ?_
 refine am ?_ ?_<;>intro h7;refine nx J21 (CY (aQ ?_))
 exact aE
  (aS (aS (aS (aS (bC rfl (by simp[eY, *]) SB)))))
  (λ_ s=>s)
  (tl5 (():Unit) trivial)
 refine nx J21 (CN (sr λ_ J22=>P2 ?_));refine am ?_ ?_<;>intro h7;refine nx J22 (CY (aQ ?_))
 exact aE
  (aS (aS (aS (aS (bC rfl (by simp[eY, *]) SB)))))
  (λ_ s=>s)
  (tl5 (():Unit) trivial)
 refine nx J22 (CN (af (PS ?_)));refine am ?_ ?_<;>intro h10;refine PS ?_;refine au ?_
 exact aE
  (aS (aS (aS (aS (bC rfl (by simp[eY, *]) SB)))))
  (λ_ s=>s)
  (tl5 (():Unit) trivial)
 refine PS ?_;refine au ?_
 exact aE
  (aS (aS (aS (aS (bC rfl (by simp[eY, *]) SB)))))
  (λ_ s=>s)
  (tl5 (():Unit) trivial)
theorem Ap(m:RecT):
 DT 50 #[(.agg (ints m.flat).toArray)] T0 [] (dw (λr' H=>∃u,r'=u∧H=[dL u (jB m) 5])):=by
 refine BD 77 Tryz.func50 rfl rfl rfl λw0 F hF=>sr λ_ J1=>XY (ints m.flat) λb1=>?_
 refine PS ?_;refine nx J1 (sr λ_ J2=>XA JX λb4=>?_);refine TL.ownNil 5 (λon=>?_);clear on;refine PS ?_;refine nx J2 (aa λ_ J3=>sr λ_ J4=>FA 0 iy aO ?_);refine LU 2 Y3 (j0 m rfl) ?_;refine nx J4 (ap (sr λ_ J5=>PS ?_));refine am ?_ ?_<;>intro h8;refine PS ?_;refine nx J5 (CY (D1 2 bf ?_));refine PD 0 ?_;refine FD 1 0 iy aO ?_;refine LR 2 Y3 (j0 m rfl) ?_;refine FD 5 2 iy ba ?_;refine ta 6 rfl (aK (vs:=ints m.row.flat) rfl dS rfl ba rfl (λ_ h=>h.2.1) (ah m.row) (qO m 0 rfl (by decide) (bk (ah m.row)))) ?_;refine AL 3 ?_;refine aU (cells:=#[(.int .i64 (m.kind))]) (ab rfl) rfl rfl rfl jT qB rfl rfl rfl (by as_aux_lemma=>kernel_rfl) (λb12=>EN (AL 4 ?_));refine CQ mS (dG b4 (.slice none 0 0) ([]) (.slice (some ⟨b12,0,none⟩) (1) (1)) [m.kind] (by simp)) (SM [2,1]) (dx 0 rfl rfl rfl rfl) λvR HR hR=>?_
 obtain⟨u1,rfl,rfl⟩:=hR;refine EN (AL 7 ?_);refine CR Jv (sa b4 u1 (bb [m.kind]) m.row (by(have:=aT [m.kind]);simp only[BallotT.flat,ViewT.flat,ChangeT.flat,ax,aA,ay,ad]at*;omega)) ID λvR HR hR=>?_
 obtain⟨u2,rfl,rfl⟩:=hR;refine EN (DN (ag (ac J3 (sr λ_ J6=>PS ?_))));refine CR qq (dW b4 u2 (bb [m.kind]++gZ m.row) (by(have:=aT [m.kind]);(have:=gY m.row);simp only[BallotT.flat,ViewT.flat,ChangeT.flat,ax,aA,ay,ad]at*;omega)) ID λvR HR hR=>?_
 obtain⟨_,rfl,rfl⟩:=hR;revert vR;intro u3;refine PS ?_;refine nx J6 (ai (WK [2] (aq rfl rfl ?_)));exact⟨_,rfl,congrArg (λb=>[dL u3 b 5]) (show(bb [m.kind]++gZ m.row)=jB m by simp[jB,eY,e9,bb, *])⟩;refine PS ?_;refine nx J5 (CN (sr λ_ J7=>PS ?_));refine am ?_ ?_<;>intro h18;refine PS ?_;refine nx J7 (CY (D1 2 bf ?_));refine PD 0 ?_;refine FD 1 0 iy aO ?_;refine LR 2 Y3 (j0 m rfl) ?_;refine FD 3 1 iy aO ?_;refine LR 4 Y3 (Ec m rfl) ?_;refine FD 7 2 iy ba ?_;refine ta 8 rfl (aK (vs:=ints m.row.flat) rfl dS rfl ba rfl (λ_ h=>h.2.1) (ah m.row) (qO m 0 rfl (by decide) (bk (ah m.row)))) ?_;refine AL 5 ?_;refine aU (cells:=#[(.int .i64 (m.kind)),(.int .i64 (m.whose))]) (ab rfl) rfl rfl rfl jT qB rfl rfl rfl (by as_aux_lemma=>kernel_rfl) (λb24=>EN (AL 6 ?_));refine CQ mS (dG b4 (.slice none 0 0) ([]) (.slice (some ⟨b24,0,none⟩) (2) (2)) [m.kind,m.whose] (by simp)) (SM [2,1]) (dx 0 rfl rfl rfl rfl) λvR HR hR=>?_
 obtain⟨u1,rfl,rfl⟩:=hR;refine EN (AL 9 ?_);refine CR Jv (sa b4 u1 (bb [m.kind,m.whose]) m.row (by(have:=aT [m.kind,m.whose]);simp only[BallotT.flat,ViewT.flat,ChangeT.flat,ax,aA,ay,ad]at*;omega)) ID λvR HR hR=>?_
 obtain⟨u2,rfl,rfl⟩:=hR;refine EN (DN (ag (ac J3 (sr λ_ J8=>PS ?_))));refine CR qq (dW b4 u2 (bb [m.kind,m.whose]++gZ m.row) (by(have:=aT [m.kind,m.whose]);(have:=gY m.row);simp only[BallotT.flat,ViewT.flat,ChangeT.flat,ax,aA,ay,ad]at*;omega)) ID λvR HR hR=>?_
 obtain⟨_,rfl,rfl⟩:=hR;revert vR;intro u3;refine PS ?_;refine nx J8 (ai (WK [2] (aq rfl rfl ?_)));exact⟨_,rfl,congrArg (λb=>[dL u3 b 5]) (show(bb [m.kind,m.whose]++gZ m.row)=jB m by simp[jB,eY,e9,bb, *])⟩;refine PS ?_;refine nx J7 (CN (sr λ_ J9=>PS ?_));refine am ?_ ?_<;>intro h30;refine PS ?_;refine nx J9 (CY (af (PS ?_)));refine FA 0 iy aO ?_;refine LU 2 Y3 (j0 m rfl) ?_;refine FA 1 iy aO ?_;refine LU 2 Y3 (Ec m rfl) ?_;refine aU (cells:=#[(.int .i64 (m.kind)),(.int .i64 (m.whose))]) (ab rfl) rfl rfl rfl jT qB rfl rfl rfl (by as_aux_lemma=>kernel_rfl) (λb36=>CQ mS (dG b4 (.slice none 0 0) ([]) (.slice (some ⟨b36,0,none⟩) (2) (2)) [m.kind,m.whose] (by simp)) (SM [2,1]) (dx 0 rfl rfl rfl rfl) λvR HR hR=>?_);obtain⟨u1,rfl,rfl⟩:=hR;refine au (ag (ac J3 (sr λ_ J10=>PS ?_)));refine CR qq (dW b4 u1 (bb [m.kind,m.whose]) (by(have:=aT [m.kind,m.whose]);simp only[BallotT.flat,ViewT.flat,ChangeT.flat,ax,aA,ay,ad]at*;omega)) ID λvR HR hR=>?_
 obtain⟨_,rfl,rfl⟩:=hR;revert vR;intro u2;refine PS ?_;refine nx J10 (ai (WK [2] (aq rfl rfl ?_)));exact⟨_,rfl,congrArg (λb=>[dL u2 b 5]) (show(bb [m.kind,m.whose])=jB m by simp[jB,eY,e9,bb, *])⟩;refine PS ?_;refine nx J9 (CN (sr λ_ J11=>PS ?_));refine am ?_ ?_<;>intro h39;refine PS ?_;refine nx J11 (CY (D1 2 bf ?_));refine PD 0 ?_;refine FD 1 0 iy aO ?_;refine LR 2 Y3 (j0 m rfl) ?_;refine FD 3 176 iy aO ?_;refine LR 4 Y3 (RecT.at_epoch m rfl) ?_;refine FD 7 177 iy cv ?_;refine ta 8 rfl (aK (vs:=ints m.ballot.flat) rfl jP rfl cv rfl (λ_ h=>h.2.1) (an m.ballot) (pT m 0 rfl (by decide) (bk (an m.ballot)))) ?_;refine AL 5 ?_;refine aU (cells:=#[(.int .i64 (m.kind)),(.int .i64 (m.epoch))]) (ab rfl) rfl rfl rfl jT qB rfl rfl rfl (by as_aux_lemma=>kernel_rfl) (λb45=>EN (AL 6 ?_));refine CQ mS (dG b4 (.slice none 0 0) ([]) (.slice (some ⟨b45,0,none⟩) (2) (2)) [m.kind,m.epoch] (by simp)) (SM [2,1]) (dx 0 rfl rfl rfl rfl) λvR HR hR=>?_
 obtain⟨u1,rfl,rfl⟩:=hR;refine EN (AL 9 ?_);refine CR Fg (iU b4 u1 (bb [m.kind,m.epoch]) m.ballot (by(have:=aT [m.kind,m.epoch]);simp only[BallotT.flat,ViewT.flat,ChangeT.flat,ax,aA,ay,ad]at*;omega)) ID λvR HR hR=>?_
 obtain⟨u2,rfl,rfl⟩:=hR;refine EN (DN (ag (ac J3 (sr λ_ J12=>PS ?_))));refine CR qq (dW b4 u2 (bb [m.kind,m.epoch]++bb m.ballot.flat) (by(have:=aT [m.kind,m.epoch]);(have:=aT (m.ballot.flat));simp only[BallotT.flat,ViewT.flat,ChangeT.flat,ax,aA,ay,ad]at*;omega)) ID λvR HR hR=>?_
 obtain⟨_,rfl,rfl⟩:=hR;revert vR;intro u3;refine PS ?_;refine nx J12 (ai (WK [2] (aq rfl rfl ?_)));exact⟨_,rfl,congrArg (λb=>[dL u3 b 5]) (show(bb [m.kind,m.epoch]++bb m.ballot.flat)=jB m by simp[jB,eY,e9,bb, *])⟩;refine PS ?_;refine nx J11 (CN (sr λ_ J13=>PS ?_));refine am ?_ ?_<;>intro h51;refine PS ?_;refine nx J13 (CY (D1 2 bf ?_));refine PD 0 ?_;refine FD 1 0 iy aO ?_;refine LR 2 Y3 (j0 m rfl) ?_;refine FD 3 176 iy aO ?_;refine LR 4 Y3 (RecT.at_epoch m rfl) ?_;refine FD 7 177 iy cv ?_;refine ta 8 rfl (aK (vs:=ints m.ballot.flat) rfl jP rfl cv rfl (λ_ h=>h.2.1) (an m.ballot) (pT m 0 rfl (by decide) (bk (an m.ballot)))) ?_;refine FD 10 179 iy fl ?_;refine ta 11 rfl (aK (vs:=ints m.change.flat) rfl mx rfl fl rfl (λ_ h=>h.2.1) (aI m.change) (JL m 0 rfl (by decide) (bk (aI m.change)))) ?_;refine AL 5 ?_;refine aU (cells:=#[(.int .i64 (m.kind)),(.int .i64 (m.epoch))]) (ab rfl) rfl rfl rfl jT qB rfl rfl rfl (by as_aux_lemma=>kernel_rfl) (λb57=>EN (AL 6 ?_));refine CQ mS (dG b4 (.slice none 0 0) ([]) (.slice (some ⟨b57,0,none⟩) (2) (2)) [m.kind,m.epoch] (by simp)) (SM [2,1]) (dx 0 rfl rfl rfl rfl) λvR HR hR=>?_
 obtain⟨u1,rfl,rfl⟩:=hR;refine EN (AL 9 ?_);refine CR Fg (iU b4 u1 (bb [m.kind,m.epoch]) m.ballot (by(have:=aT [m.kind,m.epoch]);simp only[BallotT.flat,ViewT.flat,ChangeT.flat,ax,aA,ay,ad]at*;omega)) ID λvR HR hR=>?_
 obtain⟨u2,rfl,rfl⟩:=hR;refine EN (AL 12 ?_);refine CR Ju (nH b4 u2 (bb [m.kind,m.epoch]++bb m.ballot.flat) m.change (by(have:=aT [m.kind,m.epoch]);(have:=aT (m.ballot.flat));simp only[BallotT.flat,ViewT.flat,ChangeT.flat,ax,aA,ay,ad]at*;omega)) ID λvR HR hR=>?_
 obtain⟨u3,rfl,rfl⟩:=hR;refine EN (DN (ag (ac J3 (sr λ_ J14=>PS ?_))));refine CR qq (dW b4 u3 (bb [m.kind,m.epoch]++bb m.ballot.flat++bb m.change.flat) (by(have:=aT [m.kind,m.epoch]);(have:=aT (m.ballot.flat));(have:=aT (m.change.flat));simp only[BallotT.flat,ViewT.flat,ChangeT.flat,ax,aA,ay,ad]at*;omega)) ID λvR HR hR=>?_
 obtain⟨_,rfl,rfl⟩:=hR;revert vR;intro u4;refine PS ?_;refine nx J14 (ai (WK [2] (aq rfl rfl ?_)));exact⟨_,rfl,congrArg (λb=>[dL u4 b 5]) (show(bb [m.kind,m.epoch]++bb m.ballot.flat++bb m.change.flat)=jB m by simp[jB,eY,e9,bb, *])⟩;refine PS ?_;refine nx J13 (CN (sr λ_ J15=>PS ?_));refine am ?_ ?_<;>intro h66;refine PS ?_;refine nx J15 (CY (D1 2 bf ?_));refine PD 0 ?_;refine FD 1 0 iy aO ?_;refine LR 2 Y3 (j0 m rfl) ?_;refine FD 5 182 iy be ?_;refine ta 6 rfl (aK (vs:=ints m.view.flat) rfl eL rfl be rfl (λ_ h=>h.2.1) (ao m.view) (MO m 0 rfl (by decide) (bk (ao m.view)))) ?_;refine AL 3 ?_;refine aU (cells:=#[(.int .i64 (m.kind))]) (ab rfl) rfl rfl rfl jT qB rfl rfl rfl (by as_aux_lemma=>kernel_rfl) (λb70=>EN (AL 4 ?_));refine CQ mS (dG b4 (.slice none 0 0) ([]) (.slice (some ⟨b70,0,none⟩) (1) (1)) [m.kind] (by simp)) (SM [2,1]) (dx 0 rfl rfl rfl rfl) λvR HR hR=>?_
 obtain⟨u1,rfl,rfl⟩:=hR;refine EN (AL 7 ?_);refine CR Jt (p8 b4 u1 (bb [m.kind]) m.view (by(have:=aT [m.kind]);simp only[BallotT.flat,ViewT.flat,ChangeT.flat,ax,aA,ay,ad]at*;omega)) ID λvR HR hR=>?_
 obtain⟨u2,rfl,rfl⟩:=hR;refine EN (DN (ag (ac J3 (sr λ_ J16=>PS ?_))));refine CR qq (dW b4 u2 (bb [m.kind]++bb m.view.flat) (by(have:=aT [m.kind]);(have:=aT (m.view.flat));simp only[BallotT.flat,ViewT.flat,ChangeT.flat,ax,aA,ay,ad]at*;omega)) ID λvR HR hR=>?_
 obtain⟨_,rfl,rfl⟩:=hR;revert vR;intro u3;refine PS ?_;refine nx J16 (ai (WK [2] (aq rfl rfl ?_)));exact⟨_,rfl,congrArg (λb=>[dL u3 b 5]) (show(bb [m.kind]++bb m.view.flat)=jB m by simp[jB,eY,e9,bb, *])⟩;refine PS ?_;refine nx J15 (CN (aQ (ag (ac J3 (sr λ_ J17=>PS ?_)))));refine CR qq (dW b4 (.slice none 0 0) ([]) (by simp)) (SM [1,0]) λvR HR hR=>?_
 obtain⟨_,rfl,rfl⟩:=hR;revert vR;intro u1;refine PS ?_;refine nx J17 (ai (WK [2] (aq rfl rfl ?_)));exact⟨_,rfl,congrArg (λb=>[dL u1 b 5]) (show([]:List UInt8)=jB m by simp[jB,eY,e9,bb, *])⟩
open Dsk Wal
theorem ReplyT.flat_length(x:ReplyT):x.flat.length=3:=rfl
abbrev fp:= @ReplyT.flat_length
theorem pG(who:Int)(hm:cH who=true):DT 34 #[.int .i64 who] T0 [] (dw (λr' H=>∃u,r'=u∧H=[own u 2 [.int .i64 ((who+1)%5), .int .i64 ((who+2)%5)] 3 1])):=by
 have:=oI who;rw[show gE who=[(who+1)%5,(who+2)%5]by rw[gE,if_pos hm]]at this;exact this
theorem Ca(r:Nat)(x:RepT)(op err val:Int)(rs:List ReplyT)(hrs:rs.length≤1000000):
 DT 97 #[(.pointer (some ⟨r,0,none⟩)),(.int .i64 (op)),(.int .i64 (err)),(.int .i64 (val))] T0 [aj r (RepT.cells x) 123,own x.replies ((rs).length) (ints (List.flatMap ReplyT.flat (rs))) 37 3] (dw (λ_ H=>∃v',v'.oneCell'=true∧H=[aj r (RepT.cells {x with replies:=v'}) 123,own v' (rs++[ReplyT.mk op err val]).length (ints (List.flatMap ReplyT.flat (rs++[ReplyT.mk op err val]))) 37 3])):=by
 refine BD 21 Tryz.func97 rfl rfl rfl λw0 F hF=>af (P3 ?_)
 refine FA 1942 bg wB ?_;refine LT 0 qR x.replies ?_ (hc:=by exact RepT.at_replies x rfl);refine P3 ?_;refine tp (w7 (cs:=ints (ReplyT.mk op err val).flat) (segs:=[[Value.int .i64 0],[Value.int .i64 0],[Value.int .i64 0]]) (res:=[[Value.int .i64 op],[Value.int .i64 err],[Value.int .i64 val]]) (parts:=[(0,[Value.int .i64 op]),(1,[Value.int .i64 err]),(2,[Value.int .i64 val])]) rfl rfl D9 (by kernel_rfl) (by kernel_rfl) rfl (eW rfl rfl (eW rfl rfl (eW rfl rfl kV))) (ReplyT.eq (ReplyT.mk op err val)).symm) ?_;refine aU (cells:=(ints (ReplyT.mk op err val).flat).toArray) (ab rfl) rfl rfl rfl qR Fq rfl rfl rfl (lU (cI (ReplyT.mk op err val)) (by simp)) (λb17=>?_);change TL _ _ _ _ _ _ _ _ _ [aj b17 (ints (ReplyT.mk op err val).flat) 37,aj r (RepT.cells x) 123,own x.replies ((rs).length) (ints (List.flatMap ReplyT.flat (rs))) 37 3];refine cG (k:=2) (news:=ints (ReplyT.mk op err val).flat) (nn':=(rs++[ReplyT.mk op err val]).length) (xs':=ints (List.flatMap ReplyT.flat (rs++[ReplyT.mk op err val]))) (ab rfl) rfl rfl rfl qR Fq rfl rfl rfl rfl rfl rfl (λ_ _=>jg (cI _) (RO 0) (by rw[bd,g8])) (bG _) (by simp only[maxLen];omega) (by omega) (by simp) (by simp[ints]) (λv18 ov18=>PS ?_);refine FA 1942 bg wB ?_;exact bT (i:=1) (ab rfl) rfl rfl rfl rfl ov18 wB rfl rfl (LB (cM _)) (RepT.set_replies x rfl _) rfl (au (WK [1,1] (bu rfl ⟨_,ov18,rfl⟩)))
theorem Ar(r:Nat)(x:RepT)(key:Int):
 DT 51 #[(.pointer (some ⟨r,0,none⟩)),(.int .i64 (key))] T0 [aj r (RepT.cells x) 123] (RI (.int .i64 (jX x.book key)) [aj r (RepT.cells x) 123]):=by
 refine BD 10 Tryz.func51 rfl rfl rfl λw0 F hF=>sr λ_ J1=>PS ?_
 refine nx J1 (sr λ_ J2=>P2 ?_);refine FA 1068 bg sX ?_;refine PS ?_;refine CE KH (pq r 1068 123 (λu=>RepT.cells {x with book:=u}) (fH x) x.book key) ID ?_;refine PS ?_;exact nx J2 (ai (WK [0] (aq rfl rfl ⟨rfl,rfl⟩)))
theorem yI(r:Nat)(x:RepT)(rs:List ReplyT)(hrs:rs.length≤1000000):
 DT 19 #[(.pointer (some ⟨r,0,none⟩))] T0 [aj r (RepT.cells x) 123,own x.replies ((rs).length) (ints (List.flatMap ReplyT.flat (rs))) 37 3] (dw (λr' H=>∃u,r'=u∧H=[aj r (RepT.cells x) 123,own x.replies rs.length (ints (List.flatMap ReplyT.flat rs)) 37 3,own u rs.length (ints (List.flatMap ReplyT.flat rs)) 37 3])):=by
 refine BD 8 Tryz.func19 rfl rfl rfl λw0 F hF=>sr λ_ J1=>LI 37 3 (λ_=>PS ?_)
 refine nx J1 (sr λ_ J2=>P2 ?_);refine FA 1942 bg wB ?_;refine LT 1 qR x.replies ?_ (hc:=by exact RepT.at_replies x rfl);refine cG (k:=0) (news:=ints (List.flatMap ReplyT.flat rs)) (nn':=rs.length) (xs':=ints (List.flatMap ReplyT.flat rs)) (ab rfl) rfl rfl rfl qR Fq rfl rfl rfl rfl rfl rfl (λ_ s=>M2 2 rfl rfl s) (bG _) (by simp only[maxLen];omega) (by omega) (by simp) (by simp) (λv7 ov7=>PS ?_);exact nx J2 (ai (WK [1,1,0] (aq rfl rfl ⟨_,rfl,rfl⟩)))
end Go.Proofs.YtjblgopghhgflaaGreat
end

section
namespace Api
open Go Leg Codec Dsk Wal
def jR(w:Int)(x:RowT):RecT:= {RecT.zero with kind:=1,whose:=w,row:=x}
def iX(w:Int):RecT:= {RecT.zero with kind:=2,whose:=w}
def kG(v:ViewT):RecT:= {RecT.zero with kind:=5,view:=v}
def rH(v:Int):MsgT:= {MsgT.zero with kind:=1,version:=v}
def gJ(w:Int)(x:RowT):MsgT:= {MsgT.zero with kind:=9,whose:=w,row:=x}
section
variable {x:RepT} {from' w:Int} {y:RowT} {recs:List (List UInt8)}
end
section
variable {x:RepT} {from' w:Int} {v:ViewT} {recs:List (List UInt8)}
end
end Api
end

section
namespace Go.Proofs.YtjblgopghhgflaaGreat
open Go Leg Codec Api Dsk Wal
theorem E3(r:Nat)(x:RepT)(o:OpT):
 DT 96 #[(.pointer (some ⟨r,0,none⟩)),(.agg (ints o.flat).toArray)] T0 [aj r (RepT.cells x) 123] (RI (.tuple #[.agg (ints (im x o).1.flat).toArray, .int .i64 (im x o).2.1, .int .i64 (im x o).2.2]) [aj r (RepT.cells x) 123]):=by
 refine BD 121 Tryz.func96 rfl rfl rfl λw0 F hF=>sr λ_ J1=>XY (ints o.flat) λb3=>?_
 refine XZ uj (ints RowT.zero.flat) λb4=>?_
 refine P2 ?_;refine nx J1 (aa λ_ J2=>aa λ_ J3=>D1 2 bf ?_);refine PD 0 ?_;refine PD 1 ?_;refine FD 2 2 bg be ?_;refine ta 3 rfl (aK (vs:=ints x.view.flat) rfl eL rfl be rfl (λ_ h=>h.2.1) (ao x.view) (fD x 0 rfl (by decide) (bk (ao x.view)))) ?_;refine PD 4 ?_;refine PD 5 ?_;refine FD 6 0 bg aO ?_;refine LR 7 Y3 (cB x rfl) ?_;refine AL 8 ?_;refine CE o9 (dv x.view x.id) ID ?_;refine aX ?_ ?_<;>intro h17;refine EN (PD 9 ?_);refine DN (ac J3 (CN (qx J2 (aa λ_ J4=>sr λ_ J5=>FA 3 eZ aO ?_))));refine LU 1 Y3 (oB o rfl) ?_;refine PS ?_;refine am ?_ ?_<;>intro h22;have hkb:mn o.key=false:=decide_eq_false (by omega);refine PS ?_
 iterate 3 refine UT ?_
 refine PS ?_;refine nx J5 (CY (sr λ_ J6=>BV ((ints RowT.zero.flat).toArray) ?_));refine SW 0 ba ah ?_;refine P2 ?_;refine nx J6 (ai (ae (RU 0 [2] dS ba (ah _) ?_)));exact⟨by simp[im,gg, *],rfl⟩;refine PS ?_;refine FA 3 eZ aO ?_;refine LU 1 Y3 (oB o rfl) ?_;refine PS ?_;refine am ?_ ?_<;>intro h26;have hkb:mn o.key=false:=decide_eq_false (by omega);refine PS ?_;refine nx J5 (CY (sr λ_ J7=>BV ((ints RowT.zero.flat).toArray) ?_));refine SW 0 ba ah ?_;refine P2 ?_;refine nx J7 (ai (ae (RU 0 [2] dS ba (ah _) ?_)));exact⟨by simp[im,gg, *],rfl⟩;have hkb:mn o.key=true:=decide_eq_true (by omega);refine PS ?_;refine nx J5 (CN (qx J4 (aa λ_ J8=>sr λ_ J9=>FA 0 eZ aO ?_)));refine LU 1 Y3 (cq o rfl) ?_;refine PS ?_;refine am ?_ ?_<;>intro h31;refine nx J9 (CY (aa λ_ J10=>D1 1 bf ?_));refine ta 0 rfl (jH (cells:=(ints RowT.zero.flat).toArray) rfl rfl (by as_aux_lemma=>kernel_rfl)) ?_;refine PD 1 ?_;refine PD 2 ?_;refine FD 3 1068 bg sX ?_;refine FD 4 3 eZ aO ?_;refine LR 5 Y3 (oB o rfl) ?_;refine AL 6 ?_;refine CE KH (pq r 1068 123 (λu=>RepT.cells {x with book:=u}) (fH x) x.book o.key) (SM [2]) ?_;refine EN (AL 7 ?_);refine SW 1 ba ah ?_;refine EN (PD 8 ?_);refine PD 9 ?_;refine DN (ac J10 (ai (ae (RU 1 [0] dS ba (ah _) ?_))));exact⟨by simp[im,gg, *],rfl⟩;refine nx J9 (CN (qx J8 (aa λ_ J11=>sr λ_ J12=>P2 ?_)));refine FA 1938 bg kp ?_;refine LU 2 Y4 (w3 x rfl) ?_;refine aX ?_ ?_<;>intro h42
 refine nx J12 (CY (sr λ_ J13=>BV ((ints RowT.zero.flat).toArray) ?_));refine SW 0 ba ah ?_;refine P2 ?_;refine nx J13 (ai (ae (RU 0 [2] dS ba (ah _) ?_)));exact⟨by simp[im,gg, *],rfl⟩;refine nx J12 (CN (qx J11 (sr λ_ J14=>XZ uj (ints RowT.zero.flat) λb7=>?_)));refine nx J14 (sr λ_ J15=>PS ?_);refine nx J15 (aa λ_ J16=>sr λ_ J17=>FA 0 eZ aO ?_);refine LU 2 Y3 (cq o rfl) ?_;refine nx J17 (ap (sr λ_ J18=>PS ?_));refine am ?_ ?_<;>intro h47;refine PS ?_;refine nx J18 (CY (D2 3 2 bf ?_));refine PD 0 ?_;refine PD 1 ?_;refine FD 2 9 bg ba ?_;refine ta 3 rfl (aK (vs:=ints x.own.flat) rfl dS rfl ba rfl (λ_ h=>h.2.1) (ah x.own) (wY x 0 rfl (by decide) (bk (ah x.own)))) ?_;refine FD 4 3 eZ aO ?_;refine LR 5 Y3 (oB o rfl) ?_;refine FD 6 4 eZ aO ?_;refine LR 7 Y3 (wm o rfl) ?_;refine AL 8 ?_;refine CE Ll (Ak x.own o.key o.n) ID ?_;refine EN (PD 9 ?_);refine PD 10 ?_;refine PD 11 ?_;refine AL 12 ?_;refine SW 0 ba ah ?_;refine EN (PD 13 ?_);refine DN (ag (ac J16 (aa λ_ J19=>sr λ_ J20=>P2 ?_)));refine am ?_ ?_<;>intro h98;refine nx J20 (CY (sr λ_ J21=>BV ((ints RowT.zero.flat).toArray) ?_));refine PS ?_;refine SW 1 ba ah ?_;refine P2 ?_;refine nx J21 (ai (ae (RU 1 [3] dS ba (ah _) ?_)));exact⟨by simp[im,gg, *],rfl⟩;refine nx J20 (CN (qx J19 (aa λ_ J22=>aa λ_ J23=>D2 2 3 bf ?_)));refine FD 0 0 eZ aO ?_;refine LR 1 Y3 (cq o rfl) ?_;refine PD 2 ?_;refine gF ?_ ?_<;>intro h103
 · exact absurd h47 h103
 refine PD 3 ?_;refine NT 4 ?_;refine NT 5 ?_;refine NT 6 ?_;refine NT 7 ?_;refine NT 8 ?_;refine NT 9 ?_;refine NT 10 ?_;refine NT 11 ?_;refine NT 12 ?_;refine NT 13 ?_;refine NT 14 ?_;refine NT 15 ?_;refine NT 16 ?_;refine PD 17 ?_;refine DN (ac J23 (CN (qx J22 (sr λ_ J24=>LW 0 dS ba ah ?_))));refine SW 1 ba ah ?_;refine P2 ?_;refine nx J24 (ai (RU 1 [3] dS ba (ah _) ?_));exact⟨by simp[im,gg, *],rfl⟩;refine PS ?_;refine nx J18 (CN (sr λ_ J25=>PS ?_));refine am ?_ ?_<;>intro h61;refine PS ?_;refine nx J25 (CY (D2 3 2 bf ?_));refine PD 0 ?_;refine PD 1 ?_;refine FD 2 9 bg ba ?_;refine ta 3 rfl (aK (vs:=ints x.own.flat) rfl dS rfl ba rfl (λ_ h=>h.2.1) (ah x.own) (wY x 0 rfl (by decide) (bk (ah x.own)))) ?_;refine FD 4 3 eZ aO ?_;refine LR 5 Y3 (oB o rfl) ?_;refine FD 6 4 eZ aO ?_;refine LR 7 Y3 (wm o rfl) ?_;refine AL 8 ?_;refine CE Lk (Al x.own o.key o.n) ID ?_;refine EN (PD 9 ?_);refine PD 10 ?_;refine PD 11 ?_;refine AL 12 ?_;refine SW 0 ba ah ?_;refine EN (PD 13 ?_);refine DN (ag (ac J16 (aa λ_ J26=>sr λ_ J27=>P2 ?_)));refine am ?_ ?_<;>intro h98;refine nx J27 (CY (sr λ_ J28=>BV ((ints RowT.zero.flat).toArray) ?_));refine PS ?_;refine SW 1 ba ah ?_;refine P2 ?_;refine nx J28 (ai (ae (RU 1 [3] dS ba (ah _) ?_)));exact⟨by simp[im,gg, *],rfl⟩;refine nx J27 (CN (qx J26 (aa λ_ J29=>aa λ_ J30=>D2 2 3 bf ?_)));refine FD 0 0 eZ aO ?_;refine LR 1 Y3 (cq o rfl) ?_;refine PD 2 ?_;refine gF ?_ ?_<;>intro h103;refine PD 3 ?_
 refine PD 4 ?_;refine PD 5 ?_;refine FD 6 1068 bg sX ?_;refine PD 7 ?_;refine PD 8 ?_;refine FD 9 0 bg aO ?_;refine LR 10 Y3 (cB x rfl) ?_;refine FD 11 3 eZ aO ?_;refine LR 12 Y3 (oB o rfl) ?_;refine FD 14 4 eZ aO ?_;refine LR 15 Y3 (wm o rfl) ?_;refine AL 13 ?_;refine CE Ky (om r 1068 123 (λu=>RepT.cells {x with book:=u}) (fH x) x.book x.id o.key) (SM [3]) ?_;refine EN (PD 16 ?_);refine gF ?_ ?_<;>intro h117;refine PD 17 ?_;refine DN (ac J30 (CY (sr λ_ J31=>BV ((ints RowT.zero.flat).toArray) ?_)));refine SW 2 ba ah ?_;refine P2 ?_;refine nx J31 (ai (ae (RU 2 [0] dS ba (ah _) ?_)));exact⟨by simp[im,gg, *],rfl⟩;refine PD 17 ?_;refine DN (ac J30 (CN (qx J29 (sr λ_ J32=>LW 1 dS ba ah ?_))));refine SW 2 ba ah ?_;refine P2 ?_;refine nx J32 (ai (RU 2 [0] dS ba (ah _) ?_));exact⟨by simp[im,gg, *],rfl⟩
 · exact absurd h47 h103
 refine PS ?_;refine nx J25 (CN (sr λ_ J33=>PS ?_));refine am ?_ ?_<;>intro h75;refine PS ?_;refine nx J33 (CY (aa λ_ J34=>D2 2 3 bf ?_));refine FD 0 2 eZ aO ?_;refine LR 1 Y3 (hZ o rfl) ?_;refine PD 2 ?_;refine PD 3 ?_;refine FD 4 0 bg aO ?_;refine LR 5 Y3 (cB x rfl) ?_;refine PD 6 ?_;refine gF ?_ ?_<;>intro h82;refine DN (ac J34 (CY (D2 3 2 bf ?_)));refine PD 0 ?_;refine PD 1 ?_;refine FD 2 9 bg ba ?_;refine ta 3 rfl (aK (vs:=ints x.own.flat) rfl dS rfl ba rfl (λ_ h=>h.2.1) (ah x.own) (wY x 0 rfl (by decide) (bk (ah x.own)))) ?_;refine FD 4 3 eZ aO ?_;refine LR 5 Y3 (oB o rfl) ?_;refine FD 6 4 eZ aO ?_;refine LR 7 Y3 (wm o rfl) ?_;refine FD 8 2 eZ aO ?_;refine LR 9 Y3 (hZ o rfl) ?_;refine AL 10 ?_;refine CE Lj (yG x.own o.key o.n o.to') ID ?_;refine EN (PD 11 ?_);refine PD 12 ?_;refine PD 13 ?_;refine AL 14 ?_;refine SW 0 ba ah ?_;refine EN (PD 15 ?_);refine DN (ag (ac J16 (aa λ_ J35=>sr λ_ J36=>P2 ?_)));refine am ?_ ?_<;>intro h98;refine nx J36 (CY (sr λ_ J37=>BV ((ints RowT.zero.flat).toArray) ?_));refine PS ?_;refine SW 1 ba ah ?_;refine P2 ?_;refine nx J37 (ai (ae (RU 1 [3] dS ba (ah _) ?_)));exact⟨by simp[im,gg, *],rfl⟩;refine nx J36 (CN (qx J35 (aa λ_ J38=>aa λ_ J39=>D2 2 3 bf ?_)));refine FD 0 0 eZ aO ?_;refine LR 1 Y3 (cq o rfl) ?_;refine PD 2 ?_;refine gF ?_ ?_<;>intro h103;refine PD 3 ?_;refine PD 4 ?_;refine PD 5 ?_;refine FD 6 1068 bg sX ?_;refine PD 7 ?_;refine PD 8 ?_;refine FD 9 0 bg aO ?_
 refine LR 10 Y3 (cB x rfl) ?_;refine FD 11 3 eZ aO ?_;refine LR 12 Y3 (oB o rfl) ?_;refine FD 14 4 eZ aO ?_;refine LR 15 Y3 (wm o rfl) ?_;refine AL 13 ?_;refine CE Ky (om r 1068 123 (λu=>RepT.cells {x with book:=u}) (fH x) x.book x.id o.key) (SM [3]) ?_;refine EN (PD 16 ?_);refine gF ?_ ?_<;>intro h117;refine PD 17 ?_;refine DN (ac J39 (CY (sr λ_ J40=>BV ((ints RowT.zero.flat).toArray) ?_)));refine SW 2 ba ah ?_;refine P2 ?_;refine nx J40 (ai (ae (RU 2 [0] dS ba (ah _) ?_)));exact⟨by simp[im,gg, *],rfl⟩;refine PD 17 ?_;refine DN (ac J39 (CN (qx J38 (sr λ_ J41=>LW 1 dS ba ah ?_))));refine SW 2 ba ah ?_;refine P2 ?_;refine nx J41 (ai (RU 2 [0] dS ba (ah _) ?_));exact⟨by simp[im,gg, *],rfl⟩
 · exact absurd h47 h103
 refine DN (ac J34 (CN (aQ (ag (ac J16 (aa λ_ J42=>sr λ_ J43=>P2 ?_))))));refine nx J43 (CY (sr λ_ J44=>BV ((ints RowT.zero.flat).toArray) ?_));refine PS ?_;refine SW 1 ba ah ?_;refine P2 ?_;refine nx J44 (ai (ae (RU 1 [3] dS ba (ah _) ?_)));exact⟨by simp[im,gg, *],rfl⟩;refine PS ?_;refine nx J33 (CN (aQ (ag (ac J16 (aa λ_ J45=>sr λ_ J46=>P2 ?_)))));refine nx J46 (CY (sr λ_ J47=>BV ((ints RowT.zero.flat).toArray) ?_));refine PS ?_;refine SW 1 ba ah ?_;refine P2 ?_;refine nx J47 (ai (ae (RU 1 [3] dS ba (ah _) ?_)));exact⟨by simp[im,gg, *],rfl⟩;refine EN (PD 9 ?_);refine DN (ac J3 (CY (sr λ_ J48=>BV ((ints RowT.zero.flat).toArray) ?_)));refine SW 0 ba ah ?_;refine P2 ?_;refine nx J48 (ai (ae (RU 0 [2] dS ba (ah _) ?_)));exact⟨by simp[im,gg, *],rfl⟩
theorem Cu(x:Value)(l:List Int)(v:Int)(hl:l.length≤1000000):
    DT 179 #[x,(.int .i64 (v))] (IsI .i64 x l) [] (dw (λr' H=>∃n:Int,r'= .int .i64 n∧(decide (n≥0)=true↔v∈l)∧H=[])):=by
 refine BD 19 Tryz.func179 rfl rfl rfl λw0 F hF=>sr λ_ J1=>PS ?_
 refine nx J1 (aa λ_ J2=>sr λ_ J3=>PS ?_);refine tp (cu rfl jT rfl hF.len) ?_;refine PS ?_;refine nx J3 (ap ?_)
 refine bB (α:=(Nat)) (λk=>k≤l.length∧∀(j:Nat),j<k→l.getD j 0≠v) (λk=>[(0,x),(1,(.int .i64 (v))),(7,(.int .i64 (((l.length:Nat):Int)))),(8,(.int .i64 (((k:Nat):Int))))]) (λk=>[]) (λk=>l.length-k) 0
     ⟨aN _,λj h=>absurd h (by omega)⟩ SB
     (λ_ s=>s) (λk hinv=>?_)
 obtain⟨hk,hv⟩:=hinv;refine sr λ_ J4=>PS ?_
 refine am ?_ ?_<;>intro h9;obtain⟨b_a,off_a,cap_a,cs_a,T_a,z_a,hv_a,hb_a,hcs_a,hcp_a⟩:=IsI.at hF (j:=k) (by omega);refine nx J4 (aa λ_ J5=>CY (qx J5 (aa λ_ J6=>ap (sr λ_ J7=>P2 ?_))));refine nx J7 (sr λ_ J8=>P3 ?_);refine tp (bv (r:=off_a+k) hv_a rfl jT aO rfl rfl (by omega) (by omega) (by omega)) ?_;refine tp (cV (v:=(.int .i64 ((l.getD k 0)))) rfl Y3 rfl rfl (Bw hb_a (λ_ h=>e5 h)) hcs_a) ?_;refine PS ?_;refine am ?_ ?_<;>intro h16;refine nx J8 (CY (sr λ_ J9=>P2 ?_));refine nx J9 (ai (aH (ae (ae (aH (ae (WK [] (aq rfl rfl ?_))))))));exact⟨((k:Nat):Int),rfl,by rw[decide_eq_true_iff];exact⟨λ_=>by rw[h16,List.getD_eq_getElem?_getD,List.getElem?_eq_getElem (by omega)];exact bZ _,λ_=>by omega⟩,rfl⟩;refine nx J8 (CN (aQ (ag (ac J6 (af (AD ?_))))));refine PS ?_;refine au ?_
 exact aJ ((k+1):(Nat)) ⟨by omega,λj hj=>by
        by_cases q:j=k
        · subst q;exact λe=>h16 e.symm
        · exact hv j (by omega)⟩ (by show l.length- (k+1)<l.length-k;omega)
   SB
   (λ_ s=>s)
 refine nx J4 (aa λ_ J10=>CN (aZ (aB (aB (bw (ac J2 (sr λ_ J11=>PS ?_)))))));refine nx J11 (ai (WK [] (aq rfl rfl ?_)))
 exact⟨-1,rfl,by
      rw[decide_eq_true_iff];constructor
      · intro h;omega
      · intro h
        obtain⟨j,hj,e⟩:=e4 h;have:=hv j (by omega);rw[List.getD_eq_getElem?_getD,List.getElem?_eq_getElem hj]at this
        exact absurd e this,rfl⟩
theorem p3(x:Value)(l:List Int)(v:Int)(hl:l.length≤1000000):
 DT 168 #[x,(.int .i64 (v))] (IsI .i64 x l) [] (RI (.bool (decide (v∈l))) []):=by
 refine BD 9 Tryz.func168 rfl rfl rfl λw0 F hF=>sr λ_ J1=>PS ?_
 refine nx J1 (sr λ_ J2=>P2 ?_);refine CQ KQ (Cu x l v hl) ID (λ_ d _=>IsI.more hF d) λvR HR hR=>?_
 obtain⟨n,rfl,hn,rfl⟩:=hR;refine P2 ?_;refine nx J2 (ai (WK [] (aq rfl rfl ?_)));exact⟨congrArg Value.bool (by rw[JO,hn,decide_eq_true_iff]),rfl⟩
end Go.Proofs.YtjblgopghhgflaaGreat
end

section
namespace Api
open Go Leg Codec
theorem zE{n:Int}(h:(Lit.int .i64 n).wf=true): -9223372036854775808≤n∧n<9223372036854775808:=by
 have m1:IntKind.i64.min= -9223372036854775808:=by decide
 have m2:IntKind.i64.max=9223372036854775807:=by decide
 simp only[Lit.wf,m1,m2,av,decide_eq_true_eq]at h;omega
theorem qX{n:Int}{l:List Int}(h:0≤n∧n<9223372036854775808)(hl:WF l):WF (n::l):=λm hm=>by
 rcases ci.1 hm with rfl|hm
 · exact qW h
 · exact hl m hm
theorem lw{a b:List Int}(ha:WF a)(hb:WF b):WF (a++b):=λm hm=>by
 rcases cx.1 hm with hm|hm
 · exact ha m hm
 · exact hb m hm
theorem FS:WF []:=λ_ h=>by cases h
theorem OkB.wf{b:BallotT}(h:OkB b):WF b.flat:=qX h.1 (qX ⟨h.2.1,by have:=h.2.2;omega⟩ FS)
theorem OkC.wf{c:ChangeT}(h:OkC c):WF c.flat:=qX ⟨h.1.1,by have:=h.1.2;omega⟩ (qX ⟨h.2.1.1,by have:=h.2.1.2;omega⟩ (qX ⟨h.2.2.1,by have:=h.2.2.2;omega⟩ FS))
theorem Ma:Nm 0:=⟨by decide,by decide⟩
theorem rO(m:MsgT):(dm m).length≤3000:=by
 have h1:=gY m.row;have h2:=aT m.ballot.flat;have h3:=aT m.had.flat;have h4:=aT m.change.flat;have h5:=aT m.view.flat;have h6:=aT [m.kind,m.whose];have h7:=aT [m.kind,m.version];have h8:=aT [m.kind,m.epoch];have h9:=aT [m.kind];simp only[BallotT.flat,ChangeT.flat,ViewT.flat,ax,aA,ay]at h2 h3 h4 h5 h6 h7 h8 h9;unfold dm;split
 · simp only[ad];omega
 split
 · omega
 split
 · simp only[ad,BallotT.flat];omega
 split
 · simp only[ad,BallotT.flat,ChangeT.flat];omega
 split
 · simp only[ad,BallotT.flat,ChangeT.flat];omega
 split
 · simp only[ad,ViewT.flat];omega
 split
 · simp only[ad,ViewT.flat];omega
 · simp
theorem An:gK RowT.zero=true:=by decide+kernel
theorem HY{m:RecT}{bs r:List UInt8}(h:df bs=some ((m,true),r)):gK m.row=true:=by
 obtain⟨k,r1,_,h⟩:=bE h;split at h
 · obtain⟨_,_,_,h⟩:=bE h
   obtain⟨e,_⟩:=gU h;injection e with e1 e2;subst e1;exact e2
 split at h
 · obtain⟨_,_,_,h⟩:=bE h
   obtain⟨_,_,_,h⟩:=bE h;obtain⟨e,_⟩:=gU h;injection e with e1 e2;subst e1;exact e2
 have fin: ∀{m':RecT} {g:Bool} {b r:List UInt8},pr (m',g) b=some ((m,true),r)→m'.row= .zero→gK m.row=true:=λh e=>by
  obtain⟨e',_⟩:=gU h;injection e' with e1 e2;subst e1;rw[e];exact An
 split at h
 · obtain⟨_,_,_,h⟩:=bE h;exact fin h rfl
 split at h
 · obtain⟨_,_,_,h⟩:=bE h;obtain⟨_,_,_,h⟩:=bE h;exact fin h rfl
 split at h
 · obtain⟨_,_,_,h⟩:=bE h;obtain⟨_,_,_,h⟩:=bE h;obtain⟨_,_,_,h⟩:=bE h;exact fin h rfl
 split at h
 · obtain⟨_,_,_,h⟩:=bE h;exact fin h rfl
 · exact fin h rfl
theorem Hb(bs:List UInt8):(∃m,mV bs=(m,0)∧bs=jB m∧gK m.row=true∧WF m.row.flat)∨mV bs=(.zero,1):=by
 unfold mV;split
 · rename_i m h
   obtain⟨h1,_,_,_,h5⟩:=Gl h;rw[aM]at h1;exact .inl ⟨m,rfl,h1,HY h,h5.wf⟩
 · exact .inr rfl
open Dsk Wal
structure RcOk(m:RecT):Prop where
 dec:mV (jB m)=(m,0)
 wf:WF m.row.flat
 kind:m.kind≠3∧m.kind≠4
end Api
end

section
namespace Go.Proofs.YtjblgopghhgflaaGreat
open Go Leg Codec Api
theorem ve(ob:Nat)(ok:Bool):DoesD Tryz.prog 120 #[(.pointer (some ⟨ob,0,none⟩))] (.returning) (λ_=>True) [aj ob [(.bool (ok))] 4] (λe u' H=>e= .returned (.tuple #[])∧settle u'= .returning∧H=[aj ob [.bool ok] 4]):=by
 refine DoesD.recover2 (vs:=[(.pointer (some ⟨ob,0,none⟩))]) (n:=15) (u':= .returning) (rv:= .nilIface) Tryz.func120 rfl rfl rfl rfl rfl rfl rfl rfl rfl rfl rfl (λc0 cs hu=>by cases c0;simp only at hu;subst hu;rfl) (λw0 F c0 cs hF=>?_);refine aa (λK1 hK1=>?_);refine aa (λK2 hK2=>?_);refine af ?_;refine li (ab rfl) rfl rfl (jt rfl rfl) ?_;refine li (ab rfl) rfl rfl (PV.nilNil rfl Tryz.underlying20 rfl) ?_;refine au ?_;refine ac hK2 ?_;clear hK2;refine mC rfl ?_;refine ai ?_;refine ae ?_;clear hK1;refine aE (dE _) (λ_ s=>ak [0] rfl s) ?_;refine TE.retS0 rfl ?_;refine⟨rfl,rfl,?_⟩;rfl
theorem yM(ob:Nat)(ok:Bool):DoesD Tryz.prog 120 #[(.pointer (some ⟨ob,0,none⟩))] (.panicking gX) (λ_=>True) [aj ob [(.bool (ok))] 4] (λe u' H=>e= .returned (.tuple #[])∧settle u'= .returning∧H=[aj ob [.bool false] 4]):=by
 refine DoesD.recover2 (vs:=[(.pointer (some ⟨ob,0,none⟩))]) (n:=15) (u':= .panicking [{v:=(.iface 199 (.agg #[])),recovered:=true}]) (rv:=(.iface 199 (.agg #[]))) Tryz.func120 rfl rfl rfl rfl rfl rfl rfl rfl rfl rfl rfl (λc0 cs hu=>by cases c0;simp only at hu;subst hu;rfl) (λw0 F c0 cs hF=>?_);refine aa (λK1 hK1=>?_);refine aa (λK2 hK2=>?_);refine af ?_;refine li (ab rfl) rfl rfl (jt rfl rfl) ?_;refine li (ab rfl) rfl rfl (PV.ifaceNil rfl Tryz.underlying20 rfl) ?_;refine au ?_;refine ac hK2 ?_;clear hK2;refine Ea rfl ?_;refine aQ ?_;refine ac hK1 ?_;clear hK1;refine aa (λK3 hK3=>?_);refine aa (λK4 hK4=>?_);refine af ?_;refine li (ab rfl) rfl rfl (jt rfl rfl) ?_;refine li (ab rfl) rfl rfl (PV.assert rfl FL rfl rfl) ?_;refine li (ab rfl) rfl rfl (jt rfl rfl) ?_;refine li (ab rfl) rfl rfl (lp (vs:=[.agg #[], .bool true]) rfl rfl rfl) ?_;refine li (ab rfl) rfl rfl (lp (vs:=[.agg #[], .bool true]) rfl rfl rfl) ?_;refine pA (ab rfl) rfl rfl rfl Mc (λb2=>?_);change TL _ _ _ _ _ _ _ _ _ [aj b2 [] 199,aj ob [(.bool (ok))] 4];refine ck (vs:=[]) (i:=0) (H':=[aj b2 [] 199,aj ob [(.bool (ok))] 4]) (ab rfl) rfl rfl rfl rfl rfl Ke (by simp[Value.oneCell']) rfl rfl (Ie rfl) rfl rfl ?_;refine li (ab rfl) rfl rfl (MY rfl rfl) ?_;refine au ?_;refine ac hK4 ?_;clear hK4;refine aa (λK5 hK5=>?_);refine af ?_;refine li (ab rfl) rfl rfl (jt rfl rfl) ?_;refine li (ab rfl) rfl rfl (ln (r:=false) rfl rfl rfl) ?_;refine au ?_
 refine ac hK5 ?_;clear hK5;refine Ea rfl ?_;refine aQ ?_;refine ac hK3 ?_;clear hK3;refine af ?_;refine bT (i:=1) (H':=[aj b2 [] 199,aj ob [(.bool false)] 4]) (ab rfl) rfl rfl rfl rfl rfl kp rfl rfl (lb rfl) rfl rfl ?_;refine au ?_;refine aE (dE _) (λ_ s=>ak [1] rfl s) ?_;refine TE.endS0 rfl ?_;refine⟨rfl,rfl,?_⟩;exact rfl
theorem EP{fid:Nat}{caps:List Value}{x:Value}{bs:List UInt8}{C G:HP}{A:List UInt8→HP}{R:Hl→Prop}(hR: ∀F,R F→IsB x bs F)(hmono: ∀F g,R F→Dj g F→R (jn g F))(hN:Named Tryz.prog fid)
 (hc: ∀rb,DT fid ([Value.pointer (some ⟨rb,0,none⟩)]++caps).toArray R [aj rb [x] 197,C] (tP (λ_ H=>∃x' r,H=[aj rb [x'] 197,A r]∧Tail x bs x' r) (λc H=>c=gX∧∃x',H=[aj rb [x'] 197,G]))):
 DT 81 #[x, .func (.func fid) #[] caps.toArray] R [C] (dw (λv H=>(∃r,v= .bool (decide (r=[]))∧H=[A r])∨(v= .bool false∧H=[G]))):=by
 refine Leg.Does.bodyD (vs:=[x, .func (.func fid) #[] caps.toArray]) (n:=21) Tryz.func81 rfl rfl rfl (λw0 F hF=>sr λ_ J1=>XA z4 λb4=>?_);refine nx J1 (sr λ_ J2=>PS ?_);refine tp (PV.buildOne rfl zu Md rfl mR rfl (hR _ hF).one) ?_;refine XB λb8=>?_
 refine PS ?_;refine nx J2 (sr λ_ J3=>tp (MW rfl rfl) ?_);refine TL.deferFn (ab rfl) rfl rfl rfl (nx J3 (aa λ_ J4=>sr λ_ J5=>PS ?_));refine tp (PV.funcNeqNil rfl Tryz.underlying141 rfl) ?_;refine nx J5 (CY (af (P2 ?_)));refine TL.callPv (ab rfl) rfl rfl rfl rfl hN rfl (hc b8) (λ_ s=>az [0,1] rfl s) (JM hmono hF) (λcP HP hP=>?_) (λvR HR hR'=>?_);obtain⟨rfl,x',rfl⟩:=hP;refine aw ?_;intro a w fr sm m;refine qy (b:=b4) (e:=4) (A:=[aj b4 [(.bool false)] 4]) (B:=[aj b8 [x'] 197,G]) (H':=[G]) fr sm m (by simp) GK (yM b4 _) (λ_ s=>az [2] rfl s) (λ_ _ _=>trivial) rfl rfl Y4 rfl (λH1 h1=>?_);subst h1;refine⟨[.bool false], .bool false,eR 0 rfl rfl,rfl,λ_ s=>ak [2] rfl s,?_⟩;exact .inr ⟨rfl,rfl⟩;obtain⟨x',r,rfl,htl⟩:=hR';have hB:=htl F (hR _ hF);rcases hB with⟨rfl,rfl⟩| ⟨b,off,cap,cs,T,z,rfl,hB1,hB2,hB3,hB4⟩
 refine nx J4 (sr λ_ J6=>P2 ?_);refine FA 0 zu mR ?_;refine LA 0 gk ?_;refine tp (rX rfl gk rfl) ?_;refine PS ?_;refine S0 2 kp ?_;refine nx J6 (ai ?_);intro a w fr sm m;refine qy (b:=b4) (e:=4) (A:=[aj b4 [(.bool true)] 4]) (B:=[aj b8 [(.slice none 0 0)] 197,(A [])]) (H':=[(A [])]) fr sm m (by simp) GK (ve b4 _) (λ_ s=>az [2] rfl s) (λ_ _ _=>trivial) rfl rfl Y4 rfl (λH1 h1=>?_);subst h1;refine⟨[.bool true], .bool true,eR 0 rfl rfl,rfl,λ_ s=>ak [2] rfl s,?_⟩;exact .inl ⟨[],rfl,rfl⟩;refine nx J4 (sr λ_ J7=>P2 ?_);refine FA 0 zu mR ?_;refine LA 0 gk ?_;refine tp (rX rfl gk rfl) ?_;refine PS ?_;refine S0 2 kp ?_;refine nx J7 (ai ?_);intro a w fr sm m;refine qy (b:=b4) (e:=4) (A:=[aj b4 [(.bool (decide (((r.length:Nat):Int)=0)))] 4]) (B:=[aj b8 [(.slice (some ⟨b,off,none⟩) (r.length) (cap))] 197,(A r)]) (H':=[(A r)]) fr sm m (by simp) GK (ve b4 _) (λ_ s=>az [2] rfl s) (λ_ _ _=>trivial) rfl rfl Y4 rfl (λH1 h1=>?_);subst h1;refine⟨[.bool (decide (((r.length:Nat):Int)=0))], .bool (decide (((r.length:Nat):Int)=0)),eR 0 rfl rfl,rfl,λ_ s=>ak [2] rfl s,?_⟩;exact .inl ⟨r,by congr 1;rw[decide_eq_decide];cases r<;>simp<;>omega,rfl⟩
theorem xy{fid:Nat}{caps:List Value}{x:Value}{bs:List UInt8}{α β:Type}{C:List HP}{A:α→List HP}{G:β→List HP}{φ:α→List UInt8→Prop}{ψ:β→Prop}{R:Hl→Prop}(hR: ∀F,R F→IsB x bs F)(hmono: ∀F g,R F→Dj g F→R (jn g F))(hN:Named Tryz.prog fid)
 (hc: ∀rb,DT fid ([Value.pointer (some ⟨rb,0,none⟩)]++caps).toArray R (aj rb [x] 197::C) (tP (λ_ H=>∃x' r a,H=aj rb [x'] 197::A a∧Tail x bs x' r∧φ a r) (λc H=>c=gX∧∃x' b,H=aj rb [x'] 197::G b∧ψ b))):
 DT 81 #[x, .func (.func fid) #[] caps.toArray] R C (dw (λv H=>(∃r a,v= .bool (decide (r=[]))∧H=A a∧φ a r)∨(∃b,v= .bool false∧H=G b∧ψ b))):=by
 have h1:=EP (C:=all C) (G:=λh=>∃b,ψ b∧bH (G b) h) (A:=λr h=>∃a,φ a r∧bH (A a) h) hR hmono hN λrb=>
  (hc rb).conv (post':=tP (λ_ H=>∃x' r,H=[aj rb [x'] 197,λh=>∃a,φ a r∧bH (A a) h]∧Tail x bs x' r) (λc H=>c=gX∧∃x',H=[aj rb [x'] 197,λh=>∃b,ψ b∧bH (G b) h]))
   (λh s=>uS s λ_=>Iw)
   (λe H F w hp m=>by
    cases e with
    |returned v=>
     obtain⟨x',r,a,rfl,ht,hf⟩:=hp;exact⟨[aj rb [x'] 197,λh=>∃a,φ a r∧bH (A a) h],m.mono λh s=>uS s λh s=>qj ⟨a,hf,s⟩,x',r,rfl,ht⟩
    |panicked c=>
     obtain⟨hc,x',b,rfl,hf⟩:=hp;exact⟨[aj rb [x'] 197,λh=>∃b,ψ b∧bH (G b) h],m.mono λh s=>uS s λh s=>qj ⟨b,hf,s⟩,hc,x',rfl⟩
    |outgrown=>exact hp.elim)
 refine h1.conv (λh s=>HT s) λe H F w hp m=>?_
 cases e with
 |returned v=>
  rcases hp with⟨r,hv,rfl⟩| ⟨hv,rfl⟩
  · obtain⟨h,d,e,g1,g2,d',rfl,⟨a,hf,s⟩,_⟩:=m
    exact⟨A a,⟨_,d,e,kT _ s d'⟩, .inl ⟨r,a,hv,rfl,hf⟩⟩
  · obtain⟨h,d,e,g1,g2,d',rfl,⟨b,hf,s⟩,_⟩:=m
    exact⟨G b,⟨_,d,e,kT _ s d'⟩, .inr ⟨b,hv,rfl,hf⟩⟩
 |panicked c=>exact hp.elim
 |outgrown=>exact hp.elim
theorem yL(rb:Nat)(v:Value)(bs:List UInt8):
 DT 142 #[(.pointer (some ⟨rb,0,none⟩))] (IsB v bs) [aj rb [v] 197] (mX 197 gX (λmb:MsgT×Bool=> .tuple #[.agg (ints mb.1.flat).toArray, .bool mb.2]) cL v bs rb):=by
 refine BD 85 Tryz.func142 rfl rfl rfl λw0 F hF=>sr λ_ J1=>XZ lN (ints MsgT.zero.flat) λb2=>?_
 refine PS ?_;refine nx J1 (sr λ_ J2=>PS ?_);refine CP iL (cK rb v bs (10)) (SM [1]) (λ_ d _=>(hF).more d) (λcP HP hP=>?_) (λvR HR hR=>?_);obtain⟨vP,rfl,rfl,hpP⟩:=hP;refine aw (WK [0] (aR ?_));exact⟨_,rfl,rfl,by simp[cL,bO hpP, *]⟩;obtain⟨a1,r1,v1,rfl,rfl,hp1,ht1⟩:=hR;have hf1:=ht1 _ hF;refine tp (kw MsgT.zero (MsgT.mk a1 0 RowT.zero 0 0 BallotT.zero BallotT.zero ChangeT.zero ViewT.zero) [(0,[Value.int .i64 a1])] a8 bl (g:=MsgT.sg)) ?_;refine XZ lN (ints MsgT.zero.flat) λb4=>?_
 refine SW 0 bX aG ?_;refine nx J2 (aa λ_ J3=>sr λ_ J4=>FA 0 a8 aO ?_);refine LT 0 Y3 (.int .i64 (a1)) ?_ (hc:=by exact eG _ rfl);refine nx J4 (ap (aa λ_ J5=>eJ (α:=Unit) (λ_u=>True) (λ_u=>[(0,(.pointer (some ⟨rb,0,none⟩))),(2,(.pointer (some ⟨b2,0,none⟩))),(3,(.bool false)),(4,(.pointer (some ⟨b4,0,none⟩))),(9,(.int .i64 (a1))),(10,(.bool ((eY a1))))]) (λ_u=>[aj b4 (ints (MsgT.mk a1 0 RowT.zero 0 0 BallotT.zero BallotT.zero ChangeT.zero ViewT.zero).flat) 178,aj rb [v1] 197,aj b2 (ints MsgT.zero.flat) 178]) (λ_u hinv=>?_) (λtl5=>?_)));have _:=hinv;refine ac J5 (TC.cond rfl (λh10=>?_) (λh10=>?_));refine sr λ_ J6=>PS ?_
 refine CP iL (cK rb v1 r1 (5)) (SM [1]) (λ_ d _=>(hf1).more d) (λcP HP hP=>?_) (λvR HR hR=>?_);obtain⟨vP,rfl,rfl,hpP⟩:=hP;refine aw (aL (aw (WK [0] (aR ?_))));exact⟨_,rfl,rfl,by simp[cL,aD hp1,bO hpP,h10, *]⟩;obtain⟨a2,r2,v2,rfl,rfl,hp2,ht2⟩:=hR;have hf2:=ht2 _ hf1;refine FA 1 a8 aO ?_;refine SS 1 aO (aG _) (MsgT.set_whose _ rfl _) ?_;refine nx J6 (sr λ_ J7=>PS ?_);refine CP GJ (sz rb v2 r2) ID (λ_ d _=>(hf2).more d) (λcP HP hP=>?_) (λvR HR hR=>?_);obtain⟨vP,rfl,rfl,hpP⟩:=hP;refine aw (aL (aw (WK [0] (aR ?_))));exact⟨_,rfl,rfl,by simp[cL,aD hp1,aD hp2,bO hpP,h10, *]⟩;obtain⟨a3,r3,v3,rfl,rfl,hp3,ht3⟩:=hR;have hf3:=ht3 _ hf2;refine FA 2 a8 ba ?_;refine SP 1 ba ah aG MsgT.wp_row ?_;refine nx J7 (aa λ_ J8=>D1 1 bf ?_);refine LY 0 a8 bX aG ?_;refine FD 1 2 a8 ba ?_;refine ta 2 rfl (aK (vs:=ints a3.flat) rfl dS rfl ba rfl (λ_ h=>h.2.1) (ah a3) (lF (MsgT.mk a1 a2 a3 0 0 BallotT.zero BallotT.zero ChangeT.zero ViewT.zero) 0 rfl (by decide) (bk (ah a3)))) ?_;refine AL 3 ?_;refine CE Gy (jw a3 (yF hp3)) ID ?_;refine EN (AL 4 ?_);refine SW 2 bX aG ?_;refine EN (PD 5 ?_);refine DN (ac J8 (ai (aH (ae (RT 2 [0] a8 bX (aG _) ?_)))));exact⟨((MsgT.mk a1 a2 a3 0 0 BallotT.zero BallotT.zero ChangeT.zero ViewT.zero),(gK a3)),_,_,rfl,rfl,by simp[cL,pr,aD hp1,aD hp2,aD hp3,h10,MsgT.zero,RecT.zero, *],(ht1.trans (ht2.trans ht3))⟩;refine sr λ_ J9=>PS ?_
 refine am ?_ ?_<;>intro h25;refine PS ?_;refine nx J9 (CY (af (PS ?_)));refine CP pa (iJ rb v1 r1) (SM [1]) (λ_ d _=>(hf1).more d) (λcP HP hP=>?_) (λvR HR hR=>?_);obtain⟨vP,rfl,rfl,hpP⟩:=hP;refine aL (aw (WK [0] (aR ?_)));exact⟨_,rfl,rfl,by simp[cL,eY,e9,aD hp1,bO hpP,h10,h25, *]⟩;obtain⟨a2,r2,v2,rfl,rfl,hp2,ht2⟩:=hR;have hf2:=ht2 _ hf1;refine FA 176 a8 aO ?_;refine SS 1 aO (aG _) (MsgT.set_version _ rfl _) ?_;refine au (ag (ac J3 (sr λ_ J10=>LW 1 a8 bX aG ?_)));refine SW 2 bX aG ?_;refine PS ?_;refine nx J10 (ai (RT 2 [0] a8 bX (aG _) ?_));exact⟨((MsgT.mk a1 0 RowT.zero a2 0 BallotT.zero BallotT.zero ChangeT.zero ViewT.zero),true),_,_,rfl,rfl,by simp[cL,eY,e9,pr,aD hp1,aD hp2,h10,h25,MsgT.zero,RecT.zero, *],(ht1.trans ht2)⟩;refine PS ?_;refine nx J9 (CN (aa λ_ J11=>eJ (α:=Unit) (λ_u=>True) (λ_u=>[(0,(.pointer (some ⟨rb,0,none⟩))),(2,(.pointer (some ⟨b2,0,none⟩))),(3,(.bool false)),(4,(.pointer (some ⟨b4,0,none⟩))),(9,(.int .i64 (a1))),(29,(.bool ((e9 a1))))]) (λ_u=>[aj b4 (ints (MsgT.mk a1 0 RowT.zero 0 0 BallotT.zero BallotT.zero ChangeT.zero ViewT.zero).flat) 178,aj rb [v1] 197,aj b2 (ints MsgT.zero.flat) 178]) (λ_u hinv=>?_) (λtl11=>?_)));have _:=hinv;refine ac J11 (TC.cond rfl (λh29=>?_) (λh29=>?_));refine sr λ_ J12=>PS ?_
 refine CP pa (iJ rb v1 r1) (SM [1]) (λ_ d _=>(hf1).more d) (λcP HP hP=>?_) (λvR HR hR=>?_);obtain⟨vP,rfl,rfl,hpP⟩:=hP;refine aw (aL (aw (WK [0] (aR ?_))));exact⟨_,rfl,rfl,by simp[cL,aD hp1,bO hpP,h10,h25,h29, *]⟩;obtain⟨a2,r2,v2,rfl,rfl,hp2,ht2⟩:=hR;have hf2:=ht2 _ hf1;refine FA 177 a8 aO ?_;refine SS 1 aO (aG _) (LN _ rfl _) ?_;refine nx J12 (af (PS ?_));refine CP xG (ja rb v2 r2) ID (λ_ d _=>(hf2).more d) (λcP HP hP=>?_) (λvR HR hR=>?_);obtain⟨vP,rfl,rfl,hpP⟩:=hP;refine aL (aw (WK [0] (aR ?_)));exact⟨_,rfl,rfl,by simp[cL,aD hp1,aD hp2,bO hpP,h10,h25,h29, *]⟩;obtain⟨a3,r3,v3,rfl,rfl,hp3,ht3⟩:=hR;have hf3:=ht3 _ hf2;refine FA 178 a8 cv ?_;refine SP 1 cv an aG LM ?_;refine au (ag (ac J3 (sr λ_ J13=>LW 1 a8 bX aG ?_)));refine SW 2 bX aG ?_;refine PS ?_;refine nx J13 (ai (RT 2 [0] a8 bX (aG _) ?_));exact⟨((MsgT.mk a1 0 RowT.zero 0 a2 a3 BallotT.zero ChangeT.zero ViewT.zero),true),_,_,rfl,rfl,by simp[cL,pr,aD hp1,aD hp2,aD hp3,h10,h25,h29,MsgT.zero,RecT.zero, *],(ht1.trans (ht2.trans ht3))⟩;refine sr λ_ J14=>PS ?_
 refine am ?_ ?_<;>intro h39;refine PS ?_;refine nx J14 (CY (sr λ_ J15=>PS ?_));refine CP pa (iJ rb v1 r1) (SM [1]) (λ_ d _=>(hf1).more d) (λcP HP hP=>?_) (λvR HR hR=>?_);obtain⟨vP,rfl,rfl,hpP⟩:=hP;refine aw (aL (aw (WK [0] (aR ?_))));exact⟨_,rfl,rfl,by simp[cL,eY,e9,aD hp1,bO hpP,h10,h25,h29,h39, *]⟩;obtain⟨a2,r2,v2,rfl,rfl,hp2,ht2⟩:=hR;have hf2:=ht2 _ hf1;refine FA 177 a8 aO ?_;refine SS 1 aO (aG _) (LN _ rfl _) ?_;refine nx J15 (sr λ_ J16=>PS ?_);refine CP xG (ja rb v2 r2) ID (λ_ d _=>(hf2).more d) (λcP HP hP=>?_) (λvR HR hR=>?_);obtain⟨vP,rfl,rfl,hpP⟩:=hP;refine aw (aL (aw (WK [0] (aR ?_))));exact⟨_,rfl,rfl,by simp[cL,eY,e9,aD hp1,aD hp2,bO hpP,h10,h25,h29,h39, *]⟩;obtain⟨a3,r3,v3,rfl,rfl,hp3,ht3⟩:=hR;have hf3:=ht3 _ hf2;refine FA 178 a8 cv ?_;refine SP 1 cv an aG LM ?_;refine nx J16 (sr λ_ J17=>PS ?_);refine CP xG (ja rb v3 r3) ID (λ_ d _=>(hf3).more d) (λcP HP hP=>?_) (λvR HR hR=>?_);obtain⟨vP,rfl,rfl,hpP⟩:=hP;refine aw (aL (aw (WK [0] (aR ?_))));exact⟨_,rfl,rfl,by simp[cL,eY,e9,aD hp1,aD hp2,aD hp3,bO hpP,h10,h25,h29,h39, *]⟩;obtain⟨a4,r4,v4,rfl,rfl,hp4,ht4⟩:=hR;have hf4:=ht4 _ hf3;refine FA 180 a8 cv ?_;refine SP 1 cv an aG MsgT.wp_had ?_;refine nx J17 (af (PS ?_));refine CP GI (nT rb v4 r4) ID (λ_ d _=>(hf4).more d) (λcP HP hP=>?_) (λvR HR hR=>?_);obtain⟨vP,rfl,rfl,hpP⟩:=hP
 refine aL (aw (WK [0] (aR ?_)));exact⟨_,rfl,rfl,by simp[cL,eY,e9,aD hp1,aD hp2,aD hp3,aD hp4,bO hpP,h10,h25,h29,h39, *]⟩;obtain⟨a5,r5,v5,rfl,rfl,hp5,ht5⟩:=hR;have hf5:=ht5 _ hf4;refine FA 182 a8 fl ?_;refine SP 1 fl aI aG LL ?_;refine au (ag (ac J3 (sr λ_ J18=>LW 1 a8 bX aG ?_)));refine SW 2 bX aG ?_;refine PS ?_;refine nx J18 (ai (RT 2 [0] a8 bX (aG _) ?_));exact⟨((MsgT.mk a1 0 RowT.zero 0 a2 a3 a4 a5 ViewT.zero),true),_,_,rfl,rfl,by simp[cL,eY,e9,pr,aD hp1,aD hp2,aD hp3,aD hp4,aD hp5,h10,h25,h29,h39,MsgT.zero,RecT.zero, *],(ht1.trans (ht2.trans (ht3.trans (ht4.trans ht5))))⟩;refine PS ?_;refine nx J14 (CN (sr λ_ J19=>PS ?_));refine am ?_ ?_<;>intro h53;refine PS ?_;refine nx J19 (CY (sr λ_ J20=>PS ?_));refine CP pa (iJ rb v1 r1) (SM [1]) (λ_ d _=>(hf1).more d) (λcP HP hP=>?_) (λvR HR hR=>?_);obtain⟨vP,rfl,rfl,hpP⟩:=hP;refine aw (aL (aw (WK [0] (aR ?_))));exact⟨_,rfl,rfl,by simp[cL,eY,e9,aD hp1,bO hpP,h10,h25,h29,h39,h53, *]⟩;obtain⟨a2,r2,v2,rfl,rfl,hp2,ht2⟩:=hR;have hf2:=ht2 _ hf1;refine FA 177 a8 aO ?_;refine SS 1 aO (aG _) (LN _ rfl _) ?_;refine nx J20 (sr λ_ J21=>PS ?_);refine CP xG (ja rb v2 r2) ID (λ_ d _=>(hf2).more d) (λcP HP hP=>?_) (λvR HR hR=>?_);obtain⟨vP,rfl,rfl,hpP⟩:=hP;refine aw (aL (aw (WK [0] (aR ?_))));exact⟨_,rfl,rfl,by simp[cL,eY,e9,aD hp1,aD hp2,bO hpP,h10,h25,h29,h39,h53, *]⟩
 obtain⟨a3,r3,v3,rfl,rfl,hp3,ht3⟩:=hR;have hf3:=ht3 _ hf2;refine FA 178 a8 cv ?_;refine SP 1 cv an aG LM ?_;refine nx J21 (af (PS ?_));refine CP GI (nT rb v3 r3) ID (λ_ d _=>(hf3).more d) (λcP HP hP=>?_) (λvR HR hR=>?_);obtain⟨vP,rfl,rfl,hpP⟩:=hP;refine aL (aw (WK [0] (aR ?_)));exact⟨_,rfl,rfl,by simp[cL,eY,e9,aD hp1,aD hp2,aD hp3,bO hpP,h10,h25,h29,h39,h53, *]⟩;obtain⟨a4,r4,v4,rfl,rfl,hp4,ht4⟩:=hR;have hf4:=ht4 _ hf3;refine FA 182 a8 fl ?_;refine SP 1 fl aI aG LL ?_;refine au (ag (ac J3 (sr λ_ J22=>LW 1 a8 bX aG ?_)));refine SW 2 bX aG ?_;refine PS ?_;refine nx J22 (ai (RT 2 [0] a8 bX (aG _) ?_));exact⟨((MsgT.mk a1 0 RowT.zero 0 a2 a3 BallotT.zero a4 ViewT.zero),true),_,_,rfl,rfl,by simp[cL,eY,e9,pr,aD hp1,aD hp2,aD hp3,aD hp4,h10,h25,h29,h39,h53,MsgT.zero,RecT.zero, *],(ht1.trans (ht2.trans (ht3.trans ht4)))⟩;refine PS ?_;refine nx J19 (CN (sr λ_ J23=>PS ?_));refine am ?_ ?_<;>intro h64;refine PS ?_;refine nx J23 (CY (sr λ_ J24=>PS ?_));refine CP GH (qk rb v1 r1) (SM [1]) (λ_ d _=>(hf1).more d) (λcP HP hP=>?_) (λvR HR hR=>?_);obtain⟨vP,rfl,rfl,hpP⟩:=hP;refine aw (aL (aw (WK [0] (aR ?_))));exact⟨_,rfl,rfl,by simp[cL,eY,e9,aD hp1,bO hpP,h10,h25,h29,h39,h53,h64, *]⟩;obtain⟨a2,r2,v2,rfl,rfl,hp2,ht2⟩:=hR;have hf2:=ht2 _ hf1;refine FA 185 a8 be ?_;refine SP 1 be ao aG MsgT.wp_view ?_;refine nx J24 (aa λ_ J25=>D1 1 bf ?_)
 refine LY 0 a8 bX aG ?_;refine FD 1 185 a8 be ?_;refine ta 2 rfl (aK (vs:=ints a2.flat) rfl eL rfl be rfl (λ_ h=>h.2.1) (ao a2) (tS (MsgT.mk a1 0 RowT.zero 0 0 BallotT.zero BallotT.zero ChangeT.zero a2) 0 rfl (by decide) (bk (ao a2)))) ?_;refine AL 3 ?_;refine CE H9 (j8 a2 (q7 hp2)) ID ?_;refine EN (AL 4 ?_);refine SW 2 bX aG ?_;refine EN (PD 5 ?_);refine DN (ac J25 (ai (aH (ae (RT 2 [0] a8 bX (aG _) ?_)))));exact⟨((MsgT.mk a1 0 RowT.zero 0 0 BallotT.zero BallotT.zero ChangeT.zero a2),(kd a2)),_,_,rfl,rfl,by simp[cL,eY,e9,pr,aD hp1,aD hp2,h10,h25,h29,h39,h53,h64,MsgT.zero,RecT.zero, *],(ht1.trans ht2)⟩;refine PS ?_;refine nx J23 (CN (sr λ_ J26=>PS ?_));refine am ?_ ?_<;>intro h73;refine PS ?_;refine nx J26 (CY (sr λ_ J27=>PS ?_));refine CP iL (cK rb v1 r1 (5)) (SM [1]) (λ_ d _=>(hf1).more d) (λcP HP hP=>?_) (λvR HR hR=>?_);obtain⟨vP,rfl,rfl,hpP⟩:=hP;refine aw (aL (aw (WK [0] (aR ?_))));exact⟨_,rfl,rfl,by simp[cL,eY,e9,aD hp1,bO hpP,h10,h25,h29,h39,h53,h64,h73, *]⟩;obtain⟨a2,r2,v2,rfl,rfl,hp2,ht2⟩:=hR;have hf2:=ht2 _ hf1;refine FA 1 a8 aO ?_;refine SS 1 aO (aG _) (MsgT.set_whose _ rfl _) ?_;refine nx J27 (sr λ_ J28=>PS ?_);refine CP GH (qk rb v2 r2) ID (λ_ d _=>(hf2).more d) (λcP HP hP=>?_) (λvR HR hR=>?_);obtain⟨vP,rfl,rfl,hpP⟩:=hP;refine aw (aL (aw (WK [0] (aR ?_))))
 exact⟨_,rfl,rfl,by simp[cL,eY,e9,aD hp1,aD hp2,bO hpP,h10,h25,h29,h39,h53,h64,h73, *]⟩;obtain⟨a3,r3,v3,rfl,rfl,hp3,ht3⟩:=hR;have hf3:=ht3 _ hf2;refine FA 185 a8 be ?_;refine SP 1 be ao aG MsgT.wp_view ?_;refine nx J28 (aa λ_ J29=>D1 1 bf ?_);refine LY 0 a8 bX aG ?_;refine FD 1 185 a8 be ?_;refine ta 2 rfl (aK (vs:=ints a3.flat) rfl eL rfl be rfl (λ_ h=>h.2.1) (ao a3) (tS (MsgT.mk a1 a2 RowT.zero 0 0 BallotT.zero BallotT.zero ChangeT.zero a3) 0 rfl (by decide) (bk (ao a3)))) ?_;refine AL 3 ?_;refine CE H9 (j8 a3 (q7 hp3)) ID ?_;refine EN (AL 4 ?_);refine SW 2 bX aG ?_;refine EN (PD 5 ?_);refine DN (ac J29 (ai (aH (ae (RT 2 [0] a8 bX (aG _) ?_)))));exact⟨((MsgT.mk a1 a2 RowT.zero 0 0 BallotT.zero BallotT.zero ChangeT.zero a3),(kd a3)),_,_,rfl,rfl,by simp[cL,eY,e9,pr,aD hp1,aD hp2,aD hp3,h10,h25,h29,h39,h53,h64,h73,MsgT.zero,RecT.zero, *],(ht1.trans (ht2.trans ht3))⟩;refine PS ?_;refine nx J26 (CN (aQ (ag (ac J3 (sr λ_ J30=>LW 0 a8 bX aG ?_)))));refine SW 2 bX aG ?_;refine PS ?_;refine nx J30 (ai (RT 2 [1] a8 bX (aG _) ?_));exact⟨((MsgT.mk a1 0 RowT.zero 0 0 BallotT.zero BallotT.zero ChangeT.zero ViewT.zero),true),_,_,rfl,rfl,by simp[cL,pr,aD hp1,h10,h25,h29,h39,h53,h64,h73,MsgT.zero,RecT.zero, *],ht1⟩;refine sr λ_ J31=>P2 ?_
 refine am ?_ ?_<;>intro h29;refine nx J31 (CY (aQ ?_))
 exact aE
  (aS (aS (aS (aS (aS (bC rfl (by simp[e9, *]) SB))))))
  (λ_ s=>s)
  (tl11 (():Unit) trivial)
 refine nx J31 (CN (af (PS ?_)));refine am ?_ ?_<;>intro h31;refine PS ?_;refine au ?_
 exact aE
  (aS (aS (aS (aS (aS (bC rfl (by simp[e9, *]) SB))))))
  (λ_ s=>s)
  (tl11 (():Unit) trivial)
 refine PS ?_;refine au ?_
 exact aE
  (aS (aS (aS (aS (aS (bC rfl (by simp[e9, *]) SB))))))
  (λ_ s=>s)
  (tl11 (():Unit) trivial)
 refine sr λ_ J32=>P2 ?_
 refine am ?_ ?_<;>intro h10;refine nx J32 (CY (aQ ?_))
 exact aE
  (aS (aS (aS (aS (aS (bC rfl (by simp[eY, *]) SB))))))
  (λ_ s=>s)
  (tl5 (():Unit) trivial)
 refine nx J32 (CN (sr λ_ J33=>P2 ?_));refine am ?_ ?_<;>intro h10;refine nx J33 (CY (aQ ?_))
 exact aE
  (aS (aS (aS (aS (aS (bC rfl (by simp[eY, *]) SB))))))
  (λ_ s=>s)
  (tl5 (():Unit) trivial)
 refine nx J33 (CN (af (PS ?_)));refine am ?_ ?_<;>intro h13;refine PS ?_;refine au ?_
 exact aE
  (aS (aS (aS (aS (aS (bC rfl (by simp[eY, *]) SB))))))
  (λ_ s=>s)
  (tl5 (():Unit) trivial)
 refine PS ?_;refine au ?_
 exact aE
  (aS (aS (aS (aS (aS (bC rfl (by simp[eY, *]) SB))))))
  (λ_ s=>s)
  (tl5 (():Unit) trivial)
theorem yK(rb:Nat)(v:Value)(bs:List UInt8):
 DT 83 #[(.pointer (some ⟨rb,0,none⟩))] (IsB v bs) [aj rb [v] 197] (mX 197 gX (λmb:RecT×Bool=> .tuple #[.agg (ints mb.1.flat).toArray, .bool mb.2]) df v bs rb):=by
 refine BD 65 Tryz.func83 rfl rfl rfl λw0 F hF=>sr λ_ J1=>XZ JW (ints RecT.zero.flat) λb2=>?_
 refine PS ?_;refine nx J1 (sr λ_ J2=>PS ?_);refine CP iL (cK rb v bs (6)) (SM [1]) (λ_ d _=>(hF).more d) (λcP HP hP=>?_) (λvR HR hR=>?_);obtain⟨vP,rfl,rfl,hpP⟩:=hP;refine aw (WK [0] (aR ?_));exact⟨_,rfl,rfl,by simp[df,eY,e9,bO hpP, *]⟩;obtain⟨a1,r1,v1,rfl,rfl,hp1,ht1⟩:=hR;have hf1:=ht1 _ hF;refine tp (kw RecT.zero (RecT.mk a1 0 RowT.zero 0 BallotT.zero ChangeT.zero ViewT.zero) [(0,[Value.int .i64 a1])] iy eQ (g:=RecT.sg)) ?_;refine XZ JW (ints RecT.zero.flat) λb4=>?_
 refine SW 0 iE bj ?_;refine nx J2 (aa λ_ J3=>sr λ_ J4=>FA 0 iy aO ?_);refine LT 0 Y3 (.int .i64 (a1)) ?_ (hc:=by exact j0 _ rfl);refine nx J4 (ap (sr λ_ J5=>PS ?_));refine am ?_ ?_<;>intro h11;refine PS ?_;refine nx J5 (CY (sr λ_ J6=>PS ?_));refine CP GJ (sz rb v1 r1) (SM [1]) (λ_ d _=>(hf1).more d) (λcP HP hP=>?_) (λvR HR hR=>?_);obtain⟨vP,rfl,rfl,hpP⟩:=hP;refine aw (aL (aw (WK [0] (aR ?_))));exact⟨_,rfl,rfl,by simp[df,eY,e9,aD hp1,bO hpP,h11, *]⟩;obtain⟨a2,r2,v2,rfl,rfl,hp2,ht2⟩:=hR;have hf2:=ht2 _ hf1;refine FA 2 iy ba ?_;refine SP 1 ba ah bj RecT.wp_row ?_;refine nx J6 (aa λ_ J7=>D1 1 bf ?_);refine LY 0 iy iE bj ?_;refine FD 1 2 iy ba ?_;refine ta 2 rfl (aK (vs:=ints a2.flat) rfl dS rfl ba rfl (λ_ h=>h.2.1) (ah a2) (qO (RecT.mk a1 0 a2 0 BallotT.zero ChangeT.zero ViewT.zero) 0 rfl (by decide) (bk (ah a2)))) ?_;refine AL 3 ?_;refine CE Gy (jw a2 (yF hp2)) ID ?_;refine EN (AL 4 ?_);refine SW 2 iE bj ?_;refine EN (PD 5 ?_);refine DN (ac J7 (ai (aH (ae (RT 2 [0] iy iE (bj _) ?_)))));exact⟨((RecT.mk a1 0 a2 0 BallotT.zero ChangeT.zero ViewT.zero),(gK a2)),_,_,rfl,rfl,by simp[df,eY,e9,pr,aD hp1,aD hp2,h11,MsgT.zero,RecT.zero, *],(ht1.trans ht2)⟩;refine PS ?_;refine nx J5 (CN (sr λ_ J8=>PS ?_));refine am ?_ ?_<;>intro h20;refine PS ?_;refine nx J8 (CY (sr λ_ J9=>PS ?_))
 refine CP iL (cK rb v1 r1 (5)) (SM [1]) (λ_ d _=>(hf1).more d) (λcP HP hP=>?_) (λvR HR hR=>?_);obtain⟨vP,rfl,rfl,hpP⟩:=hP;refine aw (aL (aw (WK [0] (aR ?_))));exact⟨_,rfl,rfl,by simp[df,eY,e9,aD hp1,bO hpP,h11,h20, *]⟩;obtain⟨a2,r2,v2,rfl,rfl,hp2,ht2⟩:=hR;have hf2:=ht2 _ hf1;refine FA 1 iy aO ?_;refine SS 1 aO (bj _) (RecT.set_whose _ rfl _) ?_;refine nx J9 (sr λ_ J10=>PS ?_);refine CP GJ (sz rb v2 r2) ID (λ_ d _=>(hf2).more d) (λcP HP hP=>?_) (λvR HR hR=>?_);obtain⟨vP,rfl,rfl,hpP⟩:=hP;refine aw (aL (aw (WK [0] (aR ?_))));exact⟨_,rfl,rfl,by simp[df,eY,e9,aD hp1,aD hp2,bO hpP,h11,h20, *]⟩;obtain⟨a3,r3,v3,rfl,rfl,hp3,ht3⟩:=hR;have hf3:=ht3 _ hf2;refine FA 2 iy ba ?_;refine SP 1 ba ah bj RecT.wp_row ?_;refine nx J10 (aa λ_ J11=>D1 1 bf ?_);refine LY 0 iy iE bj ?_;refine FD 1 2 iy ba ?_;refine ta 2 rfl (aK (vs:=ints a3.flat) rfl dS rfl ba rfl (λ_ h=>h.2.1) (ah a3) (qO (RecT.mk a1 a2 a3 0 BallotT.zero ChangeT.zero ViewT.zero) 0 rfl (by decide) (bk (ah a3)))) ?_;refine AL 3 ?_;refine CE Gy (jw a3 (yF hp3)) ID ?_;refine EN (AL 4 ?_);refine SW 2 iE bj ?_;refine EN (PD 5 ?_);refine DN (ac J11 (ai (aH (ae (RT 2 [0] iy iE (bj _) ?_)))));exact⟨((RecT.mk a1 a2 a3 0 BallotT.zero ChangeT.zero ViewT.zero),(gK a3)),_,_,rfl,rfl,by simp[df,eY,e9,pr,aD hp1,aD hp2,aD hp3,h11,h20,MsgT.zero,RecT.zero, *],(ht1.trans (ht2.trans ht3))⟩;refine PS ?_
 refine nx J8 (CN (sr λ_ J12=>PS ?_));refine am ?_ ?_<;>intro h32;refine PS ?_;refine nx J12 (CY (af (PS ?_)));refine CP iL (cK rb v1 r1 (5)) (SM [1]) (λ_ d _=>(hf1).more d) (λcP HP hP=>?_) (λvR HR hR=>?_);obtain⟨vP,rfl,rfl,hpP⟩:=hP;refine aL (aw (WK [0] (aR ?_)));exact⟨_,rfl,rfl,by simp[df,eY,e9,aD hp1,bO hpP,h11,h20,h32, *]⟩;obtain⟨a2,r2,v2,rfl,rfl,hp2,ht2⟩:=hR;have hf2:=ht2 _ hf1;refine FA 1 iy aO ?_;refine SS 1 aO (bj _) (RecT.set_whose _ rfl _) ?_;refine au (ag (ac J3 (sr λ_ J13=>LW 1 iy iE bj ?_)));refine SW 2 iE bj ?_;refine PS ?_;refine nx J13 (ai (RT 2 [0] iy iE (bj _) ?_));exact⟨((RecT.mk a1 a2 RowT.zero 0 BallotT.zero ChangeT.zero ViewT.zero),true),_,_,rfl,rfl,by simp[df,eY,e9,pr,aD hp1,aD hp2,h11,h20,h32,MsgT.zero,RecT.zero, *],(ht1.trans ht2)⟩;refine PS ?_;refine nx J12 (CN (sr λ_ J14=>PS ?_));refine am ?_ ?_<;>intro h37;refine PS ?_;refine nx J14 (CY (sr λ_ J15=>PS ?_));refine CP pa (iJ rb v1 r1) (SM [1]) (λ_ d _=>(hf1).more d) (λcP HP hP=>?_) (λvR HR hR=>?_);obtain⟨vP,rfl,rfl,hpP⟩:=hP;refine aw (aL (aw (WK [0] (aR ?_))));exact⟨_,rfl,rfl,by simp[df,eY,e9,aD hp1,bO hpP,h11,h20,h32,h37, *]⟩;obtain⟨a2,r2,v2,rfl,rfl,hp2,ht2⟩:=hR;have hf2:=ht2 _ hf1;refine FA 176 iy aO ?_;refine SS 1 aO (bj _) (RecT.set_epoch _ rfl _) ?_;refine nx J15 (af (PS ?_))
 refine CP xG (ja rb v2 r2) ID (λ_ d _=>(hf2).more d) (λcP HP hP=>?_) (λvR HR hR=>?_);obtain⟨vP,rfl,rfl,hpP⟩:=hP;refine aL (aw (WK [0] (aR ?_)));exact⟨_,rfl,rfl,by simp[df,eY,e9,aD hp1,aD hp2,bO hpP,h11,h20,h32,h37, *]⟩;obtain⟨a3,r3,v3,rfl,rfl,hp3,ht3⟩:=hR;have hf3:=ht3 _ hf2;refine FA 177 iy cv ?_;refine SP 1 cv an bj RecT.wp_ballot ?_;refine au (ag (ac J3 (sr λ_ J16=>LW 1 iy iE bj ?_)));refine SW 2 iE bj ?_;refine PS ?_;refine nx J16 (ai (RT 2 [0] iy iE (bj _) ?_));exact⟨((RecT.mk a1 0 RowT.zero a2 a3 ChangeT.zero ViewT.zero),true),_,_,rfl,rfl,by simp[df,eY,e9,pr,aD hp1,aD hp2,aD hp3,h11,h20,h32,h37,MsgT.zero,RecT.zero, *],(ht1.trans (ht2.trans ht3))⟩;refine PS ?_;refine nx J14 (CN (sr λ_ J17=>PS ?_));refine am ?_ ?_<;>intro h45;refine PS ?_;refine nx J17 (CY (sr λ_ J18=>PS ?_));refine CP pa (iJ rb v1 r1) (SM [1]) (λ_ d _=>(hf1).more d) (λcP HP hP=>?_) (λvR HR hR=>?_);obtain⟨vP,rfl,rfl,hpP⟩:=hP;refine aw (aL (aw (WK [0] (aR ?_))));exact⟨_,rfl,rfl,by simp[df,eY,e9,aD hp1,bO hpP,h11,h20,h32,h37,h45, *]⟩;obtain⟨a2,r2,v2,rfl,rfl,hp2,ht2⟩:=hR;have hf2:=ht2 _ hf1;refine FA 176 iy aO ?_;refine SS 1 aO (bj _) (RecT.set_epoch _ rfl _) ?_;refine nx J18 (sr λ_ J19=>PS ?_);refine CP xG (ja rb v2 r2) ID (λ_ d _=>(hf2).more d) (λcP HP hP=>?_) (λvR HR hR=>?_);obtain⟨vP,rfl,rfl,hpP⟩:=hP;refine aw (aL (aw (WK [0] (aR ?_))))
 exact⟨_,rfl,rfl,by simp[df,eY,e9,aD hp1,aD hp2,bO hpP,h11,h20,h32,h37,h45, *]⟩;obtain⟨a3,r3,v3,rfl,rfl,hp3,ht3⟩:=hR;have hf3:=ht3 _ hf2;refine FA 177 iy cv ?_;refine SP 1 cv an bj RecT.wp_ballot ?_;refine nx J19 (af (PS ?_));refine CP GI (nT rb v3 r3) ID (λ_ d _=>(hf3).more d) (λcP HP hP=>?_) (λvR HR hR=>?_);obtain⟨vP,rfl,rfl,hpP⟩:=hP;refine aL (aw (WK [0] (aR ?_)));exact⟨_,rfl,rfl,by simp[df,eY,e9,aD hp1,aD hp2,aD hp3,bO hpP,h11,h20,h32,h37,h45, *]⟩;obtain⟨a4,r4,v4,rfl,rfl,hp4,ht4⟩:=hR;have hf4:=ht4 _ hf3;refine FA 179 iy fl ?_;refine SP 1 fl aI bj RecT.wp_change ?_;refine au (ag (ac J3 (sr λ_ J20=>LW 1 iy iE bj ?_)));refine SW 2 iE bj ?_;refine PS ?_;refine nx J20 (ai (RT 2 [0] iy iE (bj _) ?_));exact⟨((RecT.mk a1 0 RowT.zero a2 a3 a4 ViewT.zero),true),_,_,rfl,rfl,by simp[df,eY,e9,pr,aD hp1,aD hp2,aD hp3,aD hp4,h11,h20,h32,h37,h45,MsgT.zero,RecT.zero, *],(ht1.trans (ht2.trans (ht3.trans ht4)))⟩;refine PS ?_;refine nx J17 (CN (sr λ_ J21=>PS ?_));refine am ?_ ?_<;>intro h56;refine PS ?_;refine nx J21 (CY (sr λ_ J22=>PS ?_));refine CP GH (qk rb v1 r1) (SM [1]) (λ_ d _=>(hf1).more d) (λcP HP hP=>?_) (λvR HR hR=>?_);obtain⟨vP,rfl,rfl,hpP⟩:=hP;refine aw (aL (aw (WK [0] (aR ?_))));exact⟨_,rfl,rfl,by simp[df,eY,e9,aD hp1,bO hpP,h11,h20,h32,h37,h45,h56, *]⟩;obtain⟨a2,r2,v2,rfl,rfl,hp2,ht2⟩:=hR;have hf2:=ht2 _ hf1
 refine FA 182 iy be ?_;refine SP 1 be ao bj RecT.wp_view ?_;refine nx J22 (aa λ_ J23=>D1 1 bf ?_);refine LY 0 iy iE bj ?_;refine FD 1 182 iy be ?_;refine ta 2 rfl (aK (vs:=ints a2.flat) rfl eL rfl be rfl (λ_ h=>h.2.1) (ao a2) (MO (RecT.mk a1 0 RowT.zero 0 BallotT.zero ChangeT.zero a2) 0 rfl (by decide) (bk (ao a2)))) ?_;refine AL 3 ?_;refine CE H9 (j8 a2 (q7 hp2)) ID ?_;refine EN (AL 4 ?_);refine SW 2 iE bj ?_;refine EN (PD 5 ?_);refine DN (ac J23 (ai (aH (ae (RT 2 [0] iy iE (bj _) ?_)))));exact⟨((RecT.mk a1 0 RowT.zero 0 BallotT.zero ChangeT.zero a2),(kd a2)),_,_,rfl,rfl,by simp[df,eY,e9,pr,aD hp1,aD hp2,h11,h20,h32,h37,h45,h56,MsgT.zero,RecT.zero, *],(ht1.trans ht2)⟩;refine PS ?_;refine nx J21 (CN (aQ (ag (ac J3 (sr λ_ J24=>LW 0 iy iE bj ?_)))));refine SW 2 iE bj ?_;refine PS ?_;refine nx J24 (ai (RT 2 [1] iy iE (bj _) ?_));exact⟨((RecT.mk a1 0 RowT.zero 0 BallotT.zero ChangeT.zero ViewT.zero),true),_,_,rfl,rfl,by simp[df,eY,e9,pr,aD hp1,h11,h20,h32,h37,h45,h56,MsgT.zero,RecT.zero, *],ht1⟩
theorem Cn(rb mb gb:Nat)(v:Value)(bs:List UInt8)(m0:MsgT)(g0:Bool):
 DT 141 #[(.pointer (some ⟨rb,0,none⟩)),(.pointer (some ⟨mb,0,none⟩)),(.pointer (some ⟨gb,0,none⟩))] (IsB v bs) [aj rb [v] 197,aj mb (ints m0.flat) 178,aj gb [(.bool (g0))] 4] (tP (λ_ H=>∃x' r a,H=aj rb [x'] 197::[aj mb (ints a.1.flat) 178,aj gb [.bool a.2] 4]∧Tail v bs x' r∧cL bs=some (a,r)) (λc H=>c=gX∧∃(x':Value) (_:Unit),H=aj rb [x'] 197::[aj mb (ints m0.flat) 178,aj gb [.bool g0] 4]∧cL bs=none)):=by
 refine BD 9 Tryz.func141 rfl rfl rfl λw0 F hF=>af (PS ?_)
 refine CP Ld (yL rb v bs) ID (λ_ d _=>(hF).more d) (λcP HP hP=>?_) (λvR HR hR=>?_);obtain⟨vP,rfl,rfl,hpP⟩:=hP;exact WK [0,0,0] (aR ⟨rfl,_,(),rfl,hpP⟩);obtain⟨a1,r1,v1,rfl,rfl,hp1,ht1⟩:=hR;refine P3 ?_;refine SW 1 bX aG ?_;refine S0 2 kp ?_;exact au (WK [0,0,0] (bu rfl ⟨_,_,_,rfl,ht1,hp1⟩))
theorem Ba(x:Value)(bs:List UInt8):
 DT 104 #[x] (IsB x bs) [] (RI (.tuple #[.agg (ints (gO bs).1.flat).toArray, .int .i64 (gO bs).2]) []):=by
 refine Leg.Does.body (vs:=[x]) (n:=18) Tryz.func104 rfl rfl rfl (λw0 F hF=>?_);refine sr λ_ J1=>?_
 refine pA (ab rfl) rfl rfl rfl lN (λb2=>?_);change TL _ _ _ _ _ _ _ _ _ [aj b2 (ints MsgT.zero.flat) 178];refine oD ?_;refine nx J1 ?_;clear J1;refine sr λ_ J2=>?_
 refine pA (ab rfl) rfl rfl rfl lN (λb4=>?_);change TL _ _ _ _ _ _ _ _ _ [aj b4 (ints MsgT.zero.flat) 178,aj b2 (ints MsgT.zero.flat) 178];refine nx J2 ?_;clear J2;refine sr λ_ J3=>?_
 refine pA (ab rfl) rfl rfl rfl z4 (λb5=>?_);refine bT (i:=0) (ab rfl) rfl rfl rfl rfl rfl kp rfl rfl (lb rfl) rfl rfl ?_;refine nx J3 ?_;clear J3;refine sr λ_ J4=>?_
 refine mv ?_;refine tp (MW rfl rfl) ?_;refine kl (ab rfl) rfl rfl rfl Ku rfl (xy (bs:=bs) (C:=[aj b4 (ints MsgT.zero.flat) 178,aj b5 [(.bool false)] 4]) (caps:=[(.pointer (some ⟨b4,0,none⟩)),(.pointer (some ⟨b5,0,none⟩))]) (A:=λa:MsgT×Bool=>[aj b4 (ints a.1.flat) 178,aj b5 [.bool a.2] 4]) (G:=λ_:Unit=>[aj b4 (ints MsgT.zero.flat) 178,aj b5 [(.bool false)] 4]) (φ:=λa r=>cL bs=some (a,r)) (ψ:=λ_=>cL bs=none) (λ_ h=>h) (λ_ _ h d=>h.more d) Lg (λrb=>Cn rb b4 b5 x bs MsgT.zero false)) (λ_ s=>az [1,0] rfl s) (λ_ d _=>(hF).more d) (λvR HR hR=>?_);rcases hR with⟨r,⟨m,g⟩,rfl,rfl,hs⟩| ⟨_,rfl,rfl,hs⟩
 refine am (λh9=>?_) (λh9=>?_);refine oD ?_;refine nx J4 ?_;clear J4;refine aa λ_ J5=>?_
 refine sr λ_ J6=>?_
 refine mv ?_;refine tp (ln (r:=false) rfl rfl rfl) ?_;refine mv ?_;refine tq (gR (v:=(.bool (g))) rfl Y4 rfl rfl (eR 1 rfl rfl) rfl) ?_;refine aX (λh13=>?_) (λh13=>?_);refine tq (ln (r:=false) rfl rfl rfl) ?_;refine tp (w5 rfl rfl rfl) ?_;refine nx J6 ?_;clear J6;refine Ea rfl ?_;refine aQ ?_;refine ac J5 ?_;clear J5;refine sr λ_ J7=>?_
 refine tp (aK (vs:=ints m.flat) rfl a8 rfl bX rfl (eR 0 rfl rfl) (aG m) (bk (aG m))) ?_;refine ck (vs:=ints m.flat) (i:=2) (ab rfl) rfl rfl rfl rfl rfl (by rw[(aG m)];exact bX) (bG _) rfl rfl (by have h0:=(aG MsgT.zero);have h1:=(aG m);omega) (cz ((aG MsgT.zero).trans (aG m).symm)) rfl ?_;refine oD ?_;refine nx J7 ?_;clear J7;refine ai ?_;refine lj (H':=[]) rfl rfl rfl a8 rfl bX (eR 2 rfl rfl) (aG m) (λ_ s=>ak [] rfl s) ?_;exact⟨by simp[gO, *],rfl⟩;refine tq (ln (r:=true) rfl rfl rfl) ?_;refine tp (w5 rfl rfl rfl) ?_;refine nx J6 ?_;clear J6;refine mC rfl ?_;refine sr λ_ J8=>?_
 refine tp (jH (cells:=(ints MsgT.zero.flat).toArray) rfl rfl (by as_aux_lemma=>kernel_rfl)) ?_;refine ck (vs:=ints MsgT.zero.flat) (i:=2) (ab rfl) rfl rfl rfl rfl rfl (by rw[(aG MsgT.zero)];exact bX) (bG _) rfl rfl (by have h0:=(aG MsgT.zero);have h1:=(aG MsgT.zero);omega) (cz ((aG MsgT.zero).trans (aG MsgT.zero).symm)) rfl ?_;refine oD ?_;refine nx J8 ?_;clear J8;refine ai ?_;refine ae ?_;clear J5;refine lj (H':=[]) rfl rfl rfl a8 rfl bX (eR 2 rfl rfl) (aG MsgT.zero) (λ_ s=>ak [] rfl s) ?_;exact⟨by simp[gO, *],rfl⟩;refine oD ?_;refine nx J4 ?_;clear J4;refine aa λ_ J9=>?_
 refine sr λ_ J10=>?_
 refine mv ?_;refine tp (ln (r:=true) rfl rfl rfl) ?_;refine mv ?_;refine pz (b:=true) rfl rfl rfl rfl (lb rfl) ?_;refine pz (b:=true) rfl rfl rfl rfl (lb rfl) ?_;refine tp (w5 rfl rfl rfl) ?_;refine nx J10 ?_;clear J10;refine mC rfl ?_;refine sr λ_ J11=>?_
 refine tp (jH (cells:=(ints MsgT.zero.flat).toArray) rfl rfl (by as_aux_lemma=>kernel_rfl)) ?_;refine ck (vs:=ints MsgT.zero.flat) (i:=2) (ab rfl) rfl rfl rfl rfl rfl (by rw[(aG MsgT.zero)];exact bX) (bG _) rfl rfl (by have h0:=(aG MsgT.zero);have h1:=(aG MsgT.zero);omega) (cz ((aG MsgT.zero).trans (aG MsgT.zero).symm)) rfl ?_;refine oD ?_;refine nx J11 ?_;clear J11;refine ai ?_;refine ae ?_;clear J9;refine lj (H':=[]) rfl rfl rfl a8 rfl bX (eR 2 rfl rfl) (aG MsgT.zero) (λ_ s=>ak [] rfl s) ?_;exact⟨by simp[gO, *],rfl⟩;refine oD ?_;refine nx J4 ?_;clear J4;refine aa λ_ J12=>?_
 refine sr λ_ J13=>?_
 refine mv ?_;refine tp (ln (r:=true) rfl rfl rfl) ?_;refine mv ?_;refine pz (b:=true) rfl rfl rfl rfl (lb rfl) ?_;refine pz (b:=true) rfl rfl rfl rfl (lb rfl) ?_;refine tp (w5 rfl rfl rfl) ?_;refine nx J13 ?_;clear J13;refine mC rfl ?_;refine sr λ_ J14=>?_
 refine tp (jH (cells:=(ints MsgT.zero.flat).toArray) rfl rfl (by as_aux_lemma=>kernel_rfl)) ?_;refine ck (vs:=ints MsgT.zero.flat) (i:=2) (ab rfl) rfl rfl rfl rfl rfl (by rw[(aG MsgT.zero)];exact bX) (bG _) rfl rfl (by have h0:=(aG MsgT.zero);have h1:=(aG MsgT.zero);omega) (cz ((aG MsgT.zero).trans (aG MsgT.zero).symm)) rfl ?_;refine oD ?_;refine nx J14 ?_;clear J14;refine ai ?_;refine ae ?_;clear J12;refine lj (H':=[]) rfl rfl rfl a8 rfl bX (eR 2 rfl rfl) (aG MsgT.zero) (λ_ s=>ak [] rfl s) ?_;exact⟨by simp[gO, *],rfl⟩
theorem EO(rb mb gb:Nat)(v:Value)(bs:List UInt8)(m0:RecT)(g0:Bool):
 DT 82 #[(.pointer (some ⟨rb,0,none⟩)),(.pointer (some ⟨mb,0,none⟩)),(.pointer (some ⟨gb,0,none⟩))] (IsB v bs) [aj rb [v] 197,aj mb (ints m0.flat) 90,aj gb [(.bool (g0))] 4] (tP (λ_ H=>∃x' r a,H=aj rb [x'] 197::[aj mb (ints a.1.flat) 90,aj gb [.bool a.2] 4]∧Tail v bs x' r∧df bs=some (a,r)) (λc H=>c=gX∧∃(x':Value) (_:Unit),H=aj rb [x'] 197::[aj mb (ints m0.flat) 90,aj gb [.bool g0] 4]∧df bs=none)):=by
 refine BD 9 Tryz.func82 rfl rfl rfl λw0 F hF=>af (PS ?_)
 refine CP Mp (yK rb v bs) ID (λ_ d _=>(hF).more d) (λcP HP hP=>?_) (λvR HR hR=>?_);obtain⟨vP,rfl,rfl,hpP⟩:=hP;exact WK [0,0,0] (aR ⟨rfl,_,(),rfl,hpP⟩);obtain⟨a1,r1,v1,rfl,rfl,hp1,ht1⟩:=hR;refine P3 ?_;refine SW 1 iE bj ?_;refine S0 2 kp ?_;exact au (WK [0,0,0] (bu rfl ⟨_,_,_,rfl,ht1,hp1⟩))
theorem tJ(x:Value)(bs:List UInt8):
 DT 49 #[x] (IsB x bs) [] (RI (.tuple #[.agg (ints (mV bs).1.flat).toArray, .int .i64 (mV bs).2]) []):=by
 refine Leg.Does.body (vs:=[x]) (n:=18) Tryz.func49 rfl rfl rfl (λw0 F hF=>?_);refine sr λ_ J1=>?_
 refine pA (ab rfl) rfl rfl rfl JW (λb2=>?_);change TL _ _ _ _ _ _ _ _ _ [aj b2 (ints RecT.zero.flat) 90];refine oD ?_;refine nx J1 ?_;clear J1;refine sr λ_ J2=>?_
 refine pA (ab rfl) rfl rfl rfl JW (λb4=>?_);change TL _ _ _ _ _ _ _ _ _ [aj b4 (ints RecT.zero.flat) 90,aj b2 (ints RecT.zero.flat) 90];refine nx J2 ?_;clear J2;refine sr λ_ J3=>?_
 refine pA (ab rfl) rfl rfl rfl z4 (λb5=>?_);refine bT (i:=0) (ab rfl) rfl rfl rfl rfl rfl kp rfl rfl (lb rfl) rfl rfl ?_;refine nx J3 ?_;clear J3;refine sr λ_ J4=>?_
 refine mv ?_;refine tp (MW rfl rfl) ?_;refine kl (ab rfl) rfl rfl rfl Ku rfl (xy (bs:=bs) (C:=[aj b4 (ints RecT.zero.flat) 90,aj b5 [(.bool false)] 4]) (caps:=[(.pointer (some ⟨b4,0,none⟩)),(.pointer (some ⟨b5,0,none⟩))]) (A:=λa:RecT×Bool=>[aj b4 (ints a.1.flat) 90,aj b5 [.bool a.2] 4]) (G:=λ_:Unit=>[aj b4 (ints RecT.zero.flat) 90,aj b5 [(.bool false)] 4]) (φ:=λa r=>df bs=some (a,r)) (ψ:=λ_=>df bs=none) (λ_ h=>h) (λ_ _ h d=>h.more d) Mq (λrb=>EO rb b4 b5 x bs RecT.zero false)) (λ_ s=>az [1,0] rfl s) (λ_ d _=>(hF).more d) (λvR HR hR=>?_);rcases hR with⟨r,⟨m,g⟩,rfl,rfl,hs⟩| ⟨_,rfl,rfl,hs⟩
 refine am (λh9=>?_) (λh9=>?_);refine oD ?_;refine nx J4 ?_;clear J4;refine aa λ_ J5=>?_
 refine sr λ_ J6=>?_
 refine mv ?_;refine tp (ln (r:=false) rfl rfl rfl) ?_;refine mv ?_;refine tq (gR (v:=(.bool (g))) rfl Y4 rfl rfl (eR 1 rfl rfl) rfl) ?_;refine aX (λh13=>?_) (λh13=>?_);refine tq (ln (r:=false) rfl rfl rfl) ?_;refine tp (w5 rfl rfl rfl) ?_;refine nx J6 ?_;clear J6;refine Ea rfl ?_;refine aQ ?_;refine ac J5 ?_;clear J5;refine sr λ_ J7=>?_
 refine tp (aK (vs:=ints m.flat) rfl iy rfl iE rfl (eR 0 rfl rfl) (bj m) (bk (bj m))) ?_;refine ck (vs:=ints m.flat) (i:=2) (ab rfl) rfl rfl rfl rfl rfl (by rw[(bj m)];exact iE) (bG _) rfl rfl (by have h0:=(bj RecT.zero);have h1:=(bj m);omega) (cz ((bj RecT.zero).trans (bj m).symm)) rfl ?_;refine oD ?_;refine nx J7 ?_;clear J7;refine ai ?_;refine lj (H':=[]) rfl rfl rfl iy rfl iE (eR 2 rfl rfl) (bj m) (λ_ s=>ak [] rfl s) ?_;exact⟨by simp[mV, *],rfl⟩;refine tq (ln (r:=true) rfl rfl rfl) ?_;refine tp (w5 rfl rfl rfl) ?_;refine nx J6 ?_;clear J6;refine mC rfl ?_;refine sr λ_ J8=>?_
 refine tp (jH (cells:=(ints RecT.zero.flat).toArray) rfl rfl (by as_aux_lemma=>kernel_rfl)) ?_;refine ck (vs:=ints RecT.zero.flat) (i:=2) (ab rfl) rfl rfl rfl rfl rfl (by rw[(bj RecT.zero)];exact iE) (bG _) rfl rfl (by have h0:=(bj RecT.zero);have h1:=(bj RecT.zero);omega) (cz ((bj RecT.zero).trans (bj RecT.zero).symm)) rfl ?_;refine oD ?_;refine nx J8 ?_;clear J8;refine ai ?_;refine ae ?_;clear J5;refine lj (H':=[]) rfl rfl rfl iy rfl iE (eR 2 rfl rfl) (bj RecT.zero) (λ_ s=>ak [] rfl s) ?_;exact⟨by simp[mV, *],rfl⟩;refine oD ?_;refine nx J4 ?_;clear J4;refine aa λ_ J9=>?_
 refine sr λ_ J10=>?_
 refine mv ?_;refine tp (ln (r:=true) rfl rfl rfl) ?_;refine mv ?_;refine pz (b:=true) rfl rfl rfl rfl (lb rfl) ?_;refine pz (b:=true) rfl rfl rfl rfl (lb rfl) ?_;refine tp (w5 rfl rfl rfl) ?_;refine nx J10 ?_;clear J10;refine mC rfl ?_;refine sr λ_ J11=>?_
 refine tp (jH (cells:=(ints RecT.zero.flat).toArray) rfl rfl (by as_aux_lemma=>kernel_rfl)) ?_;refine ck (vs:=ints RecT.zero.flat) (i:=2) (ab rfl) rfl rfl rfl rfl rfl (by rw[(bj RecT.zero)];exact iE) (bG _) rfl rfl (by have h0:=(bj RecT.zero);have h1:=(bj RecT.zero);omega) (cz ((bj RecT.zero).trans (bj RecT.zero).symm)) rfl ?_;refine oD ?_;refine nx J11 ?_;clear J11;refine ai ?_;refine ae ?_;clear J9;refine lj (H':=[]) rfl rfl rfl iy rfl iE (eR 2 rfl rfl) (bj RecT.zero) (λ_ s=>ak [] rfl s) ?_;exact⟨by simp[mV, *],rfl⟩;refine oD ?_;refine nx J4 ?_;clear J4;refine aa λ_ J12=>?_
 refine sr λ_ J13=>?_
 refine mv ?_;refine tp (ln (r:=true) rfl rfl rfl) ?_;refine mv ?_;refine pz (b:=true) rfl rfl rfl rfl (lb rfl) ?_;refine pz (b:=true) rfl rfl rfl rfl (lb rfl) ?_;refine tp (w5 rfl rfl rfl) ?_;refine nx J13 ?_;clear J13;refine mC rfl ?_;refine sr λ_ J14=>?_
 refine tp (jH (cells:=(ints RecT.zero.flat).toArray) rfl rfl (by as_aux_lemma=>kernel_rfl)) ?_;refine ck (vs:=ints RecT.zero.flat) (i:=2) (ab rfl) rfl rfl rfl rfl rfl (by rw[(bj RecT.zero)];exact iE) (bG _) rfl rfl (by have h0:=(bj RecT.zero);have h1:=(bj RecT.zero);omega) (cz ((bj RecT.zero).trans (bj RecT.zero).symm)) rfl ?_;refine oD ?_;refine nx J14 ?_;clear J14;refine ai ?_;refine ae ?_;clear J12;refine lj (H':=[]) rfl rfl rfl iy rfl iE (eR 2 rfl rfl) (bj RecT.zero) (λ_ s=>ak [] rfl s) ?_;exact⟨by simp[mV, *],rfl⟩
end Go.Proofs.YtjblgopghhgflaaGreat
end
