/-
  Joined texts:what a statement's proof reaches.
-/
import Derived.Test.YtfocodjhmkokpaaGreatDoorRows
import Derived.LaidSub
import Derived.Stop.LaidErr
import Derived.Lib.LaidTab
import Derived.Test.YtfocodjhmkokpaaGreatDoorPTR8
set_option maxHeartbeats 8000000
set_option maxRecDepth 100000
set_option linter.unusedSimpArgs false
set_option linter.unusedVariables false
section
namespace Go.Proofs.YtfocodjhmkokpaaGreatDoor
open Go Leg Codec Api Dsk Wal
theorem JO(b:UInt8):qR .u8 (((b.toNat:Nat):Nat):Int) 15=(((b.toNat%16:Nat):Nat):Int):=M5 ⟨b.toNat,b.toNat_lt⟩
theorem Mt(b:UInt8):(((b.toNat:Nat):Nat):Int).fdiv (2^min (4:Int).toNat IntKind.u8.bits)=(((b.toNat / 16:Nat):Nat):Int):=Ns ⟨b.toNat,b.toNat_lt⟩
theorem xg(b:UInt8):IntKind.i64.wrap (((b.toNat%16:Nat):Nat):Int)=jJ b:=by unfold jJ;exact bF (by omega) (by omega)
theorem xq(b:UInt8):IntKind.i64.wrap (((b.toNat / 16:Nat):Nat):Int)=kg b:=by unfold kg;have:=b.toNat_lt;exact bF (by omega) (by omega)
theorem vH(b:UInt8):IntKind.i64.wrap (((b.toNat:Nat):Nat):Int)=n8 b:=by unfold n8;have:=b.toNat_lt;exact bF (by omega) (by omega)
theorem xJ{v:Value}{k:Nat}(h:v.oneCell'=true):(vk v k).oneCell'=true:=by
 unfold vk;split
 · rfl
 · exact h
theorem p8(x:Value)(bs:List UInt8)(hl:bs.length≤1000000):
 DT 22 #[x] (IsB x bs) [] (dh (λr' H=>∃u,r'=u∧H=[own u ((iN bs).length) (ints (List.flatMap OpT.flat (iN bs))) 63 11])):=by
 refine BD 76 Tryz.func22 rfl rfl rfl λw0 F hF=>sr λ_ J1=>PS ?_
 refine nx J1 (sr λ_ J2=>PS ?_);refine nx J2 (ab λ_ J3=>au ?_)
 refine bu (α:=(List UInt8)×(Value)×(List OpT)×(Value)) (λ⟨r,xv,done,u⟩=>IsB xv r F∧r.length≤1000000∧done.length+r.length / 5≤1000000∧iN bs=done++iN r∧xv.oneCell'=true∧u.oneCell'=true) (λ⟨r,xv,done,u⟩=>[(0,xv),(2,(.slice none 0 0)),(3,u)]) (λ⟨r,xv,done,u⟩=>[own u (done.length) (ints (List.flatMap OpT.flat done)) 63 11]) (λ⟨r,xv,done,u⟩=>r.length) (bs,x,[],(.slice none 0 0))
  ⟨hF,hl,by simp;omega,rfl,hF.one,rfl⟩ SB
  (λ_ s=>fP 63 11 s) (λ⟨r,xv,done,u⟩ hinv=>?_)
 obtain⟨hB,hr,hd,ho,hx,hu⟩:=hinv;have hU:IsW xv r F:=Gc hB;have hUl:=hB.len;refine ab λ_ J4=>sr λ_ J5=>PS ?_
 refine tp (dq rfl fB rfl hUl) ?_;refine PS ?_;refine ao ?_ ?_<;>intro h7;obtain⟨b_b,off_b,cap_b,cs_b,T_b,z_b,hv_b,hb_b,hcs_b,hcp_b⟩:=IsW.at hU (j:=0) (by omega);have hlt_b:=IsW.lt hU;refine nx J5 (CY (qx J4 (ab λ_ J6=>au (ab λ_ J7=>D0 mixed ?_))));refine PD 0 ?_;refine ta 1 rfl (be (r:=off_b) hv_b rfl fB jF rfl rfl (by omega) (by omega) (by omega)) ?_;refine ta 2 rfl (ca (v:=(.int .u8 (((((r).getD 0 0).toNat:Nat):Int)))) rfl Y5 rfl rfl (jl hb_b (λ_ h=>h.1)) (hcs_b 0 (by omega))) ?_;refine ta 3 rfl (pD (r:=((((r.getD 0 0).toNat%16:Nat):Nat):Int)) rfl rfl rfl (JO _)) ?_;refine ta 4 rfl (cE (r:=(jJ (r.getD 0 0))) rfl Y5 Y3 rfl (xg _)) ?_;refine PD 5 ?_;refine ta 6 rfl (be (r:=off_b) hv_b rfl fB jF rfl rfl (by omega) (by omega) (by omega)) ?_;refine ta 7 rfl (ca (v:=(.int .u8 (((((r).getD 0 0).toNat:Nat):Int)))) rfl Y5 rfl rfl (jl hb_b (λ_ h=>h.1)) (hcs_b 0 (by omega))) ?_;refine ta 8 rfl (jX (r:=((((r.getD 0 0).toNat / 16:Nat):Nat):Int)) rfl rfl rfl (by omega) (Mt _)) ?_;refine ta 9 rfl (cE (r:=(kg (r.getD 0 0))) rfl Y5 Y3 rfl (xq _)) ?_;refine PD 10 ?_;refine ta 11 rfl (be (r:=off_b+1) hv_b rfl fB jF rfl rfl (by omega) (by omega) (by omega)) ?_;refine ta 12 rfl (ca (v:=(.int .u8 (((((r).getD 1 0).toNat:Nat):Int)))) rfl Y5 rfl rfl (jl hb_b (λ_ h=>h.1)) (hcs_b 1 (by omega))) ?_;refine ta 13 rfl (pD (r:=((((r.getD 1 0).toNat%16:Nat):Nat):Int)) rfl rfl rfl (JO _)) ?_
 refine ta 14 rfl (cE (r:=(jJ (r.getD 1 0))) rfl Y5 Y3 rfl (xg _)) ?_;refine PD 15 ?_;refine ta 16 rfl (be (r:=off_b+1) hv_b rfl fB jF rfl rfl (by omega) (by omega) (by omega)) ?_;refine ta 17 rfl (ca (v:=(.int .u8 (((((r).getD 1 0).toNat:Nat):Int)))) rfl Y5 rfl rfl (jl hb_b (λ_ h=>h.1)) (hcs_b 1 (by omega))) ?_;refine ta 18 rfl (jX (r:=((((r.getD 1 0).toNat / 16:Nat):Nat):Int)) rfl rfl rfl (by omega) (Mt _)) ?_;refine ta 19 rfl (cE (r:=(kg (r.getD 1 0))) rfl Y5 Y3 rfl (xq _)) ?_;refine PD 20 ?_;refine ta 21 rfl (be (r:=off_b+2) hv_b rfl fB jF rfl rfl (by omega) (by omega) (by omega)) ?_;refine ta 22 rfl (ca (v:=(.int .u8 (((((r).getD 2 0).toNat:Nat):Int)))) rfl Y5 rfl rfl (jl hb_b (λ_ h=>h.1)) (hcs_b 2 (by omega))) ?_;refine ta 23 rfl (cE (r:=(n8 (r.getD 2 0))) rfl Y5 Y3 rfl (vH _)) ?_;refine ta 24 rfl (ll OpT.zero (OpT.mk (jJ (r.getD 0 0)) (kg (r.getD 0 0)) (jJ (r.getD 1 0)) (kg (r.getD 1 0)) (n8 (r.getD 2 0)) ChangeT.zero 0 0 0) [(0,[Value.int .i64 (jJ (r.getD 0 0))]),(1,[Value.int .i64 (kg (r.getD 0 0))]),(2,[Value.int .i64 (jJ (r.getD 1 0))]),(3,[Value.int .i64 (kg (r.getD 1 0))]),(4,[Value.int .i64 (n8 (r.getD 2 0))])] fk lU (g:=OpT.sg)) ?_;refine AL 25 ?_;refine XZ P9 (ints OpT.zero.flat) λb4=>?_
 refine EN (AL 26 ?_);refine SW 0 vf hY ?_;refine EN (DN (ac J7 (ab λ_ J8=>sr λ_ J9=>FA 0 fk aR ?_)));refine LT 0 Y3 (.int .i64 ((jJ (r.getD 0 0)))) ?_ (hc:=by exact cI _ rfl);refine nx J9 (au (sr λ_ J10=>PS ?_));refine ao ?_ ?_<;>intro h38;refine PS ?_;refine nx J10 (CY (D0 mixed ?_));refine PD 0 ?_;refine ta 1 rfl (be (r:=off_b+3) hv_b rfl fB jF rfl rfl (by omega) (by omega) (by omega)) ?_;refine ta 2 rfl (ca (v:=(.int .u8 (((((r).getD 3 0).toNat:Nat):Int)))) rfl Y5 rfl rfl (jl hb_b (λ_ h=>h.1)) (hcs_b 3 (by omega))) ?_;refine ta 3 rfl (pD (r:=((((r.getD 3 0).toNat%16:Nat):Nat):Int)) rfl rfl rfl (JO _)) ?_;refine ta 4 rfl (cE (r:=(jJ (r.getD 3 0))) rfl Y5 Y3 rfl (xg _)) ?_;refine PD 5 ?_;refine ta 6 rfl (be (r:=off_b+3) hv_b rfl fB jF rfl rfl (by omega) (by omega) (by omega)) ?_;refine ta 7 rfl (ca (v:=(.int .u8 (((((r).getD 3 0).toNat:Nat):Int)))) rfl Y5 rfl rfl (jl hb_b (λ_ h=>h.1)) (hcs_b 3 (by omega))) ?_;refine ta 8 rfl (jX (r:=((((r.getD 3 0).toNat / 16:Nat):Nat):Int)) rfl rfl rfl (by omega) (Mt _)) ?_;refine ta 9 rfl (cE (r:=(kg (r.getD 3 0))) rfl Y5 Y3 rfl (xq _)) ?_;refine PD 10 ?_;refine ta 11 rfl (be (r:=off_b+4) hv_b rfl fB jF rfl rfl (by omega) (by omega) (by omega)) ?_;refine ta 12 rfl (ca (v:=(.int .u8 (((((r).getD 4 0).toNat:Nat):Int)))) rfl Y5 rfl rfl (jl hb_b (λ_ h=>h.1)) (hcs_b 4 (by omega))) ?_;refine ta 13 rfl (cE (r:=(n8 (r.getD 4 0))) rfl Y5 Y3 rfl (vH _)) ?_
 refine ta 14 rfl (ll ChangeT.zero (ChangeT.mk (jJ (r.getD 3 0)) (kg (r.getD 3 0)) (n8 (r.getD 4 0))) [(0,[Value.int .i64 (jJ (r.getD 3 0))]),(1,[Value.int .i64 (kg (r.getD 3 0))]),(2,[Value.int .i64 (n8 (r.getD 4 0))])] na H0 (g:=ChangeT.sg)) ?_;refine FD 15 5 fk fp ?_;refine AL 16 ?_;refine SP 0 fp aI hY OpT.wp_change ?_;refine EN (DN (ag (ac J8 (ad ?_))));have hop:(OpT.mk (jJ (r.getD 0 0)) (kg (r.getD 0 0)) (jJ (r.getD 1 0)) (kg (r.getD 1 0)) (n8 (r.getD 2 0)) (ChangeT.mk (jJ (r.getD 3 0)) (kg (r.getD 3 0)) (n8 (r.getD 4 0))) 0 0 0)=ib (r.getD 0 0) (r.getD 1 0) (r.getD 2 0) (r.getD 3 0) (r.getD 4 0):=by first| (rw[ib,if_pos h38];try rfl)| (rw[ib,if_neg h38,if_pos h56];try rfl)| (rw[ib,if_neg h38,if_neg h56];try rfl)
 refine PS ?_;refine LW 0 fk vf hY ?_;refine aQ (cells:=(ints (OpT.mk (jJ (r.getD 0 0)) (kg (r.getD 0 0)) (jJ (r.getD 1 0)) (kg (r.getD 1 0)) (n8 (r.getD 2 0)) (ChangeT.mk (jJ (r.getD 3 0)) (kg (r.getD 3 0)) (n8 (r.getD 4 0))) 0 0 0).flat).toArray) (aa rfl) rfl rfl rfl Mi Hu rfl rfl rfl (j8 (hY (OpT.mk (jJ (r.getD 0 0)) (kg (r.getD 0 0)) (jJ (r.getD 1 0)) (kg (r.getD 1 0)) (n8 (r.getD 2 0)) (ChangeT.mk (jJ (r.getD 3 0)) (kg (r.getD 3 0)) (n8 (r.getD 4 0))) 0 0 0)) (by simp)) (λb73=>?_);change TL _ _ _ _ _ _ _ _ _ [ah b73 (ints (OpT.mk (jJ (r.getD 0 0)) (kg (r.getD 0 0)) (jJ (r.getD 1 0)) (kg (r.getD 1 0)) (n8 (r.getD 2 0)) (ChangeT.mk (jJ (r.getD 3 0)) (kg (r.getD 3 0)) (n8 (r.getD 4 0))) 0 0 0).flat) 63,ah b4 (ints (OpT.mk (jJ (r.getD 0 0)) (kg (r.getD 0 0)) (jJ (r.getD 1 0)) (kg (r.getD 1 0)) (n8 (r.getD 2 0)) (ChangeT.mk (jJ (r.getD 3 0)) (kg (r.getD 3 0)) (n8 (r.getD 4 0))) 0 0 0).flat) 63,own u (done.length) (ints (List.flatMap OpT.flat done)) 63 11]
 refine ci (k:=2) (news:=ints (OpT.mk (jJ (r.getD 0 0)) (kg (r.getD 0 0)) (jJ (r.getD 1 0)) (kg (r.getD 1 0)) (n8 (r.getD 2 0)) (ChangeT.mk (jJ (r.getD 3 0)) (kg (r.getD 3 0)) (n8 (r.getD 4 0))) 0 0 0).flat) (nn':=(done++[ib (r.getD 0 0) (r.getD 1 0) (r.getD 2 0) (r.getD 3 0) (r.getD 4 0)]).length) (xs':=ints (List.flatMap OpT.flat (done++[ib (r.getD 0 0) (r.getD 1 0) (r.getD 2 0) (r.getD 3 0) (r.getD 4 0)]))) (aa rfl) rfl rfl rfl Mi Hu rfl rfl rfl rfl rfl rfl (λ_ _=>gS (hY _) (RO 0) (by rw[aV,eI])) (bj _) (by simp only[maxLen];omega) (by omega) (by simp) (by rw[←hop];simp[ints]) (λv74 ov74=>PS ?_);refine aq (ag (ac J6 (ad (PS ?_))));refine tp (Gb (yI (k:=5) rfl fB jF (by rw[←hv_b];rfl) rfl (by omega) (by omega) rfl) (congrArg (λq=>vk q 5) hv_b.symm)) ?_;refine PS ?_;refine aq ?_
 exact aJ (((r.drop 5),(vk xv 5),(done++[ib (r.getD 0 0) (r.getD 1 0) (r.getD 2 0) (r.getD 3 0) (r.getD 4 0)]),v74):(List UInt8)×(Value)×(List OpT)×(Value)) ⟨hB.cut 5 (by omega),by rw[bE];omega,by rw[af,bE];simp;omega,by rw[ho,n6 (by omega)];simp,xJ hx,ov74⟩ (by show(r.drop 5).length<r.length;rw[bE];omega)
  SB
  (λ_ s=>ak [2] rfl s)
 refine PS ?_;refine nx J10 (CN (sr λ_ J11=>PS ?_));refine ao ?_ ?_<;>intro h56;refine PS ?_;refine nx J11 (CY (D0 mixed ?_));refine PD 0 ?_;refine ta 1 rfl (be (r:=off_b+3) hv_b rfl fB jF rfl rfl (by omega) (by omega) (by omega)) ?_;refine ta 2 rfl (ca (v:=(.int .u8 (((((r).getD 3 0).toNat:Nat):Int)))) rfl Y5 rfl rfl (jl hb_b (λ_ h=>h.1)) (hcs_b 3 (by omega))) ?_;refine ta 3 rfl (cE (r:=(n8 (r.getD 3 0))) rfl Y5 Y3 rfl (vH _)) ?_;refine PD 4 ?_;refine ta 5 rfl (be (r:=off_b+4) hv_b rfl fB jF rfl rfl (by omega) (by omega) (by omega)) ?_;refine ta 6 rfl (ca (v:=(.int .u8 (((((r).getD 4 0).toNat:Nat):Int)))) rfl Y5 rfl rfl (jl hb_b (λ_ h=>h.1)) (hcs_b 4 (by omega))) ?_;refine ta 7 rfl (cE (r:=(n8 (r.getD 4 0))) rfl Y5 Y3 rfl (vH _)) ?_;refine ta 8 rfl (ix (r:=(n8 (r.getD 4 0)-1)) rfl rfl rfl (bF (by have:=Co (r.getD 4 0);omega) (by have:=Co (r.getD 4 0);omega))) ?_;refine FD 9 4 fk aR ?_;refine AL 10 ?_;refine LT 0 Y3 (.int .i64 ((n8 (r.getD 2 0)))) ?_ (hc:=by exact tm _ rfl);refine EN (FD 11 8 fk aR ?_);refine AL 12 ?_;refine SS 0 aR (hY _) (OpT.set_mask _ rfl _) ?_;refine EN (FD 13 9 fk aR ?_);refine AL 14 ?_;refine SS 0 aR (hY _) (OpT.set_torn _ rfl _) ?_;refine EN (FD 15 10 fk aR ?_);refine AL 16 ?_;refine SS 0 aR (hY _) (OpT.set_cut _ rfl _) ?_;refine EN (DN (ag (ac J8 (ad ?_))))
 have hop:(OpT.mk (jJ (r.getD 0 0)) (kg (r.getD 0 0)) (jJ (r.getD 1 0)) (kg (r.getD 1 0)) (n8 (r.getD 2 0)) ChangeT.zero (n8 (r.getD 3 0)) (n8 (r.getD 4 0)-1) (n8 (r.getD 2 0)))=ib (r.getD 0 0) (r.getD 1 0) (r.getD 2 0) (r.getD 3 0) (r.getD 4 0):=by first| (rw[ib,if_pos h38];try rfl)| (rw[ib,if_neg h38,if_pos h56];try rfl)| (rw[ib,if_neg h38,if_neg h56];try rfl)
 refine PS ?_;refine LW 0 fk vf hY ?_;refine aQ (cells:=(ints (OpT.mk (jJ (r.getD 0 0)) (kg (r.getD 0 0)) (jJ (r.getD 1 0)) (kg (r.getD 1 0)) (n8 (r.getD 2 0)) ChangeT.zero (n8 (r.getD 3 0)) (n8 (r.getD 4 0)-1) (n8 (r.getD 2 0))).flat).toArray) (aa rfl) rfl rfl rfl Mi Hu rfl rfl rfl (j8 (hY (OpT.mk (jJ (r.getD 0 0)) (kg (r.getD 0 0)) (jJ (r.getD 1 0)) (kg (r.getD 1 0)) (n8 (r.getD 2 0)) ChangeT.zero (n8 (r.getD 3 0)) (n8 (r.getD 4 0)-1) (n8 (r.getD 2 0)))) (by simp)) (λb73=>?_);change TL _ _ _ _ _ _ _ _ _ [ah b73 (ints (OpT.mk (jJ (r.getD 0 0)) (kg (r.getD 0 0)) (jJ (r.getD 1 0)) (kg (r.getD 1 0)) (n8 (r.getD 2 0)) ChangeT.zero (n8 (r.getD 3 0)) (n8 (r.getD 4 0)-1) (n8 (r.getD 2 0))).flat) 63,ah b4 (ints (OpT.mk (jJ (r.getD 0 0)) (kg (r.getD 0 0)) (jJ (r.getD 1 0)) (kg (r.getD 1 0)) (n8 (r.getD 2 0)) ChangeT.zero (n8 (r.getD 3 0)) (n8 (r.getD 4 0)-1) (n8 (r.getD 2 0))).flat) 63,own u (done.length) (ints (List.flatMap OpT.flat done)) 63 11]
 refine ci (k:=2) (news:=ints (OpT.mk (jJ (r.getD 0 0)) (kg (r.getD 0 0)) (jJ (r.getD 1 0)) (kg (r.getD 1 0)) (n8 (r.getD 2 0)) ChangeT.zero (n8 (r.getD 3 0)) (n8 (r.getD 4 0)-1) (n8 (r.getD 2 0))).flat) (nn':=(done++[ib (r.getD 0 0) (r.getD 1 0) (r.getD 2 0) (r.getD 3 0) (r.getD 4 0)]).length) (xs':=ints (List.flatMap OpT.flat (done++[ib (r.getD 0 0) (r.getD 1 0) (r.getD 2 0) (r.getD 3 0) (r.getD 4 0)]))) (aa rfl) rfl rfl rfl Mi Hu rfl rfl rfl rfl rfl rfl (λ_ _=>gS (hY _) (RO 0) (by rw[aV,eI])) (bj _) (by simp only[maxLen];omega) (by omega) (by simp) (by rw[←hop];simp[ints]) (λv74 ov74=>PS ?_);refine aq (ag (ac J6 (ad (PS ?_))));refine tp (Gb (yI (k:=5) rfl fB jF (by rw[←hv_b];rfl) rfl (by omega) (by omega) rfl) (congrArg (λq=>vk q 5) hv_b.symm)) ?_;refine PS ?_;refine aq ?_
 exact aJ (((r.drop 5),(vk xv 5),(done++[ib (r.getD 0 0) (r.getD 1 0) (r.getD 2 0) (r.getD 3 0) (r.getD 4 0)]),v74):(List UInt8)×(Value)×(List OpT)×(Value)) ⟨hB.cut 5 (by omega),by rw[bE];omega,by rw[af,bE];simp;omega,by rw[ho,n6 (by omega)];simp,xJ hx,ov74⟩ (by show(r.drop 5).length<r.length;rw[bE];omega)
  SB
  (λ_ s=>ak [2] rfl s)
 refine PS ?_;refine nx J11 (CN (aT (ag (ac J8 (ad ?_)))));have hop:(OpT.mk (jJ (r.getD 0 0)) (kg (r.getD 0 0)) (jJ (r.getD 1 0)) (kg (r.getD 1 0)) (n8 (r.getD 2 0)) ChangeT.zero 0 0 0)=ib (r.getD 0 0) (r.getD 1 0) (r.getD 2 0) (r.getD 3 0) (r.getD 4 0):=by first| (rw[ib,if_pos h38];try rfl)| (rw[ib,if_neg h38,if_pos h56];try rfl)| (rw[ib,if_neg h38,if_neg h56];try rfl)
 refine PS ?_;refine LW 0 fk vf hY ?_;refine aQ (cells:=(ints (OpT.mk (jJ (r.getD 0 0)) (kg (r.getD 0 0)) (jJ (r.getD 1 0)) (kg (r.getD 1 0)) (n8 (r.getD 2 0)) ChangeT.zero 0 0 0).flat).toArray) (aa rfl) rfl rfl rfl Mi Hu rfl rfl rfl (j8 (hY (OpT.mk (jJ (r.getD 0 0)) (kg (r.getD 0 0)) (jJ (r.getD 1 0)) (kg (r.getD 1 0)) (n8 (r.getD 2 0)) ChangeT.zero 0 0 0)) (by simp)) (λb73=>?_);change TL _ _ _ _ _ _ _ _ _ [ah b73 (ints (OpT.mk (jJ (r.getD 0 0)) (kg (r.getD 0 0)) (jJ (r.getD 1 0)) (kg (r.getD 1 0)) (n8 (r.getD 2 0)) ChangeT.zero 0 0 0).flat) 63,ah b4 (ints (OpT.mk (jJ (r.getD 0 0)) (kg (r.getD 0 0)) (jJ (r.getD 1 0)) (kg (r.getD 1 0)) (n8 (r.getD 2 0)) ChangeT.zero 0 0 0).flat) 63,own u (done.length) (ints (List.flatMap OpT.flat done)) 63 11];refine ci (k:=2) (news:=ints (OpT.mk (jJ (r.getD 0 0)) (kg (r.getD 0 0)) (jJ (r.getD 1 0)) (kg (r.getD 1 0)) (n8 (r.getD 2 0)) ChangeT.zero 0 0 0).flat) (nn':=(done++[ib (r.getD 0 0) (r.getD 1 0) (r.getD 2 0) (r.getD 3 0) (r.getD 4 0)]).length) (xs':=ints (List.flatMap OpT.flat (done++[ib (r.getD 0 0) (r.getD 1 0) (r.getD 2 0) (r.getD 3 0) (r.getD 4 0)]))) (aa rfl) rfl rfl rfl Mi Hu rfl rfl rfl rfl rfl rfl (λ_ _=>gS (hY _) (RO 0) (by rw[aV,eI])) (bj _) (by simp only[maxLen];omega) (by omega) (by simp) (by rw[←hop];simp[ints]) (λv74 ov74=>PS ?_);refine aq (ag (ac J6 (ad (PS ?_))))
 refine tp (Gb (yI (k:=5) rfl fB jF (by rw[←hv_b];rfl) rfl (by omega) (by omega) rfl) (congrArg (λq=>vk q 5) hv_b.symm)) ?_;refine PS ?_;refine aq ?_
 exact aJ (((r.drop 5),(vk xv 5),(done++[ib (r.getD 0 0) (r.getD 1 0) (r.getD 2 0) (r.getD 3 0) (r.getD 4 0)]),v74):(List UInt8)×(Value)×(List OpT)×(Value)) ⟨hB.cut 5 (by omega),by rw[bE];omega,by rw[af,bE];simp;omega,by rw[ho,n6 (by omega)];simp,xJ hx,ov74⟩ (by show(r.drop 5).length<r.length;rw[bE];omega)
  SB
  (λ_ s=>ak [2] rfl s)
 refine nx J5 (CN (aY (aC (aC (bo (ac J3 (sr λ_ J12=>P2 ?_)))))));refine nx J12 (ai (WK [0] (av rfl rfl ?_)));obtain rfl:iN bs=done:=by rw[ho,tU (by omega),aP]
 exact⟨u,rfl,rfl⟩
theorem p1(c n:Nat)(a:CL)(h:CLOk n a)(x:Value)(l:List OpT)(hn:n+l.length≤100000)(hok: ∀o∈l,OkOp o):
 DT 21 #[(.pointer (some ⟨c,0,none⟩)),x] (IsL 11 (EF OpT.flat) x l) [gF c a] (RI (.int .i64 ((qk a l:Nat):Int)) [gF c (lD a l)]):=by
 refine BD 22 Tryz.func21 rfl rfl rfl λw0 F hF=>sr λ_ J1=>PS ?_
 refine nx J1 (sr λ_ J2=>PS ?_);refine nx J2 (ab λ_ J3=>sr λ_ J4=>PS ?_);refine tp (dq rfl Mi rfl hF.len) ?_;refine PS ?_;refine nx J4 (au ?_)
 refine bu (α:=(Nat)) (λk=>k≤l.length) (λk=>[(0,(.pointer (some ⟨c,0,none⟩))),(5,(.int .i64 (((qk a (l.take k):Nat):Int)))),(8,x),(9,(.int .i64 (((l.length:Nat):Int)))),(10,(.int .i64 (((k:Nat):Int))))]) (λk=>[gF c (lD a (l.take k))]) (λk=>l.length-k) 0
  (aN _) SB
  (λ_ s=>s) (λk hinv=>?_)
 obtain hk:=hinv;refine sr λ_ J5=>PS ?_
 refine ao ?_ ?_<;>intro h11;obtain⟨b_e,off_e,cap_e,cs_e,T_e,z_e,us_e,hv_e,hc_e,hb_e,hl_e,hs_e,hE_e⟩:=IsL.at hF (j:=k) (by omega);have hkl:k<l.length:=by omega
 obtain⟨o,ho⟩: ∃o,o=l[k]:=⟨_,rfl⟩;replace hE_e:us_e=ints l[k].flat:=hE_e;rw[←ho]at hE_e;have hoo:OkOp o:=ho▸hok _ (cR ..);have hck:CLOk (n+l.length) (lD a (l.take k)):=(Ea (l.take k) h (λo ho=>hok o (en ho))).more (by rw[bk];omega);have hdl:=ou (C0 (l.take k) a) (List.length_take_le k l);refine nx J5 (ab λ_ J6=>CY (qx J6 (ab λ_ J7=>au (sr λ_ J8=>tp (be (r:=off_e+k*11) hv_e rfl Mi vf rfl rfl (by omega) (by omega) (by omega)) ?_))));refine tp (xY (vs:=ints o.flat) rfl fk rfl vf rfl (jl hb_e (λ_ h=>ec h)) (hY _) (hs_e.trans hE_e)) ?_;refine XZ P9 (ints OpT.zero.flat) λb7=>?_
 refine SW 0 vf hY ?_;refine nx J8 (sr λ_ J9=>PS ?_);refine LW 0 fk vf hY ?_;refine CE PG (Jw (c:=c) (a:=lD a (l.take k)) (o:=o) hck (by omega) hoo) (SM [1]) ?_;refine PS ?_;refine ao ?_ ?_<;>intro h17;refine nx J9 (CY (ad (PS ?_)));refine AD ?_;refine PS ?_;refine aq (ag (ac J7 (ad (AD ?_))));refine PS ?_;refine aq ?_
 exact aJ ((k+1):(Nat)) (by omega) (by show l.length- (k+1)<l.length-k;omega)
  (aL (bJ rfl (by rw[xF a l hkl,←ho,if_pos h17];simp) SB))
  (λ_ s=>by rw[y8 a l hkl,←ho];exact ak [0] rfl s)
 refine nx J9 (CN (aT (ag (ac J7 (ad (AD ?_))))));refine PS ?_;refine aq ?_
 exact aJ ((k+1):(Nat)) (by omega) (by show l.length- (k+1)<l.length-k;omega)
  (aL (bJ rfl (by rw[xF a l hkl,←ho,if_neg h17];simp) SB))
  (λ_ s=>by rw[y8 a l hkl,←ho];exact ak [0] rfl s)
 refine nx J5 (ab λ_ J10=>CN (aY (aC (aC (bo (ac J3 (sr λ_ J11=>P2 ?_)))))));refine nx J11 (ai (aF (H':=[gF c (lD a l)]) (dd _) (λ_ s=>by rw[show k=l.length by omega,eI]at s;exact s) (av rfl rfl ?_)));exact⟨by rw[show k=l.length by omega,eI],rfl⟩
theorem vF(bs:List UInt8): ∀o∈iN bs,OkOp o:=λo ho=>by
 obtain⟨k,hk,rfl⟩:=fe ho;have w:=Ky bs hk;exact⟨⟨λn hn=>w n (by simp only[OpT.flat,bN,cG];simp only[hn,true_or,or_true])⟩,by have:=(yS (w _ (by simp[OpT.flat]:(iN bs)[k].n∈_))).2;omega⟩
theorem Fu(l:List OpT)(h: ∀o∈l,OkOp o)(hl:l.length≤100000):TOk l.length (lD .new l):=⟨(Ea l new_ok h).more (by omega),FC l new_ok Er KL h (by omega)⟩
theorem Ce{bs:List UInt8}(h:bs.length≤4000):(iN bs).length≤800:=by rw[IN bs.length bs rfl];omega
theorem nE(x:Value)(bs:List UInt8)(hb:bs.length≤4000):
 DT 23 #[x] (λF=>IsB x bs F∧TabR F) [] (RI (mp (mg (lD .new (iN bs)))) []):=by
 refine BD 11 Tryz.func23 rfl rfl rfl λw0 F hF=>?_
 have hol:=Ce hb;refine sr λ_ J1=>PS ?_
 refine nx J1 (sr λ_ J2=>CR NU (zh) ID λvR HR hR=>?_);obtain⟨c,rfl,rfl⟩:=hR;refine PS ?_;refine nx J2 (sr λ_ J3=>P2 ?_);refine CQ NL (p8 x bs (by omega)) ID (λ_ d _=>IsB.more hF.1 d) λvR HR hR=>?_
 obtain⟨_,rfl,rfl⟩:=hR;revert vR;intro u;refine CF NS (p1 c 0 .new new_ok u (iN bs) (by omega) (vF bs)) (SM [1]) (FY OpT.flat_length 0 rfl rfl) ?_;refine nx J3 (sr λ_ J4=>PS ?_);refine CF NW (pS c (lD .new (iN bs)) (iN bs).length (Fu (iN bs) (vF bs) (by omega)) (by omega)) ID (λ_ d _=>gO hF.2 d) ?_;refine PS ?_;exact nx J4 (ai (WK [] (av rfl rfl ⟨rfl,rfl⟩)))
theorem Cx{n:Int}(h:0≤n∧n<10):Lib.itoa n=KV n:=by
 obtain⟨m,rfl⟩:=Int.eq_ofNat_of_zero_le h.1;rw[Lib.itoa_nonneg,Lib.decDigits_one (by omega)];rfl
theorem ze: ∀{l:List Int},(∀n∈l,0≤n∧n<10)→mV l=IR l
 | [],_=>rfl
 |n::l,h=>by
  show 32::Lib.itoa n++mV l=32::KV n++IR l;rw[Cx (h n (ez ..)),ze λm hm=>h m (gJ _ hm)]
def D3(l:List Int):Bool:=l.all λn=>decide (0≤n∧n<10)
theorem F8{p:Nat→Bool}{n:Nat}(h:(List.range n).all p=true)(i:Nat)(hi:i<n):p i=true:=List.all_eq_true.1 h i (dX.2 hi)
theorem Gy{l:List Int}(h:D3 l=true): ∀n∈l,0≤n∧n<10:=λn hn=>of_decide_eq_true (List.all_eq_true.1 h n hn)
theorem zj{ws:List UInt8}{l:List Int}(h:D3 l=true):oe ws l=FV ws l:=by unfold oe FV;rw[ze (Gy h)]
def FO(i:Nat):Bool:=match(CL.new.at' i).run with
 |some s=>(CL.new.at' i).up&&(CL.new.at' i).reps.isEmpty&&decide (DL s=[1,0,0,1,2])
 |none=>false
theorem Cm:((List.range 5).all FO)=true:=by decide+kernel
theorem Es:((List.range 4).all λk=>decide (yv CL.new k=[((k:Nat):Int),0,0,0,0,0,0]))=true:=by decide+kernel
def Ma(i:Nat):List UInt8:=FV (mW++KV ((i:Nat):Int)++[32,117,112]) [1,0,0,1,2]
def Oy(k:Nat):List UInt8:=FV cW [((k:Nat):Int),0,0,0,0,0,0]
theorem qc{i:Nat}(hi:i<5):mj CL.new i=Ma i:=by
 have h:=F8 Cm i hi;unfold FO at h;cases hr:(CL.new.at' i).run with
 |none=>rw[hr]at h;cases h
 |some s=>
  rw[hr]at h;simp only[ax,decide_eq_true_eq]at h;rw[xc hr h.1.1,List.isEmpty_iff.1 h.1.2,show fU []=[]from rfl,aP,vd,h.2,Cx (by omega),zj (by decide)];rfl
theorem vG{k:Nat}(hk:k<4):E9 CL.new k=Oy k:=by
 have h:=of_decide_eq_true (F8 Es k hk);rw[E9,h,zj (by unfold D3;simp;omega)];rfl
theorem Fv:mg (lD .new (iN []))=(List.range 5).flatMap Ma++(List.range 4).flatMap Oy:=by
 show jI CL.new 5++pi CL.new 4=_;unfold jI pi;simp only[cV,List.range_zero,re,cS,List.flatMap_nil,bI,aP];rw[qc (i:=0) (by decide),qc (i:=1) (by decide),qc (i:=2) (by decide),qc (i:=3) (by decide),qc (i:=4) (by decide),vG (k:=0) (by decide),vG (k:=1) (by decide),vG (k:=2) (by decide),vG (k:=3) (by decide)]
theorem Bt:(mg (lD .new (iN []))).length=203:=by rw[Fv];decide+kernel
theorem Ig:(mg (lD .new (iN []))).take 24=[109,97,99,104,105,110,101,32,48,32,117,112,32,49,32,48,32,48,32,49,32,50,10,109]:=by rw[Fv];decide+kernel
theorem ER:
 DT 7 #[] (TabR) [] (RI (.bool true) []):=by
 refine BD 14 Tryz.func7 rfl rfl rfl λw0 F hF=>sr λ_ J1=>PS ?_
 refine nx J1 (sr λ_ J2=>CF MP (nE (.slice none 0 0) [] (by decide)) ID (λ_ d _=>⟨Or.inl ⟨rfl,rfl⟩,gO hF d⟩) ?_);refine PS ?_;refine nx J2 (sr λ_ J3=>PS ?_);refine tp (Gb (PV.strLen rfl Y9 rfl) (by rw[Bt])) ?_;refine P3 ?_;refine tq (PV.strTo (hi:=24) rfl Y9 rfl rfl rfl (by rw[Bt];decide)) ?_;refine tq (PV.strEql (a:=(mg (lD .new (iN []))).take 24) (b:=[109,97,99,104,105,110,101,32,48,32,117,112,32,49,32,48,32,48,32,49,32,50,10,109]) rfl rfl rfl) ?_;refine ao ?_ ?_<;>intro h9;refine P2 ?_;refine CR IV (jQ 0) ID λvR HR hR=>?_
 obtain⟨hv,rfl⟩:=hR;rw[show H3 0=true by decide]at hv;subst hv;refine P2 ?_;exact nx J3 (ai (WK [] (av rfl rfl ⟨rfl,rfl⟩)))
 · exact absurd Ig h9
theorem tellRuns_does(x:Value)(bs:List UInt8):
 DT 4 #[x] (λF=>IsB x bs F∧TabR F) [] (RI (.bool true) []):=by
 refine BD 27 Tryz.func4 rfl rfl rfl λw0 F hF=>sr λ_ J1=>PS ?_
 refine nx J1 (ab λ_ J2=>sr λ_ J3=>CF Qe (ER) ID (λ_ d _=>gO hF.2 d) ?_);refine PS ?_;refine nx J3 (CN (qx J2 (ab λ_ J4=>sr λ_ J5=>PS ?_)));refine tp (dq rfl fB rfl hF.1.len) ?_;refine PS ?_;refine ao ?_ ?_<;>intro h9;refine nx J5 (CY (sr λ_ J6=>PS ?_));refine nx J6 (ai (ae (WK [] (av rfl rfl ?_))));exact⟨by simp,rfl⟩;have hol:=Ce (bs:=bs) (by omega);refine nx J5 (CN (qx J4 (sr λ_ J7=>CR NU (zh) ID λvR HR hR=>?_)));obtain⟨c,rfl,rfl⟩:=hR;refine PS ?_;refine nx J7 (sr λ_ J8=>P2 ?_);refine CQ NL (p8 x bs (by omega)) ID (λ_ d _=>IsB.more hF.1 d) λvR HR hR=>?_
 obtain⟨_,rfl,rfl⟩:=hR;revert vR;intro u;refine CF NS (p1 c 0 .new new_ok u (iN bs) (by omega) (vF bs)) (SM [1]) (FY OpT.flat_length 0 rfl rfl) ?_;refine nx J8 (sr λ_ J9=>PS ?_);refine CF MP (nE x bs (by omega)) ID (λ_ d _=>⟨IsB.more hF.1 d,gO hF.2 d⟩) ?_;refine PS ?_;refine nx J9 (sr λ_ J10=>P2 ?_);refine CF NW (pS c (lD .new (iN bs)) (iN bs).length (Fu (iN bs) (vF bs) (by omega)) (by omega)) ID (λ_ d _=>gO hF.2 d) ?_;refine tp (PV.strEql (a:=mg (lD .new (iN bs))) (b:=mg (lD .new (iN bs))) rfl rfl rfl) ?_;refine ao ?_ ?_<;>intro h20;refine P3 ?_;refine CF MP (nE x bs (by omega)) ID (λ_ d _=>⟨IsB.more hF.1 d,gO hF.2 d⟩) ?_;refine tq (PV.strEql (a:=mg (lD .new (iN bs))) (b:=mg (lD .new (iN bs))) rfl rfl rfl) ?_;refine P2 ?_;refine nx J10 (ai (WK [] (av rfl rfl ?_)));exact⟨by simp,rfl⟩
 · exact absurd rfl h20
theorem Mp:(Rows.laid_internal_strconv_uint64pow10:DataW Unit)=Lib.tabData .u64 Lib.pow10Tab:=by kernel_rfl
theorem tabL{W:World}(hL:laidMetH Tryz.prog Rows.tellRunsRow.laid W):TabR (hp W):=by
 have hL := (laidMetH_iff.1 hL).1;have h2 : laidMet Tryz.prog [("internal/strconv.uint64pow10", Rows.laid_internal_strconv_uint64pow10)] W := laidMet.tail (laidMet.tail hL);rw [Mp] at h2;exact TabR.of (Lib.tabIs_of_head (g := 0) (by kernel_rfl) (by kernel_rfl) Tryz.underlying260 Lk (by kernel_rfl) (by kernel_rfl) h2)
end Go.Proofs.YtfocodjhmkokpaaGreatDoor
end
