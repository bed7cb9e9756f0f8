/-
  Joined texts:what a statement's proof reaches.
-/
import Derived.Test.YtfocodjhmkokpaaGreatDoorPTC7
set_option maxHeartbeats 8000000
set_option maxRecDepth 100000
set_option linter.unusedSimpArgs false
set_option linter.unusedVariables false
section
namespace Go.Proofs.YtfocodjhmkokpaaGreatDoor
open Go Leg Codec Api Dsk Wal
theorem C0(c n i:Nat)(D M P:Nat→Value)(hi:i<5)(to' k:Int)(o:OpT)(hv:dM ((i:Nat):Int) to'=false)(bs:List Nat):
 DT 46 #[(.pointer (some ⟨c,0,none⟩)),(.agg (ints (OpT.mk k ((i:Nat):Int) to' o.key o.n o.change o.mask o.torn o.cut).flat).toArray)] T0 [ak c (eV n D M P) 73,ak n (fx bs) 135] (RI (.int .i64 5) [ak c (eV n D M P) 73,ak n (fx bs) 135]):=by
 refine BD 91 Tryz.func46 rfl rfl rfl λw0 F hF=>sr λ_ J1=>XY (ints (OpT.mk k ((i:Nat):Int) to' o.key o.n o.change o.mask o.torn o.cut).flat) λb3=>?_
 refine PS ?_;refine nx J1 (aa λ_ J2=>D2 0 1 dx ?_);refine PD 0 ?_;refine PD 1 ?_;refine FD 2 0 qp C7 ?_;refine LX 3 Md (.pointer (some ⟨n,0,none⟩)) ?_ (hc:=by exact ET n D M P);refine FD 4 1 gk aR ?_;refine LX 5 Y3 (.int .i64 (((i:Nat):Int))) ?_ (hc:=by exact bR _ rfl);refine FD 6 2 gk aR ?_;refine LX 7 Y3 (.int .i64 (to')) ?_ (hc:=by exact jf _ rfl);refine AL 8 ?_;refine CR F3 (nz n bs ((i:Nat):Int) to') (SM [2]) λvR HR hR=>?_
 obtain⟨hw,rfl⟩:=hR;obtain⟨_,rfl⟩:dM ((i:Nat):Int) to'=false∧vR= .pointer none:=hw.resolve_left (λq=>by rw[hv]at q;cases q.1);refine EN (PD 9 ?_);refine DN (ae J2 (aa λ_ J3=>sr λ_ J4=>PS ?_));refine tp (pk rfl Cz rfl rfl) ?_;refine nx J4 (CY (sr λ_ J5=>PS ?_));exact nx J5 (aj (ag (WK [2,0] (aw rfl rfl ⟨rfl,rfl⟩))))
theorem qy{n i j:Nat}{bs:List Nat}{W:List (List MsgT)}{l:List MsgT}{H:List HP}{h:Hl}(hv:dM ((i:Nat):Int) ((j:Nat):Int)=true)(hW:W.length=25)(q:bH (iK 184 5 (bs.getD (bB ((i:Nat):Int) ((j:Nat):Int)) 0) (List.map (kZ (bB ((i:Nat):Int) ((j:Nat):Int))) l)::gS 184 5 bs (dq W) (bB ((i:Nat):Int) ((j:Nat):Int))::ak n (fx bs) 135::H) h):bH (eR 135 184 5 n (dq (W.set (bB ((i:Nat):Int) ((j:Nat):Int)) l))::H) h:=by
 have q2:=uN hv (qz W) q;rw[xe W (iY hv).1 hW]at q2;exact bv (p:=λbs:List Nat=>[ak n (fx bs) 135,gh 184 5 bs (dq (W.set (bB ((i:Nat):Int) ((j:Nat):Int)) l))]) bs (eA (List.Perm.swap _ _ _) q2)
theorem Bj(c n i:Nat)(D M P:Nat→Value)(hi:i<5)(j:Nat)(hj:j<5)(hv:dM ((i:Nat):Int) ((j:Nat):Int)=true)(W:List (List MsgT))(hW:W.length=25)(l:List MsgT)(hl:W.getD (bB ((i:Nat):Int) ((j:Nat):Int)) []=l)(h8:l.length≤8)(hlen: ∀m∈l,0< (dy m).length)(o:OpT)(k:Int)(hn:l=[])(bs:List Nat):
 DT 46 #[(.pointer (some ⟨c,0,none⟩)),(.agg (ints (OpT.mk k ((i:Nat):Int) ((j:Nat):Int) o.key o.n o.change o.mask o.torn o.cut).flat).toArray)] T0 [ak n (fx bs) 135,gh 184 5 bs (dq W),ak c (eV n D M P) 73] (RI (.int .i64 10) [ak c (eV n D M P) 73,eR 135 184 5 n (dq (W.set (bB ((i:Nat):Int) ((j:Nat):Int)) l))]):=by
 refine BD 91 Tryz.func46 rfl rfl rfl λw0 F hF=>sr λ_ J1=>XY (ints (OpT.mk k ((i:Nat):Int) ((j:Nat):Int) o.key o.n o.change o.mask o.torn o.cut).flat) λb3=>?_
 refine PS ?_;refine nx J1 (aa λ_ J2=>D2 0 3 dx ?_);refine PD 0 ?_;refine PD 1 ?_;refine FD 2 0 qp C7 ?_;refine LX 3 Md (.pointer (some ⟨n,0,none⟩)) ?_ (hc:=by exact ET n D M P);refine FD 4 1 gk aR ?_;refine LX 5 Y3 (.int .i64 (((i:Nat):Int))) ?_ (hc:=by exact bR _ rfl);refine FD 6 2 gk aR ?_;refine LX 7 Y3 (.int .i64 (((j:Nat):Int))) ?_ (hc:=by exact jf _ rfl);refine AL 8 ?_;refine CR F3 (nz n bs ((i:Nat):Int) ((j:Nat):Int)) (SM [1]) λvR HR hR=>?_
 obtain⟨hw,rfl⟩:=hR;obtain⟨_,rfl⟩:dM ((i:Nat):Int) ((j:Nat):Int)=true∧vR= .pointer (some ⟨(bs.getD (bB ((i:Nat):Int) ((j:Nat):Int)) 0),0,none⟩):=hw.resolve_right (λq=>by rw[hv]at q;cases q.1);refine EN (PD 9 ?_);refine DN (ae J2 (aa λ_ J3=>sr λ_ J4=>PS ?_));refine tp (iW rfl Cz rfl rfl) ?_;refine nx J4 (CN (qx J3 (aa λ_ J5=>sr λ_ J6=>cz (H':=[iK 184 5 (bs.getD (bB ((i:Nat):Int) ((j:Nat):Int)) 0) (List.map (kZ (bB ((i:Nat):Int) ((j:Nat):Int))) l),gS 184 5 bs (dq W) (bB ((i:Nat):Int) ((j:Nat):Int)),ak n (fx bs) 135,ak b3 (ints (OpT.mk k ((i:Nat):Int) ((j:Nat):Int) o.key o.n o.change o.mask o.torn o.cut).flat) 63,ak c (eV n D M P) 73]) (λ_ q=>hl▸rD W (iY hv).1▸oN hv (aD [2] rfl q)) (PS ?_))));refine CE F2 (kU (bs.getD (bB ((i:Nat):Int) ((j:Nat):Int)) 0) (List.map (kZ (bB ((i:Nat):Int) ((j:Nat):Int))) l)) ID ?_;rw[bQ];refine PS ?_;refine aq ?_ ?_<;>intro h23;refine nx J6 (CY (sr λ_ J7=>PS ?_));exact nx J7 (aj (ag (aF (H':=[ak c (eV n D M P) 73,eR 135 184 5 n (dq (W.set (bB ((i:Nat):Int) ((j:Nat):Int)) l))]) (dH _) (λ_ q=>eA (List.Perm.swap _ _ _) (qy (bs:=bs) hv hW (an [0,0,0,1] rfl q))) (aw rfl rfl ⟨rfl,rfl⟩))))
 · exact absurd (by rw[hn];rfl) h23
theorem ze(c n i:Nat)(D M P:Nat→Value)(hi:i<5)(j:Nat)(hj:j<5)(hv:dM ((i:Nat):Int) ((j:Nat):Int)=true)(W:List (List MsgT))(hW:W.length=25)(l:List MsgT)(hl:W.getD (bB ((i:Nat):Int) ((j:Nat):Int)) []=l)(h8:l.length≤8)(hlen: ∀m∈l,0< (dy m).length)(o:OpT)(hn:l≠[])(bs:List Nat):
    DT 46 #[(.pointer (some ⟨c,0,none⟩)),(.agg (ints (OpT.mk 7 ((i:Nat):Int) ((j:Nat):Int) o.key o.n o.change o.mask o.torn o.cut).flat).toArray)] T0 [ak n (fx bs) 135,gh 184 5 bs (dq W),ak c (eV n D M P) 73] (RI (.int .i64 (if JU l then 0 else 3)) [ak c (eV n D M P) 73,eR 135 184 5 n (dq (W.set (bB ((i:Nat):Int) ((j:Nat):Int)) (FB l)))]):=by
 refine BD 91 Tryz.func46 rfl rfl rfl λw0 F hF=>sr λ_ J1=>XY (ints (OpT.mk 7 ((i:Nat):Int) ((j:Nat):Int) o.key o.n o.change o.mask o.torn o.cut).flat) λb3=>?_
 refine PS ?_;refine nx J1 (aa λ_ J2=>D2 0 3 dx ?_);refine PD 0 ?_;refine PD 1 ?_;refine FD 2 0 qp C7 ?_;refine LX 3 Md (.pointer (some ⟨n,0,none⟩)) ?_ (hc:=by exact ET n D M P);refine FD 4 1 gk aR ?_;refine LX 5 Y3 (.int .i64 (((i:Nat):Int))) ?_ (hc:=by exact bR _ rfl);refine FD 6 2 gk aR ?_;refine LX 7 Y3 (.int .i64 (((j:Nat):Int))) ?_ (hc:=by exact jf _ rfl);refine AL 8 ?_;refine CR F3 (nz n bs ((i:Nat):Int) ((j:Nat):Int)) (SM [1]) λvR HR hR=>?_
 obtain⟨hw,rfl⟩:=hR;obtain⟨_,rfl⟩:dM ((i:Nat):Int) ((j:Nat):Int)=true∧vR= .pointer (some ⟨(bs.getD (bB ((i:Nat):Int) ((j:Nat):Int)) 0),0,none⟩):=hw.resolve_right (λq=>by rw[hv]at q;cases q.1);refine EN (PD 9 ?_);refine DN (ae J2 (aa λ_ J3=>sr λ_ J4=>PS ?_));refine tp (iW rfl Cz rfl rfl) ?_;refine nx J4 (CN (qx J3 (aa λ_ J5=>sr λ_ J6=>cz (H':=[iK 184 5 (bs.getD (bB ((i:Nat):Int) ((j:Nat):Int)) 0) (List.map (kZ (bB ((i:Nat):Int) ((j:Nat):Int))) l),gS 184 5 bs (dq W) (bB ((i:Nat):Int) ((j:Nat):Int)),ak n (fx bs) 135,ak b3 (ints (OpT.mk 7 ((i:Nat):Int) ((j:Nat):Int) o.key o.n o.change o.mask o.torn o.cut).flat) 63,ak c (eV n D M P) 73]) (λ_ q=>hl▸rD W (iY hv).1▸oN hv (aD [2] rfl q)) (PS ?_))));refine CE F2 (kU (bs.getD (bB ((i:Nat):Int) ((j:Nat):Int)) 0) (List.map (kZ (bB ((i:Nat):Int) ((j:Nat):Int))) l)) ID ?_;rw[bQ];refine PS ?_;refine aq ?_ ?_<;>intro h23
 · exact absurd (List.eq_nil_of_length_eq_zero (by omega)) hn
 refine nx J6 (CN (qx J5 (aa λ_ J7=>sr λ_ J8=>FA 0 gk aR ?_)));refine LT 3 Y3 (.int .i64 7) ?_ (hc:=by exact dm _ rfl);refine PS ?_;refine nx J8 (CY (aa λ_ J9=>sr λ_ J10=>PS ?_))
 refine lG (ab rfl) rfl rfl rfl Rs rfl (zC (bs.getD (bB ((i:Nat):Int) ((j:Nat):Int)) 0) (List.map (kZ (bB ((i:Nat):Int) ((j:Nat):Int))) l) (by rw[bQ];exact h8) (λx hx=>by
        obtain⟨m,_,rfl⟩:=eH.1 hx
        exact xd _ m)) (λ_ s=>s) (λ_ _ _=>trivial) (λvR HR hR=>?_)
 obtain⟨rfl,rfl⟩:=hR;rw[Mm,Ml];refine bh ?_ ?_<;>intro h28;refine PS ?_;refine nx J10 (CN (qx J9 (sr λ_ J11=>PS ?_)));refine nx J11 (aj (ag (aF (H':=[ak c (eV n D M P) 73,eR 135 184 5 n (dq (W.set (bB ((i:Nat):Int) ((j:Nat):Int)) (FB l)))]) (dH _) (λ_ q=>eA (List.Perm.swap _ _ _) (qy (bs:=bs) hv hW (an [0,0,0,1] rfl q))) (aw rfl rfl ?_))));exact⟨by rw[h28];rfl,rfl⟩;refine PS ?_;refine nx J10 (CY (sr λ_ J12=>PS ?_));refine nx J12 (aj (ag (ag (aF (H':=[ak c (eV n D M P) 73,eR 135 184 5 n (dq (W.set (bB ((i:Nat):Int) ((j:Nat):Int)) (FB l)))]) (dH _) (λ_ q=>eA (List.Perm.swap _ _ _) (qy (bs:=bs) hv hW (an [0,0,0,1] rfl q))) (aw rfl rfl ?_)))));exact⟨by rw[h28];rfl,rfl⟩
theorem G3{i j:Nat}{W:List (List MsgT)}{m:MsgT}{l2:List MsgT}(hv:dM ((i:Nat):Int) ((j:Nat):Int)=true)(hW:W.length=25):(dq (W.set (bB ((i:Nat):Int) ((j:Nat):Int)) (m::l2))).getD (bB ((i:Nat):Int) ((j:Nat):Int)) []=jR ((i:Nat):Int) ((j:Nat):Int) (dy m)::List.map (kZ (bB ((i:Nat):Int) ((j:Nat):Int))) l2:=by
 rw[rD _ (iY hv).1,List.getD_eq_getElem?_getD,List.getElem?_set_self (by rw[hW];exact(iY hv).1),←CV (tC hv).1 (tC hv).2];rfl
theorem C6{i j:Nat}{W:List (List MsgT)}{m:MsgT}{l2:List MsgT}(hv:dM ((i:Nat):Int) ((j:Nat):Int)=true)(hW:W.length=25):(dq (W.set (bB ((i:Nat):Int) ((j:Nat):Int)) (m::l2))).set (bB ((i:Nat):Int) ((j:Nat):Int)) (List.map (kZ (bB ((i:Nat):Int) ((j:Nat):Int))) l2)=dq (W.set (bB ((i:Nat):Int) ((j:Nat):Int)) l2):=by
 rw[xe _ (iY hv).1 (by rw[cK];exact hW),fk]
theorem tr(c n i:Nat)(D M P:Nat→Value)(hi:i<5)(j:Nat)(hj:j<5)(hv:dM ((i:Nat):Int) ((j:Nat):Int)=true)(W:List (List MsgT))(hW:W.length=25)(l:List MsgT)(hl:W.getD (bB ((i:Nat):Int) ((j:Nat):Int)) []=l)(h8:l.length≤8)(hlen: ∀m∈l,0< (dy m).length)(o:OpT)(m:MsgT)(l2:List MsgT)(ht:lT (max o.n 0% ((l.length:Nat):Int)).toNat l=m::l2)(bs:List Nat)(q:Int)(hk5:q=5∨q=6)(hk:q=6∨M j= .pointer none):
    DT 46 #[(.pointer (some ⟨c,0,none⟩)),(.agg (ints (OpT.mk q ((i:Nat):Int) ((j:Nat):Int) o.key o.n o.change o.mask o.torn o.cut).flat).toArray)] T0 [ak n (fx bs) 135,gh 184 5 bs (dq W),ak c (eV n D M P) 73] (RI (.int .i64 0) [ak c (eV n D M P) 73,eR 135 184 5 n (dq (W.set (bB ((i:Nat):Int) ((j:Nat):Int)) l2))]):=by
 refine BD 91 Tryz.func46 rfl rfl rfl λw0 F hF=>?_
 have hln:0<l.length:=by
     have:=kH (max o.n 0% ((l.length:Nat):Int)).toNat l;rw[ht]at this;rw[←this];exact Nat.succ_pos _
 have hm0:0< (dy m).length:=hlen m ((pq (max o.n 0% ((l.length:Nat):Int)).toNat l).1 (ht▸cn ..));have hrl:(max o.n 0% ((l.length:Nat):Int))< ((l.length:Nat):Int):=JI _ (by omega);refine sr λ_ J1=>XY (ints (OpT.mk q ((i:Nat):Int) ((j:Nat):Int) o.key o.n o.change o.mask o.torn o.cut).flat) λb3=>?_
 refine PS ?_;refine nx J1 (aa λ_ J2=>D2 0 3 dx ?_);refine PD 0 ?_;refine PD 1 ?_;refine FD 2 0 qp C7 ?_;refine LX 3 Md (.pointer (some ⟨n,0,none⟩)) ?_ (hc:=by exact ET n D M P);refine FD 4 1 gk aR ?_;refine LX 5 Y3 (.int .i64 (((i:Nat):Int))) ?_ (hc:=by exact bR _ rfl);refine FD 6 2 gk aR ?_;refine LX 7 Y3 (.int .i64 (((j:Nat):Int))) ?_ (hc:=by exact jf _ rfl);refine AL 8 ?_;refine CR F3 (nz n bs ((i:Nat):Int) ((j:Nat):Int)) (SM [1]) λvR HR hR=>?_
 obtain⟨hw,rfl⟩:=hR;obtain⟨_,rfl⟩:dM ((i:Nat):Int) ((j:Nat):Int)=true∧vR= .pointer (some ⟨(bs.getD (bB ((i:Nat):Int) ((j:Nat):Int)) 0),0,none⟩):=hw.resolve_right (λq=>by rw[hv]at q;cases q.1);refine EN (PD 9 ?_);refine DN (ae J2 (aa λ_ J3=>sr λ_ J4=>PS ?_));refine tp (iW rfl Cz rfl rfl) ?_;refine nx J4 (CN (qx J3 (aa λ_ J5=>sr λ_ J6=>cz (H':=[iK 184 5 (bs.getD (bB ((i:Nat):Int) ((j:Nat):Int)) 0) (List.map (kZ (bB ((i:Nat):Int) ((j:Nat):Int))) l),gS 184 5 bs (dq W) (bB ((i:Nat):Int) ((j:Nat):Int)),ak n (fx bs) 135,ak b3 (ints (OpT.mk q ((i:Nat):Int) ((j:Nat):Int) o.key o.n o.change o.mask o.torn o.cut).flat) 63,ak c (eV n D M P) 73]) (λ_ q=>hl▸rD W (iY hv).1▸oN hv (aD [2] rfl q)) (PS ?_))));refine CE F2 (kU (bs.getD (bB ((i:Nat):Int) ((j:Nat):Int)) 0) (List.map (kZ (bB ((i:Nat):Int) ((j:Nat):Int))) l)) ID ?_;rw[bQ];refine PS ?_;refine aq ?_ ?_<;>intro h23
 · exact absurd h23 (by omega)
 refine nx J6 (CN (qx J5 (aa λ_ J7=>sr λ_ J8=>FA 0 gk aR ?_)));refine LT 3 Y3 (.int .i64 (q)) ?_ (hc:=by exact dm _ rfl);refine PS ?_;refine aq ?_ ?_<;>intro h26
 · exact absurd h26 (by omega)
 refine nx J8 (CN (qx J7 (aa λ_ J9=>aa λ_ J10=>D1 3 dx ?_)));refine FD 0 4 gk aR ?_;refine LX 1 Y3 (.int .i64 (o.n)) ?_ (hc:=by exact y7 _ rfl);refine ta 2 rfl (zR rfl rfl rfl) ?_;refine PD 3 ?_;refine PD 6 ?_;refine AL 4 ?_;refine CE F2 (kU (bs.getD (bB ((i:Nat):Int) ((j:Nat):Int)) 0) (List.map (kZ (bB ((i:Nat):Int) ((j:Nat):Int))) l)) ID ?_;rw[bQ];refine EN (ta 5 rfl (St (r:=(max o.n 0% ((l.length:Nat):Int))) rfl rfl rfl (by omega) (uI (by omega))) ?_);refine DN (ae J10 (av ?_))
 refine bz (α:=(Nat)) (λk=>((k:Nat):Int)≤(max o.n 0% ((l.length:Nat):Int))) (λk=>[(0,(.pointer (some ⟨c,0,none⟩))),(3,(.pointer (some ⟨b3,0,none⟩))),(4,(.int .i64 0)),(5,(.pointer (some ⟨(bs.getD (bB ((i:Nat):Int) ((j:Nat):Int)) 0),0,none⟩))),(35,(.int .i64 ((max o.n 0% ((l.length:Nat):Int))))),(36,(.int .i64 (((k:Nat):Int))))]) (λk=>[iK 184 5 (bs.getD (bB ((i:Nat):Int) ((j:Nat):Int)) 0) (List.map (kZ (bB ((i:Nat):Int) ((j:Nat):Int))) (lT k l)),gS 184 5 bs (dq W) (bB ((i:Nat):Int) ((j:Nat):Int)),ak n (fx bs) 135,ak b3 (ints (OpT.mk q ((i:Nat):Int) ((j:Nat):Int) o.key o.n o.change o.mask o.torn o.cut).flat) 63,ak c (eV n D M P) 73]) (λk=>(max o.n 0% ((l.length:Nat):Int)).toNat-k) 0
     (Be _ (by omega)) SB
     (λ_ s=>aD [0,0,0,0,0] rfl s) (λk hinv=>?_)
 obtain hk:=hinv;refine sr λ_ J11=>PS ?_
 refine aq ?_ ?_<;>intro h37;refine nx J11 (aa λ_ J12=>CY (qx J12 (aa λ_ J13=>av (af (PS ?_)))))
 refine lG (ab rfl) rfl rfl rfl Pu rfl (uC (bs.getD (bB ((i:Nat):Int) ((j:Nat):Int)) 0) (List.map (kZ (bB ((i:Nat):Int) ((j:Nat):Int))) (lT k l)) (by rw[bQ,kH];exact h8) (λx hx=>by
        obtain⟨m,_,rfl⟩:=eH.1 hx
        exact xd _ m)) (λ_ s=>s) (λ_ _ _=>trivial) (λvR HR hR=>?_)
 obtain rfl:=hR;rw[Ad];refine ax (ai (ae J13 (af (AD ?_))));refine PS ?_;refine ax ?_
 exact aM ((k+1):(Nat)) (by omega) (by show(max o.n 0% ((l.length:Nat):Int)).toNat- (k+1)< (max o.n 0% ((l.length:Nat):Int)).toNat-k;omega)
   SB
   (λ_ s=>aD [0,0,0,0,0] rfl s)
 have hkr:k=(max o.n 0% ((l.length:Nat):Int)).toNat:=by omega
 refine cz (H':=[iK 184 5 (bs.getD (bB ((i:Nat):Int) ((j:Nat):Int)) 0) (List.map (kZ (bB ((i:Nat):Int) ((j:Nat):Int))) (m::l2)),gS 184 5 bs (dq W) (bB ((i:Nat):Int) ((j:Nat):Int)),ak n (fx bs) 135,ak b3 (ints (OpT.mk q ((i:Nat):Int) ((j:Nat):Int) o.key o.n o.change o.mask o.torn o.cut).flat) 63,ak c (eV n D M P) 73]) (λ_ q=>by rw[hkr,ht]at q;exact q) (nx J11 (aa λ_ J14=>CN (aX (aC (aC (bq (ae J9 (aa λ_ J15=>D2 3 4 dx ?_))))))));refine PD 0 ?_;refine PD 1 ?_;refine FD 2 0 qp C7 ?_;refine LX 3 Md (.pointer (some ⟨n,0,none⟩)) ?_ (hc:=by exact ET n D M P);refine FD 4 1 gk aR ?_;refine LX 5 Y3 (.int .i64 (((i:Nat):Int))) ?_ (hc:=by exact bR _ rfl);refine FD 6 2 gk aR ?_;refine LX 7 Y3 (.int .i64 (((j:Nat):Int))) ?_ (hc:=by exact jf _ rfl);refine AL 8 ?_;refine cz (H':=[eR 135 184 5 n (dq (W.set (bB ((i:Nat):Int) ((j:Nat):Int)) (m::l2))),ak b3 (ints (OpT.mk q ((i:Nat):Int) ((j:Nat):Int) o.key o.n o.change o.mask o.torn o.cut).flat) 63,ak c (eV n D M P) 73]) (λ_ q=>qy (bs:=bs) hv hW (aD [0,0,0] rfl q)) (CR Pt (se n (dq (W.set (bB ((i:Nat):Int) ((j:Nat):Int)) (m::l2))) ((i:Nat):Int) ((j:Nat):Int) (dy m) (List.map (kZ (bB ((i:Nat):Int) ((j:Nat):Int))) l2) hv (qz _) (G3 hv hW) hm0 (by have:=uz m;omega)) ID λvR HR hR=>?_);obtain⟨uv,rfl,rfl⟩:=hR;rw[C6 hv hW];refine EN (PD 9 ?_);refine PD 10 ?_;refine PD 11 ?_;refine PD 12 ?_;refine PD 13 ?_
 refine DN (ae J15 (aa λ_ J16=>sr λ_ J17=>FA 0 gk aR ?_));refine LT 2 Y3 (.int .i64 (q)) ?_ (hc:=by exact dm _ rfl);refine PS ?_;refine aq ?_ ?_<;>intro h55;refine PS ?_;refine UT ?_;refine UT ?_;refine P2 ?_
 iterate 5 refine UT ?_
 refine PS ?_;refine nx J17 (CY (sr λ_ J18=>PS ?_));exact nx J18 (aj (ag (WK [3,0] (aw rfl rfl ⟨rfl,rfl⟩))));refine P2 ?_;refine PS ?_;refine P3 ?_;refine FA 2 gk aR ?_;refine LT 2 Y3 (.int .i64 (((j:Nat):Int))) ?_ (hc:=by exact jf _ rfl);refine CE DZ (tE c n j D M P hj (hk.resolve_left h55)) (SM [3]) ?_;refine PS ?_;refine PS ?_;refine nx J17 (CY (sr λ_ J19=>PS ?_));exact nx J19 (aj (ag (WK [0,0] (aw rfl rfl ⟨rfl,rfl⟩))))
theorem Bk(c n i:Nat)(D M P:Nat→Value)(hi:i<5)(j:Nat)(hj:j<5)(hv:dM ((i:Nat):Int) ((j:Nat):Int)=true)(W:List (List MsgT))(hW:W.length=25)(l:List MsgT)(hl:W.getD (bB ((i:Nat):Int) ((j:Nat):Int)) []=l)(h8:l.length≤8)(hlen: ∀m∈l,0< (dy m).length)(o:OpT)(m:MsgT)(l2:List MsgT)(ht:lT (max o.n 0% ((l.length:Nat):Int)).toNat l=m::l2)(bs:List Nat)(d r:Nat)(s:MS LD)(hD:D j= .pointer (some ⟨d,0,none⟩))(hM:M j= .pointer (some ⟨r,0,none⟩))(ho:s.o=[])(hs:OkR KD s)(hto:((i:Nat):Int)≠s.id)(hrs:s.replies.length≤1000000):
    DT 46 #[(.pointer (some ⟨c,0,none⟩)),(.agg (ints (OpT.mk 5 ((i:Nat):Int) ((j:Nat):Int) o.key o.n o.change o.mask o.torn o.cut).flat).toArray)] T0 [ak n (fx bs) 135,gh 184 5 bs (dq W),ak c (eV n D M P) 73,dk d s.e.D,fc s d r] (dA (λv H=>(s.e.D.dn=true∧v= .int .i64 0∧H=[ak c (eV n D M P) 73,dk d s.e.D,eR 135 184 5 n (dq ((W.set (bB ((i:Nat):Int) ((j:Nat):Int)) l2))),fc s d r])∨(s.e.D.dn=false∧(js (dy m)).2≠0∧v= .int .i64 (js (dy m)).2∧H=[ak c (eV n D M P) 73,dk d s.e.D,eR 135 184 5 n (dq ((W.set (bB ((i:Nat):Int) ((j:Nat):Int)) l2))),fc s d r])∨(s.e.D.dn=false∧(js (dy m)).2=0∧v= .int .i64 0∧H=[ak c (eV n D M P) 73,dk d (fS KD s ((i:Nat):Int) (js (dy m)).1).hush.e.D,eR 135 184 5 n (dq (gJ (W.set (bB ((i:Nat):Int) ((j:Nat):Int)) l2) j (fS KD s ((i:Nat):Int) (js (dy m)).1).o)),fc (fS KD s ((i:Nat):Int) (js (dy m)).1).hush d r]))):=by
 refine BD 91 Tryz.func46 rfl rfl rfl λw0 F hF=>?_
 have hln:0<l.length:=by
     have:=kH (max o.n 0% ((l.length:Nat):Int)).toNat l;rw[ht]at this;rw[←this];exact Nat.succ_pos _
 have hm0:0< (dy m).length:=hlen m ((pq (max o.n 0% ((l.length:Nat):Int)).toNat l).1 (ht▸cn ..));have hrl:(max o.n 0% ((l.length:Nat):Int))< ((l.length:Nat):Int):=JI _ (by omega);refine sr λ_ J1=>XY (ints (OpT.mk 5 ((i:Nat):Int) ((j:Nat):Int) o.key o.n o.change o.mask o.torn o.cut).flat) λb3=>?_
 refine PS ?_;refine nx J1 (aa λ_ J2=>D2 0 3 dx ?_);refine PD 0 ?_;refine PD 1 ?_;refine FD 2 0 qp C7 ?_;refine LX 3 Md (.pointer (some ⟨n,0,none⟩)) ?_ (hc:=by exact ET n D M P);refine FD 4 1 gk aR ?_;refine LX 5 Y3 (.int .i64 (((i:Nat):Int))) ?_ (hc:=by exact bR _ rfl);refine FD 6 2 gk aR ?_;refine LX 7 Y3 (.int .i64 (((j:Nat):Int))) ?_ (hc:=by exact jf _ rfl);refine AL 8 ?_;refine CR F3 (nz n bs ((i:Nat):Int) ((j:Nat):Int)) (SM [1]) λvR HR hR=>?_
 obtain⟨hw,rfl⟩:=hR;obtain⟨_,rfl⟩:dM ((i:Nat):Int) ((j:Nat):Int)=true∧vR= .pointer (some ⟨(bs.getD (bB ((i:Nat):Int) ((j:Nat):Int)) 0),0,none⟩):=hw.resolve_right (λq=>by rw[hv]at q;cases q.1);refine EN (PD 9 ?_);refine DN (ae J2 (aa λ_ J3=>sr λ_ J4=>PS ?_));refine tp (iW rfl Cz rfl rfl) ?_;refine nx J4 (CN (qx J3 (aa λ_ J5=>sr λ_ J6=>cz (H':=[iK 184 5 (bs.getD (bB ((i:Nat):Int) ((j:Nat):Int)) 0) (List.map (kZ (bB ((i:Nat):Int) ((j:Nat):Int))) l),gS 184 5 bs (dq W) (bB ((i:Nat):Int) ((j:Nat):Int)),ak n (fx bs) 135,ak b3 (ints (OpT.mk 5 ((i:Nat):Int) ((j:Nat):Int) o.key o.n o.change o.mask o.torn o.cut).flat) 63,ak c (eV n D M P) 73,dk d s.e.D,fc s d r]) (λ_ q=>hl▸rD W (iY hv).1▸oN hv (aD [2] rfl q)) (PS ?_))));refine CE F2 (kU (bs.getD (bB ((i:Nat):Int) ((j:Nat):Int)) 0) (List.map (kZ (bB ((i:Nat):Int) ((j:Nat):Int))) l)) ID ?_;rw[bQ];refine PS ?_;refine aq ?_ ?_<;>intro h23
 · exact absurd h23 (by omega)
 refine nx J6 (CN (qx J5 (aa λ_ J7=>sr λ_ J8=>FA 0 gk aR ?_)));refine LT 3 Y3 (.int .i64 5) ?_ (hc:=by exact dm _ rfl);refine PS ?_;refine nx J8 (CN (qx J7 (aa λ_ J9=>aa λ_ J10=>D1 3 dx ?_)));refine FD 0 4 gk aR ?_;refine LX 1 Y3 (.int .i64 (o.n)) ?_ (hc:=by exact y7 _ rfl);refine ta 2 rfl (zR rfl rfl rfl) ?_;refine PD 3 ?_;refine PD 6 ?_;refine AL 4 ?_;refine CE F2 (kU (bs.getD (bB ((i:Nat):Int) ((j:Nat):Int)) 0) (List.map (kZ (bB ((i:Nat):Int) ((j:Nat):Int))) l)) ID ?_;rw[bQ];refine EN (ta 5 rfl (St (r:=(max o.n 0% ((l.length:Nat):Int))) rfl rfl rfl (by omega) (uI (by omega))) ?_);refine DN (ae J10 (av ?_))
 refine bz (α:=(Nat)) (λk=>((k:Nat):Int)≤(max o.n 0% ((l.length:Nat):Int))) (λk=>[(0,(.pointer (some ⟨c,0,none⟩))),(3,(.pointer (some ⟨b3,0,none⟩))),(4,(.int .i64 0)),(5,(.pointer (some ⟨(bs.getD (bB ((i:Nat):Int) ((j:Nat):Int)) 0),0,none⟩))),(35,(.int .i64 ((max o.n 0% ((l.length:Nat):Int))))),(36,(.int .i64 (((k:Nat):Int))))]) (λk=>[iK 184 5 (bs.getD (bB ((i:Nat):Int) ((j:Nat):Int)) 0) (List.map (kZ (bB ((i:Nat):Int) ((j:Nat):Int))) (lT k l)),gS 184 5 bs (dq W) (bB ((i:Nat):Int) ((j:Nat):Int)),ak n (fx bs) 135,ak b3 (ints (OpT.mk 5 ((i:Nat):Int) ((j:Nat):Int) o.key o.n o.change o.mask o.torn o.cut).flat) 63,ak c (eV n D M P) 73,dk d s.e.D,fc s d r]) (λk=>(max o.n 0% ((l.length:Nat):Int)).toNat-k) 0
     (Be _ (by omega)) SB
     (λ_ s=>aD [0,0,0,0,0,0,0] rfl s) (λk hinv=>?_)
 obtain hk:=hinv;refine sr λ_ J11=>PS ?_
 refine aq ?_ ?_<;>intro h37;refine nx J11 (aa λ_ J12=>CY (qx J12 (aa λ_ J13=>av (af (PS ?_)))))
 refine lG (ab rfl) rfl rfl rfl Pu rfl (uC (bs.getD (bB ((i:Nat):Int) ((j:Nat):Int)) 0) (List.map (kZ (bB ((i:Nat):Int) ((j:Nat):Int))) (lT k l)) (by rw[bQ,kH];exact h8) (λx hx=>by
        obtain⟨m,_,rfl⟩:=eH.1 hx
        exact xd _ m)) (λ_ s=>s) (λ_ _ _=>trivial) (λvR HR hR=>?_)
 obtain rfl:=hR;rw[Ad];refine ax (ai (ae J13 (af (AD ?_))));refine PS ?_;refine ax ?_
 exact aM ((k+1):(Nat)) (by omega) (by show(max o.n 0% ((l.length:Nat):Int)).toNat- (k+1)< (max o.n 0% ((l.length:Nat):Int)).toNat-k;omega)
   SB
   (λ_ s=>aD [0,0,0,0,0,0,0] rfl s)
 have hkr:k=(max o.n 0% ((l.length:Nat):Int)).toNat:=by omega
 refine cz (H':=[iK 184 5 (bs.getD (bB ((i:Nat):Int) ((j:Nat):Int)) 0) (List.map (kZ (bB ((i:Nat):Int) ((j:Nat):Int))) (m::l2)),gS 184 5 bs (dq W) (bB ((i:Nat):Int) ((j:Nat):Int)),ak n (fx bs) 135,ak b3 (ints (OpT.mk 5 ((i:Nat):Int) ((j:Nat):Int) o.key o.n o.change o.mask o.torn o.cut).flat) 63,ak c (eV n D M P) 73,dk d s.e.D,fc s d r]) (λ_ q=>by rw[hkr,ht]at q;exact q) (nx J11 (aa λ_ J14=>CN (aX (aC (aC (bq (ae J9 (aa λ_ J15=>D2 3 4 dx ?_))))))));refine PD 0 ?_;refine PD 1 ?_;refine FD 2 0 qp C7 ?_;refine LX 3 Md (.pointer (some ⟨n,0,none⟩)) ?_ (hc:=by exact ET n D M P);refine FD 4 1 gk aR ?_;refine LX 5 Y3 (.int .i64 (((i:Nat):Int))) ?_ (hc:=by exact bR _ rfl);refine FD 6 2 gk aR ?_;refine LX 7 Y3 (.int .i64 (((j:Nat):Int))) ?_ (hc:=by exact jf _ rfl);refine AL 8 ?_;refine cz (H':=[eR 135 184 5 n (dq (W.set (bB ((i:Nat):Int) ((j:Nat):Int)) (m::l2))),ak b3 (ints (OpT.mk 5 ((i:Nat):Int) ((j:Nat):Int) o.key o.n o.change o.mask o.torn o.cut).flat) 63,ak c (eV n D M P) 73,dk d s.e.D,fc s d r]) (λ_ q=>qy (bs:=bs) hv hW (aD [0,0,0] rfl q)) (CR Pt (se n (dq (W.set (bB ((i:Nat):Int) ((j:Nat):Int)) (m::l2))) ((i:Nat):Int) ((j:Nat):Int) (dy m) (List.map (kZ (bB ((i:Nat):Int) ((j:Nat):Int))) l2) hv (qz _) (G3 hv hW) hm0 (by have:=uz m;omega)) ID λvR HR hR=>?_);obtain⟨uv,rfl,rfl⟩:=hR;rw[C6 hv hW];refine EN (PD 9 ?_);refine PD 10 ?_
 refine PD 11 ?_;refine PD 12 ?_;refine PD 13 ?_;refine DN (ae J15 (aa λ_ J16=>sr λ_ J17=>FA 0 gk aR ?_));refine LT 2 Y3 (.int .i64 5) ?_ (hc:=by exact dm _ rfl);refine P3 ?_;refine PS ?_;refine P3 ?_;refine FA 2 gk aR ?_;refine LT 2 Y3 (.int .i64 (((j:Nat):Int))) ?_ (hc:=by exact jf _ rfl);refine CE DZ (tD c n j D M P hj d r s.e.D hD hM) (SM [3,3]) ?_;refine bh ?_ ?_<;>intro h64;refine PS ?_;refine PS ?_;refine nx J17 (CN (qx J16 (sr λ_ J18=>PS ?_)));refine CF Rr (EL uv (dy m)) ID (B9 3 rfl rfl) ?_;refine P3 ?_;refine XZ mZ (ints MsgT.zero.flat) λb8=>?_
 refine SW 0 cp aJ ?_;refine PS ?_;refine nx J18 (aa λ_ J19=>sr λ_ J20=>P2 ?_);refine aq ?_ ?_<;>intro h73;refine nx J20 (CY (s8 (λw=>Frm F w∧w.heap[b3]?=some (.cells (ints (OpT.mk 5 ((i:Nat):Int) ((j:Nat):Int) o.key o.n o.change o.mask o.torn o.cut).flat).toArray 63 (0,0))∧w.heap[c]?=some (.cells (eV n D M P).toArray 73 (0,0))∧w.heap[b8]?=some (.cells (ints ((js (dy m)).1).flat).toArray 163 (0,0))∧True) dx rfl (λ_ s=>⟨fm s,s.block 5 (lb rfl) rfl,s.block 1 (lb rfl) rfl,s.block 0 (lb rfl) rfl,trivial⟩) (PD 0 ?_)));refine FD 1 2 gk aR ?_;refine LX 2 Y3 (.int .i64 (((j:Nat):Int))) ?_ (hc:=by exact jf _ rfl);refine PD 3 ?_;refine FD 4 6 qp p9 ?_;refine IY 5 (6+j) wE kI ?_;refine LX 6 uG (.pointer (some ⟨r,0,none⟩)) ?_ (hc:=by exact(yR n D M P hj).trans (congrArg some hM));refine PD 7 ?_;refine FD 8 2 gk aR ?_;refine LX 9 Y3 (.int .i64 (((j:Nat):Int))) ?_ (hc:=by exact jf _ rfl);refine ta 10 rfl (kA (cells:=#[(.pointer (some ⟨c,0,none⟩)),(.int .i64 (((j:Nat):Int)))]) rfl rfl (by as_aux_lemma=>kernel_rfl)) ?_;refine ta 11 rfl (qi rfl GT rfl rfl) ?_;refine FD 12 1 gk aR ?_;refine LX 13 Y3 (.int .i64 (((i:Nat):Int))) ?_ (hc:=by exact bR _ rfl);refine LY 14 bj cp aJ ?_;refine AL 15 ?_
 refine cz (H':=[cU (yI c n d j D M P hj hD (W.set (bB ((i:Nat):Int) ((j:Nat):Int)) l2) (by rw[cK];exact hW)) r s,ak b8 (ints ((js (dy m)).1).flat) 163,hX uv (dy m) 5,ak b3 (ints (OpT.mk 5 ((i:Nat):Int) ((j:Nat):Int) o.key o.n o.change o.mask o.torn o.cut).flat) 63]) (λ_ q=>F6 ho (aD [1,1,1,3] rfl q)) (CZ Pr (@Bu _ (yI c n d j D M P hj hD (W.set (bB ((i:Nat):Int) ((j:Nat):Int)) l2) (by rw[cK];exact hW)) r s ((i:Nat):Int) (js (dy m)).1 hs (Cj _) hto hrs) ID λvR=>?_);change TL _ _ _ _ _ _ _ _ _ [cU (yI c n d j D M P hj hD (W.set (bB ((i:Nat):Int) ((j:Nat):Int)) l2) (by rw[cK];exact hW)) r (fS KD s ((i:Nat):Int) (js (dy m)).1),ak b8 (ints ((js (dy m)).1).flat) 163,hX uv (dy m) 5,ak b3 (ints (OpT.mk 5 ((i:Nat):Int) ((j:Nat):Int) o.key o.n o.change o.mask o.torn o.cut).flat) 63];refine cz (H':=[ak c (eV n D M P) 73,dk d ((fS KD s ((i:Nat):Int) (js (dy m)).1).e.D),eR 135 184 5 n (dq (gJ (W.set (bB ((i:Nat):Int) ((j:Nat):Int)) l2) j (fS KD s ((i:Nat):Int) (js (dy m)).1).o)),fc ((fS KD s ((i:Nat):Int) (js (dy m)).1).hush) d r,ak b8 (ints ((js (dy m)).1).flat) 163,hX uv (dy m) 5,ak b3 (ints (OpT.mk 5 ((i:Nat):Int) ((j:Nat):Int) o.key o.n o.change o.mask o.torn o.cut).flat) 63]) (λ_ q=>B2 (s:=(fS KD s ((i:Nat):Int) (js (dy m)).1)) q) (EN (DN (ae J19 (sr λ_ J21=>P2 ?_))));refine nx J21 (aj (WK [0,0,0,0] (aw rfl rfl ?_)))
 exact .inr (.inr ⟨(by simpa using h64),h73,(by rw[h73]),rfl⟩);refine nx J20 (CN (qx J19 (sr λ_ J22=>P2 ?_)));refine nx J22 (aj (WK [1,1,1,3] (aw rfl rfl ?_)));exact .inr (.inl ⟨(by simpa using h64),h73,rfl,rfl⟩);refine PS ?_;refine PS ?_;refine nx J17 (CY (sr λ_ J23=>PS ?_));refine nx J23 (aj (ag (WK [0,0,0,2] (aw rfl rfl ?_))));exact .inl ⟨(by simpa using h64),rfl,rfl⟩
theorem va{f:Nat→HP}{k i:Nat}(hi:i<k){H:List HP}{h:Hl}(s:bH (bH ((List.range k).map f)::H) h):bH (f i::bH (((List.range k).map f).eraseIdx i)::H) h:=by
 have s1:bH ((List.range k).map f++H) h:=(ci _ _).2 s;have e:((List.range k).map f).getD i (λ_=>True)=f i:=by simp[List.getD_eq_getElem?_getD,hi]
 have p:=nK (λ_=>True) ((List.range k).map f) i (by simpa using hi);rw[e]at p;exact cM (eA (p.append_right H) s1) (λ_ a=>a) λ_ b=>(ci _ _).1 b
theorem u9{f g:Nat→HP}{k i:Nat}(hi:i<k)(hg: ∀j,j≠i→g j=f j){H:List HP}{h:Hl}(s:bH (g i::bH (((List.range k).map f).eraseIdx i)::H) h):bH (bH ((List.range k).map g)::H) h:=by
 have e0:((List.range k).map g).eraseIdx i=((List.range k).map f).eraseIdx i:=by
  refine List.ext_getElem? λj=>?_
  rw[List.getElem?_eraseIdx,List.getElem?_eraseIdx]
  have: ∀m,m≠i→((List.range k).map g)[m]?=((List.range k).map f)[m]?:=λm hm=>by
   rw[List.getElem?_map,List.getElem?_map]
   by_cases hk:m<k
   · simp[hk,hg m hm]
   · simp[hk]
  split
  · exact this j (by omega)
  · exact this (j+1) (by omega)
 have e:((List.range k).map g).getD i (λ_=>True)=g i:=by simp[List.getD_eq_getElem?_getD,hi]
 have p:=nK (λ_=>True) ((List.range k).map g) i (by simpa using hi);rw[e,e0]at p;have s2:bH ((g i::((List.range k).map f).eraseIdx i)++H) h:=cM s (λ_ a=>a) λ_ b=>(ci _ _).2 b
 exact(ci _ _).1 (eA (p.symm.append_right H) s2)
section
variable {f:FuncId} {args:Array Value} {Q:Value→Prop} {c i:Nat} {a a':CL}
theorem Cm(hi:i<5){Z:Value→CL→Prop}(hne: ∀v a',Z v a'→∀j,j≠i→a'.at' j=a.at' j)
 (core: ∀g:CX,DT f args T0 (ak c (eV g.n (ng g) (kr a g.r) g.p) 73::eR 135 184 5 g.n (dq a.W)::kP (a.at' i) (g.d i) (g.r i) (g.p i))
  (dA λv H=>∃a',Z v a'∧∃g':CX,g'.n=g.n∧(∀j,j≠i→g'.d j=g.d j∧g'.r j=g.r j∧g'.p j=g.p j)∧H=ak c (eV g.n (ng g') (kr a' g'.r) g'.p) 73::eR 135 184 5 g.n (dq a'.W)::kP (a'.at' i) (g'.d i) (g'.r i) (g'.p i))):
 DT f args T0 [gU c a] (dA λv H=>∃a',Z v a'∧H=[gU c a']):=by
 refine Leg.Does.ex (A':=λg:CX=>(ak c (eV g.n (ng g) (kr a g.r) g.p) 73::eR 135 184 5 g.n (dq a.W)::kP (a.at' i) (g.d i) (g.r i) (g.p i))++[bH (((List.range 5).map λi=>mf (a.at' i) (g.d i) (g.r i) (g.p i)).eraseIdx i)]) (λh s=>?_) λg=>?_
 · obtain⟨g,s⟩:=fK s
   have s2:=va (f:=λi=>mf (a.at' i) (g.d i) (g.r i) (g.p i)) hi (aD [2,0,0] rfl s);have s3:=(ci (kP (a.at' i) (g.d i) (g.r i) (g.p i)) _).2 s2;exact⟨g,aD [4,4,0,0,0,0] rfl s3⟩
 · refine Leg.Does.withinR (core g) (λ_ _ _ _=>trivial) (λh s=>s) λv H hp=>?_
   obtain⟨a',hz,g',hn,hg,rfl⟩:=hp;refine⟨[gU c a'],λh s=>?_,a',hz,rfl⟩;have s1:=aD [2,2,2,2,0,0] rfl s;have s2:=(ci (kP (a'.at' i) (g'.d i) (g'.r i) (g'.p i)) _).1 s1
   have s3:=u9 (f:=λi=>mf (a.at' i) (g.d i) (g.r i) (g.p i)) (g:=λi=>mf (a'.at' i) (g'.d i) (g'.r i) (g'.p i)) hi (λj hj=>by
    obtain⟨h1,h2,h3⟩:=hg j hj
    rw[hne v a' hz j hj,h1,h2,h3]) s2
   refine bv (p:=sq c a') g' ?_;rw[←hn]at s3;exact aD [1,1,0] rfl s3
theorem yo(hne: ∀j,j≠i→a'.at' j=a.at' j)(r:Nat→Nat)(hi:zr (a'.at' i) (r i)=zr (a.at' i) (r i)):kr a' r=kr a r:=funext λj=>by
 by_cases q:j=i
 · subst q;exact hi
 · show zr (a'.at' j) (r j)=zr (a.at' j) (r j)
   rw[hne j q]
theorem GE(hl:a.ms.length=5)(hi:i<5){s:MS LD}(hs:(a.at' i).run=some s){R:Value→MS LD→List (List MsgT)→Prop}
 (core: ∀g:CX,kr a g.r i= .pointer (some ⟨g.r i,0,none⟩)→DT f args T0 [ak c (eV g.n (ng g) (kr a g.r) g.p) 73,dk (g.d i) s.e.D,eR 135 184 5 g.n (dq a.W),fc s (g.d i) (g.r i)]
  (dA λv H=>∃s' W',R v s' W'∧H=[ak c (eV g.n (ng g) (kr a g.r) g.p) 73,dk (g.d i) s'.e.D,eR 135 184 5 g.n (dq W'),fc s' (g.d i) (g.r i)])):
 DT f args T0 [gU c a] (dA λv H=>∃a',(∃s' W',R v s' W'∧a'=⟨a.ms.set i {a.at' i with run:=some s'},W'⟩)∧H=[gU c a']):=by
 refine Cm hi (λv a' hz j hj=>?_) λg=>?_
 · obtain⟨s',W',_,rfl⟩:=hz
   exact sv hj
 · have em:kr a g.r i= .pointer (some ⟨g.r i,0,none⟩):=by show zr (a.at' i) _=_;unfold zr;rw[hs]
   have e1:qQ (a.at' i) (g.d i) (g.r i)=fc s (g.d i) (g.r i):=by unfold qQ;rw[hs]
   have e2:(a.at' i).dk=s.e.D:=by unfold Slot.dk;rw[hs]
   refine Leg.Does.withinR (B:=[lx (g.p i) (a.at' i).past]) (core g em) (λ_ _ _ _=>trivial) (λh q=>?_) λv H hp=>?_
   · unfold kP at q
     rw[e1,e2]at q;exact aD [0,1,0,1,0] rfl q
   · obtain⟨s',W',hR,rfl⟩:=hp
     have ea:(CL.mk (a.ms.set i {a.at' i with run:=some s'}) W').at' i= {a.at' i with run:=some s'}:=rl (by rw[hl];exact hi);have hm:kr ⟨a.ms.set i {a.at' i with run:=some s'},W'⟩ g.r=kr a g.r:=yo (λj hj=>sv hj) g.r (by rw[ea];unfold zr;rw[hs]);refine⟨_,λh q=>?_,_,⟨s',W',hR,rfl⟩,g,rfl,λ_ _=>⟨rfl,rfl,rfl⟩,rfl⟩;rw[hm,ea];exact aD [0,1,0,1,0] rfl q
theorem Cl(core: ∀g:CX,DT f args T0 [ak c (eV g.n (ng g) (kr a g.r) g.p) 73] (dA λv H=>Q v∧H=[ak c (eV g.n (ng g) (kr a g.r) g.p) 73])):
 DT f args T0 [gU c a] (dA λv H=>Q v∧H=[gU c a]):=by
 refine Leg.Does.ex (A':=λg:CX=>[ak c (eV g.n (ng g) (kr a g.r) g.p) 73]++[eR 135 184 5 g.n (dq a.W),bH ((List.range 5).map λi=>mf (a.at' i) (g.d i) (g.r i) (g.p i))]) (λh s=>fK s) λg=>?_
 refine Leg.Does.withinR (core g) (λ_ _ _ _=>trivial) (λh s=>s) λv H hp=>?_
 obtain⟨hQ,rfl⟩:=hp;exact⟨[gU c a],λh s=>bv (p:=sq c a) g s,hQ,rfl⟩
theorem Ly{R:Value→List (List MsgT)→Prop}(core: ∀g:CX,DT f args T0 [ak c (eV g.n (ng g) (kr a g.r) g.p) 73,eR 135 184 5 g.n (dq a.W)] (dA λv H=>∃W',R v W'∧H=[ak c (eV g.n (ng g) (kr a g.r) g.p) 73,eR 135 184 5 g.n (dq W')])):
 DT f args T0 [gU c a] (dA λv H=>∃W',R v W'∧H=[gU c ⟨a.ms,W'⟩]):=by
 refine Leg.Does.ex (A':=λg:CX=>[ak c (eV g.n (ng g) (kr a g.r) g.p) 73,eR 135 184 5 g.n (dq a.W)]++[bH ((List.range 5).map λi=>mf (a.at' i) (g.d i) (g.r i) (g.p i))]) (λh s=>fK s) λg=>?_
 refine Leg.Does.withinR (core g) (λ_ _ _ _=>trivial) (λh s=>s) λv H hp=>?_
 obtain⟨W',hR,rfl⟩:=hp;exact⟨[gU c ⟨a.ms,W'⟩],λh s=>bv (p:=sq c ⟨a.ms,W'⟩) g s,W',hR,rfl⟩
theorem M6(hl:a.ms.length=5)(hi:i<5){x:Slot}(hm: ∀r,zr x r=zr (a.at' i) r)(hr: ∀d r,qQ x d r=qQ (a.at' i) d r)(hp:x.past=(a.at' i).past)
 (core: ∀g:CX,DT f args T0 [ak c (eV g.n (ng g) (kr a g.r) g.p) 73,dk (g.d i) (a.at' i).dk] (dA λv H=>Q v∧H=[ak c (eV g.n (ng g) (kr a g.r) g.p) 73,dk (g.d i) x.dk])):
 DT f args T0 [gU c a] (dA λv H=>∃a',(Q v∧a'=a.set i x)∧H=[gU c a']):=by
 have ea:(a.set i x).at' i=x:=rl (by rw[hl];exact hi);refine Cm hi (λv a' hz j hj=>by rw[hz.2];exact sv hj) λg=>?_
 refine Leg.Does.withinR (B:=[eR 135 184 5 g.n (dq a.W),lx (g.p i) (a.at' i).past,qQ (a.at' i) (g.d i) (g.r i)]) (core g) (λ_ _ _ _=>trivial) (λh q=>aD [0,1,0,0,0] rfl q) λv H hq=>?_
 obtain⟨hQ,rfl⟩:=hq;have hmm:kr (a.set i x) g.r=kr a g.r:=yo (λj hj=>sv hj) g.r (by rw[show(CL.mk (a.ms.set i x) a.W).at' i=x from ea];exact hm _);refine⟨_,λh q=>?_,_,⟨hQ,rfl⟩,g,rfl,λ_ _=>⟨rfl,rfl,rfl⟩,rfl⟩;rw[hmm,ea];unfold kP;rw[hp,hr];exact aD [0,1,0,0,0] rfl q
end
theorem lW{f:FuncId}{args:Array Value}{R:Hl→Prop}{A:List HP}{p q:Value→List HP→Prop}(d:DT f args R A (dA p))(k: ∀v H,p v H→q v H):DT f args R A (dA q):=
 Leg.Does.fold d λe H hp=>by
  cases e with
  |returned v=>exact⟨H,λ_ s=>s,k v H hp⟩
  |panicked c=>exact hp.elim
  |outgrown=>exact hp.elim
theorem qL{H:List HP}{h:Hl}(s:bH H h):bH ((λ_=>True)::H) h:=⟨em,h,Fm h,(sj h).symm,trivial,s⟩
theorem xw{α:Type}{l:List α}{k:Nat}{d:α}(h:k<l.length):l.set k (l.getD k d)=l:=by
 refine List.ext_getElem? λj=>?_
 by_cases q:j=k
 · subst q;rw[List.getElem?_set_self h,List.getD_eq_getElem?_getD,List.getElem?_eq_getElem h];rfl
 · rw[List.getElem?_set_ne (λe=>q e.symm)]
section
variable {n c i:Nat} {a:CL} {o:OpT}
theorem Dv(h:CLOk n a)(hi:i<5):a.set i (a.at' i)=a:=by
 show CL.mk (a.ms.set i (a.ms.getD i .nil)) a.W=a;rw[xw (by rw[h.ms];exact hi)]
theorem xL(h:CLOk n a)(hi:i<5){s:MS LD}(hs:(a.at' i).run=some s):(CL.mk (a.ms.set i {a.at' i with run:=some s}) a.W)=a:=by
 have e:({a.at' i with run:=some s}:Slot)=a.at' i:=by cases q:a.at' i with|mk r D p=>rw[q]at hs;simp only at hs;rw[hs]
 rw[e];exact Dv h hi
theorem pF{k:Int}(hk:o.kind=k)(hi:o.at'=((i:Nat):Int)):OpT.mk k ((i:Nat):Int) o.to' o.key o.n o.change o.mask o.torn o.cut=o:=by subst hk;rw[←hi]
theorem ub{k:Int}{j:Nat}(hk:o.kind=k)(hi:o.at'=((i:Nat):Int))(hj:o.to'=((j:Nat):Int)):OpT.mk k ((i:Nat):Int) ((j:Nat):Int) o.key o.n o.change o.mask o.torn o.cut=o:=by subst hk;rw[←hi,←hj]
theorem ul{g:CX}{s:MS LD}(hs:(a.at' i).run=some s):kr a g.r i= .pointer (some ⟨g.r i,0,none⟩):=by show zr (a.at' i) _=_;unfold zr;rw[hs]
theorem nQ{g:CX}(hs:(a.at' i).run=none):kr a g.r i= .pointer none:=by show zr (a.at' i) _=_;unfold zr;rw[hs]
theorem Hp{a':CL}{r r':Nat→Nat}{v:Value}(hne: ∀j,j≠i→a'.at' j=a.at' j)(hr: ∀j,j≠i→r' j=r j)(hv:zr (a'.at' i) (r' i)=v):kr a' r'=lJ (kr a r) i v:=funext λj=>by
 by_cases q:j=i
 · subst q;rw[jF];exact hv
 · rw[nC _ _ q]
   show zr (a'.at' j) (r' j)=zr (a.at' j) (r j);rw[hne j q,hr j q]
theorem LH(h:CLOk n a)(hn:n≤100000)(hi:i<5)(hat:o.at'=((i:Nat):Int))(hk:0≤o.kind∧o.kind≤4)(ho:OkOp o):DT 25 #[.pointer (some ⟨c,0,none⟩), .agg (ints o.flat).toArray] T0 [gU c a] (dA λv H=>v= .int .i64 (yQ a i o).2∧H=[gU c (yQ a i o).1]):=by
 have eo:=pF (o:=o) rfl hat;cases hr:(a.at' i).run with
 |none=>
  refine lW (Cl (Q:=λv=>v= .int .i64 4) λg=>?_) λv H hp=>?_
  · have:=EI c g.n i (ng g) (kr a g.r) g.p hi (nQ hr) o o.kind hk
    rw[eo]at this;exact this
  · unfold yQ;rw[hr];exact hp
 |some s=>
  obtain⟨hs,_,hso⟩:=(h.at' i hi).run s hr;have hrep:=(h.at' i hi).reps;unfold Slot.reps at hrep;rw[hr,ac]at hrep;simp only at hrep;refine lW (GE h.ms hi hr (R:=λv s' W'=>(s.e.D.dn=true∧v= .int .i64 4∧s'=s∧W'=a.W)∨(s.e.D.dn=false∧v= .int .i64 (bL KD s o).2∧s'=(bL KD s o).1.hush∧W'=gJ a.W i (bL KD s o).1.o)) λg em=>?_) λv H hp=>?_
  · have:=Gz c g.n i (ng g) (kr a g.r) g.p hi (g.d i) (g.r i) s rfl em a.W h.W hso hs o o.kind hk ho.change (by omega)
    rw[eo]at this;refine lW this λv H hp=>?_
    rcases hp with⟨hd,rfl,rfl⟩| ⟨hd,rfl,rfl⟩
    · exact⟨s,a.W, .inl ⟨hd,rfl,rfl,rfl⟩,rfl⟩
    · exact⟨_,_, .inr ⟨hd,rfl,rfl,rfl⟩,rfl⟩
  · obtain⟨a',⟨s',W',hR,rfl⟩,rfl⟩:=hp
    unfold yQ;rw[hr];rcases hR with⟨hd,rfl,rfl,rfl⟩| ⟨hd,rfl,rfl,rfl⟩
    · simp only[hd,if_true];exact⟨by first|rfl|trivial,by rw[xL h hi hr]⟩
    · simp only[hd];exact⟨rfl,rfl⟩
theorem JZ(h:CLOk n a)(hi:i<5)(hat:o.at'=((i:Nat):Int))(hk:o.kind=8):DT 25 #[.pointer (some ⟨c,0,none⟩), .agg (ints o.flat).toArray] T0 [gU c a] (dA λv H=>v= .int .i64 (xj a i).2∧H=[gU c (xj a i).1]):=by
 have eo:=pF (o:=o) hk hat;cases hr:(a.at' i).run with
 |none=>
  refine lW (Cl (Q:=λv=>v= .int .i64 4) λg=>?_) λv H hp=>?_
  · have:=EG c g.n i (ng g) (kr a g.r) g.p hi (nQ hr) o
    rw[eo]at this;exact this
  · unfold xj;rw[hr];exact hp
 |some s=>
  obtain⟨hs,_,hso⟩:=(h.at' i hi).run s hr;refine lW (GE h.ms hi hr (R:=λv s' W'=>(s.e.D.dn=true∧v= .int .i64 4∧s'=s∧W'=a.W)∨(s.e.D.dn=false∧v= .int .i64 0∧s'=(gG KD s).hush∧W'=gJ a.W i (gG KD s).o)) λg em=>?_) λv H hp=>?_
  · have:=Gu c g.n i (ng g) (kr a g.r) g.p hi (g.d i) (g.r i) s rfl em a.W h.W hso hs o
    rw[eo]at this;refine lW this λv H hp=>?_
    rcases hp with⟨hd,rfl,rfl⟩| ⟨hd,rfl,rfl⟩
    · exact⟨s,a.W, .inl ⟨hd,rfl,rfl,rfl⟩,rfl⟩
    · exact⟨_,_, .inr ⟨hd,rfl,rfl,rfl⟩,rfl⟩
  · obtain⟨a',⟨s',W',hR,rfl⟩,rfl⟩:=hp
    unfold xj;rw[hr];rcases hR with⟨hd,rfl,rfl,rfl⟩| ⟨hd,rfl,rfl,rfl⟩
    · simp only[hd,if_true];exact⟨by first|rfl|trivial,by rw[xL h hi hr]⟩
    · simp only[hd];exact⟨rfl,rfl⟩
theorem LQ(h:CLOk n a)(hi:i<5)(hat:o.at'=((i:Nat):Int))(hk:o.kind=9):DT 25 #[.pointer (some ⟨c,0,none⟩), .agg (ints o.flat).toArray] T0 [gU c a] (dA λv H=>v= .int .i64 0∧H=[gU c (a.set i (qe (a.at' i) o.n))]):=by
 have eo:=pF (o:=o) hk hat
 have ed:(qe (a.at' i) o.n).dk=(a.at' i).dk.arm o.n:=by
  unfold qe Slot.dk;cases hr:(a.at' i).run with
  |none=>simp only[hr]
  |some s=>rfl
 refine lW (M6 (x:=qe (a.at' i) o.n) (Q:=λv=>v= .int .i64 0) h.ms hi (λr=>?_) (λd r=>?_) ?_ λg=>?_) λv H hp=>?_
 · unfold qe zr
   cases hr:(a.at' i).run with
   |none=>simp only[hr]
   |some s=>rfl
 · unfold qe qQ
   cases hr:(a.at' i).run with
   |none=>simp only[hr]
   |some s=>rfl
 · unfold qe;split<;>rfl
 · have:=GB c g.n i (ng g) (kr a g.r) g.p hi (g.d i) rfl (a.at' i).dk o
   rw[eo]at this;rw[ed];exact this
 · obtain⟨a',⟨rfl,rfl⟩,rfl⟩:=hp
   exact⟨rfl,rfl⟩
theorem GG(h:CLOk n a)(hn:n≤100000)(hi:i<5)(hat:o.at'=((i:Nat):Int))(hk:o.kind=10):DT 25 #[.pointer (some ⟨c,0,none⟩), .agg (ints o.flat).toArray] T0 [gU c a] (dA λv H=>v= .int .i64 0∧H=[gU c (a.set i (oI (a.at' i) o.mask o.torn o.cut))]):=by
 have eo:=pF (o:=o) hk hat;have so:=h.at' i hi;have hrep:=so.reps;unfold Slot.reps at hrep;rw[ac]at hrep;have ea:(a.set i (oI (a.at' i) o.mask o.torn o.cut)).at' i=oI (a.at' i) o.mask o.torn o.cut:=rl (by rw[h.ms];exact hi);have hne: ∀j,j≠i→(a.set i (oI (a.at' i) o.mask o.torn o.cut)).at' j=a.at' j:=λj hj=>sv hj
 refine lW (Cm (Z:=λv a'=>v= .int .i64 0∧a'=a.set i (oI (a.at' i) o.mask o.torn o.cut)) hi (λv a' hz j hj=>by rw[hz.2];exact hne j hj) λg=>?_) λv H hp=>by obtain⟨_,⟨rfl,rfl⟩,rfl⟩:=hp;exact⟨rfl,rfl⟩
 have fin: ∀u,u.oneCell'=true→∀h,bH ([ak c (eV g.n (ng g) (lJ (kr a g.r) i (.pointer none)) (lJ g.p i u)) 73,dk (g.d i) ((a.at' i).dk.crash o.mask o.torn o.cut),lx u (a.at' i).reps]++[eR 135 184 5 g.n (dq a.W)]) h→
  bH (ak c (eV g.n (ng {g with p:=lJ g.p i u}) (kr (a.set i (oI (a.at' i) o.mask o.torn o.cut)) g.r) (lJ g.p i u)) 73::eR 135 184 5 g.n (dq (a.set i (oI (a.at' i) o.mask o.torn o.cut)).W)::kP ((a.set i (oI (a.at' i) o.mask o.torn o.cut)).at' i) (g.d i) (g.r i) (lJ g.p i u i)) h:=λu _ hh q=>by
  rw[Hp (a:=a) (i:=i) (v:= .pointer none) (r:=g.r) hne (λ_ _=>rfl) (by rw[ea];rfl),ea,jF];have q2:=qL (aD [0,2,0,0] rfl q);exact aD [1,1,1,1,0] rfl q2
 cases hr:(a.at' i).run with
 |none=>
  have er:(a.at' i).reps=(a.at' i).past:=by unfold Slot.reps;rw[hr,aL]
  have:=Gy c g.n i (ng g) (kr a g.r) g.p hi (g.d i) rfl (nQ hr) (a.at' i).past (by omega) (a.at' i).dk so.dk.ok o;rw[eo]at this;refine Leg.Does.withinR (B:=[eR 135 184 5 g.n (dq a.W)]) this (λ_ _ _ _=>trivial) (λhh q=>?_) λv H hp=>?_
  · exact an [0,1,1,0] rfl q
  · obtain⟨u,hu,rfl,rfl⟩:=hp
    refine⟨_,λhh q=>fin u hu hh ?_,_,⟨rfl,rfl⟩,{g with p:=lJ g.p i u},rfl,λj hj=>⟨rfl,rfl,nC _ _ hj⟩,rfl⟩;rw[er];exact q
 |some s=>
  rw[hr]at hrep;simp only at hrep;have er:(a.at' i).reps=(a.at' i).past++s.replies:=by unfold Slot.reps;rw[hr]
  have e1:qQ (a.at' i) (g.d i) (g.r i)=fc s (g.d i) (g.r i):=by unfold qQ;rw[hr]
  have:=Gx c g.n i (ng g) (kr a g.r) g.p hi (g.d i) rfl (g.r i) s (ul hr) (a.at' i).past (by omega) (by omega) (a.at' i).dk so.dk.ok o;rw[eo]at this;refine Leg.Does.withinR (B:=[eR 135 184 5 g.n (dq a.W)]) this (λ_ _ _ _=>trivial) (λhh q=>?_) λv H hp=>?_
  · unfold kP at q
    rw[e1]at q;exact aD [0,1,1,1,0] rfl q
  · obtain⟨u,hu,rfl,rfl⟩:=hp
    refine⟨_,λhh q=>fin u hu hh ?_,_,⟨rfl,rfl⟩,{g with p:=lJ g.p i u},rfl,λj hj=>⟨rfl,rfl,nC _ _ hj⟩,rfl⟩;rw[er];exact q
end
section
variable {n c i:Nat} {a:CL} {o:OpT}
theorem Dp{i:Nat}{D:DS}{s:MS LD}(h:(cf i D).1=some s):(cf i D).2=0:=by
 obtain⟨h1,h2⟩:=gB h;unfold cf;rw[if_neg (by rw[h1];decide),h2]
theorem Dq(h:CLOk n a)(hi:i<5)(hat:o.at'=((i:Nat):Int))(hk:o.kind=11):DT 25 #[.pointer (some ⟨c,0,none⟩), .agg (ints o.flat).toArray] T0 [gU c a] (dA λv H=>v= .int .i64 (fq i (a.at' i)).2∧H=[gU c (a.set i (fq i (a.at' i)).1)]):=by
 have eo:=pF (o:=o) hk hat;have so:=h.at' i hi;cases hr:(a.at' i).run with
 |some s=>
  have e:fq i (a.at' i)=(a.at' i,5):=by unfold fq;rw[hr]
  rw[e,show a.set i (a.at' i,(5:Int)).1=a from Dv h hi];refine Cl (Q:=λv=>v= .int .i64 5) λg=>?_
  have:=Gv c g.n i (ng g) (kr a g.r) g.p hi (g.r i) (ul hr) o;rw[eo]at this;exact this
 |none=>
  have e:fq i (a.at' i)=({a.at' i with run:=(cf i (a.at' i).D).1,D:=(bI (a.at' i).D).D},(cf i (a.at' i).D).2):=by unfold fq;rw[hr]
  have hD:=so.D hr;have ed:(a.at' i).dk=(a.at' i).D:=by unfold Slot.dk;rw[hr]
  have e1: ∀d r,qQ (a.at' i) d r= λ_=>True:=λd r=>by unfold qQ;rw[hr]
  have hst: ∀x:Slot,(a.set i x).at' i=x:=λx=>rl (by rw[h.ms];exact hi)
  have hne: ∀x:Slot,∀j,j≠i→(a.set i x).at' j=a.at' j:=λx j hj=>sv hj
  refine lW (Cm (Z:=λv a'=>v= .int .i64 (fq i (a.at' i)).2∧a'=a.set i (fq i (a.at' i)).1) hi (λv a' hz j hj=>by rw[hz.2];exact hne _ j hj) λg=>?_) λv H hp=>by obtain⟨_,⟨rfl,rfl⟩,rfl⟩:=hp;exact⟨rfl,rfl⟩
  have:=Gw c g.n i (ng g) (kr a g.r) g.p hi (g.d i) rfl (nQ hr) (a.at' i).D hD o;rw[eo]at this;refine Leg.Does.withinR (B:=[eR 135 184 5 g.n (dq a.W),lx (g.p i) (a.at' i).past]) this (λ_ _ _ _=>trivial) (λhh q=>?_) λv H hp=>?_
  · unfold kP at q
    rw[ed]at q;exact an [0,1,0,0] rfl q
  · rcases hp with⟨hn,rfl,rfl⟩| ⟨s,r,hn,rfl,rfl⟩
    · refine⟨_,λhh q=>?_,_,⟨by rw[e],rfl⟩,g,rfl,λj hj=>⟨rfl,rfl,rfl⟩,rfl⟩
      rw[hst,e];have em:kr (a.set i {a.at' i with run:=(cf i (a.at' i).D).1,D:=(bI (a.at' i).D).D}) g.r=kr a g.r:=yo (hne _) g.r (by rw[hst];unfold zr;rw[hr];simp only[hn]);rw[em];have q2:=qL (aD [0,1,0,0] rfl q);have q3:=aD [1,1,1,1,0] rfl q2;unfold kP Slot.dk qQ;simp only[hn];exact q3
    · refine⟨_,λhh q=>?_,_,⟨by rw[e];simp only[Dp hn],rfl⟩,{g with r:=lJ g.r i r},rfl,λj hj=>⟨rfl,nC _ _ hj,rfl⟩,rfl⟩
      rw[hst,e];have em:kr (a.set i {a.at' i with run:=(cf i (a.at' i).D).1,D:=(bI (a.at' i).D).D}) (lJ g.r i r)=lJ (kr a g.r) i (.pointer (some ⟨r,0,none⟩)):=Hp (hne _) (λj hj=>nC _ _ hj) (by rw[hst,jF];unfold zr;simp only[hn]);rw[em];have q3:=aD [0,2,1,1,0] rfl q;unfold kP Slot.dk qQ;simp only[hn,jF];exact q3
theorem HV(h:CLOk n a)(hn:n≤100000)(hi:i<5)(hat:o.at'=((i:Nat):Int))(hk:o.kind=5∨o.kind=6∨o.kind=7):DT 46 #[.pointer (some ⟨c,0,none⟩), .agg (ints o.flat).toArray] T0 [gU c a] (dA λv H=>v= .int .i64 (n9 a o).2∧H=[gU c (n9 a o).1]):=by
 cases hv:dM o.at' o.to' with
 |false=>
  have e:n9 a o=(a,5):=by unfold n9;rw[if_pos hv]
  rw[e];have eo:=pF (o:=o) rfl hat;refine lW (Ly (R:=λv W'=>v= .int .i64 5∧W'=a.W) λg=>?_) λv H hp=>by obtain⟨_,⟨rfl,rfl⟩,rfl⟩:=hp;exact⟨rfl,rfl⟩
  refine Leg.Does.ex (A':=λbs:List Nat=>[ak c (eV g.n (ng g) (kr a g.r) g.p) 73,ak g.n (fx bs) 135]++[gh 184 5 bs (dq a.W)]) (λhh q=>?_) λbs=>?_
  · obtain⟨bs,q⟩:=fK (eA (List.Perm.swap _ _ _) q)
    exact⟨bs,aD [2,0,0] rfl q⟩
  · rw[hat]at hv
    have:=C0 c g.n i (ng g) (kr a g.r) g.p hi o.to' o.kind o hv bs;rw[eo]at this;refine Leg.Does.withinR this (λ_ _ _ _=>trivial) (λhh q=>q) λv H hp=>?_
    obtain⟨rfl,rfl⟩:=hp;refine⟨_,λhh q=>?_,a.W,⟨rfl,rfl⟩,rfl⟩;exact eA (List.Perm.swap _ _ _) (bv (p:=λbs:List Nat=>[ak g.n (fx bs) 135,gh 184 5 bs (dq a.W)]) bs (aD [1,1,0] rfl q))
 |true=>
  obtain⟨j,hto⟩: ∃j:Nat,o.to'=((j:Nat):Int):=⟨o.to'.toNat,((jd (tC hv).2).2).symm⟩;have hj:j<5:=by have:=(jd (tC hv).2).1;rw[hto]at this;simpa using this
  have hv2:dM ((i:Nat):Int) ((j:Nat):Int)=true:=by rw[←hat,←hto];exact hv
  have eK:bB o.at' o.to'=bB ((i:Nat):Int) ((j:Nat):Int):=by rw[hat,hto]
  have hij:((i:Nat):Int)≠((j:Nat):Int):=λe=>by
   unfold dM at hv2;rw[decide_eq_true e]at hv2;simp at hv2
  obtain⟨h8,hlen⟩:=h.way (bB ((i:Nat):Int) ((j:Nat):Int));have hkl:bB ((i:Nat):Int) ((j:Nat):Int)<a.W.length:=by rw[h.W];exact(iY hv2).1
  -- the net alone
  have net: ∀{R:Value→List (List MsgT)→Prop},(∀(g:CX) (bs:List Nat),Leg.Does Tryz.prog 46 #[.pointer (some ⟨c,0,none⟩), .agg (ints o.flat).toArray] (λ_=>True) [ak g.n (fx bs) 135,gh 184 5 bs (dq a.W),ak c (eV g.n (ng g) (kr a g.r) g.p) 73] (dA λv H=>∃W',R v W'∧H=[ak c (eV g.n (ng g) (kr a g.r) g.p) 73,eR 135 184 5 g.n (dq W')]))→
   Leg.Does Tryz.prog 46 #[.pointer (some ⟨c,0,none⟩), .agg (ints o.flat).toArray] (λ_=>True) [gU c a] (dA λv H=>∃W',R v W'∧H=[gU c ⟨a.ms,W'⟩]):=λcore=>Ly λg=>Leg.Does.ex (A':=λbs:List Nat=>[ak g.n (fx bs) 135,gh 184 5 bs (dq a.W),ak c (eV g.n (ng g) (kr a g.r) g.p) 73]) (λhh q=>fK (eA (List.Perm.swap _ _ _) q)) (core g)
  cases hl:a.W.getD (bB ((i:Nat):Int) ((j:Nat):Int)) []with
  |nil=>
   have e:n9 a o=(a,10):=by unfold n9;rw[if_neg (by rw[hv];decide),eK,hl]
   rw[e];refine lW (net (R:=λv W'=>v= .int .i64 10∧W'=a.W) λg bs=>?_) λv H hp=>by obtain⟨_,⟨rfl,rfl⟩,rfl⟩:=hp;exact⟨rfl,rfl⟩
   have:=Bj c g.n i (ng g) (kr a g.r) g.p hi j hj hv2 a.W h.W _ rfl h8 hlen o o.kind hl bs;rw[ub rfl hat hto,xw hkl]at this;exact lW this λv H hp=>⟨a.W,⟨hp.1,rfl⟩,hp.2⟩
  |cons m0 l0=>
   by_cases h7:o.kind=7
   · have e:n9 a o=(a.way (bB ((i:Nat):Int) ((j:Nat):Int)) (FB (m0::l0)),if JU (m0::l0)then 0 else 3):=by
      unfold n9;rw[if_neg (by rw[hv];decide),eK,hl];simp only[if_pos h7];split
      · rfl
      · rename_i q
        have q2:FB (m0::l0)=m0::l0:=by unfold FB;unfold JU at q;rw[if_neg (by simpa using q)]
        rw[q2];show(a,(3:Int))=(CL.mk a.ms (a.W.set _ (m0::l0)),3);rw[←hl,xw hkl]
     rw[e];refine lW (net (R:=λv W'=>v= .int .i64 (if JU (m0::l0)then 0 else 3)∧W'=a.W.set (bB ((i:Nat):Int) ((j:Nat):Int)) (FB (m0::l0))) λg bs=>?_) λv H hp=>by obtain⟨_,⟨rfl,rfl⟩,rfl⟩:=hp;exact⟨rfl,rfl⟩
     have:=ze c g.n i (ng g) (kr a g.r) g.p hi j hj hv2 a.W h.W (m0::l0) hl (by rw[←hl];exact h8) (by rw[←hl];exact hlen) o (by simp) bs;rw[ub h7 hat hto]at this;exact lW this λv H hp=>⟨_,⟨hp.1,rfl⟩,hp.2⟩
   · cases ht:lT (max o.n 0% ((m0::l0).length:Int)).toNat (m0::l0)with
     |nil=>have:=kH (max o.n 0% ((m0::l0).length:Int)).toNat (m0::l0);rw[ht]at this;simp at this
     |cons m l2=>
      by_cases h6:o.kind=6
      · have e:n9 a o=(a.way (bB ((i:Nat):Int) ((j:Nat):Int)) l2,0):=by
         unfold n9;rw[if_neg (by rw[hv];decide),eK,hl];simp only[if_neg h7];rw[ht];simp only[if_pos h6]
        rw[e];refine lW (net (R:=λv W'=>v= .int .i64 0∧W'=a.W.set (bB ((i:Nat):Int) ((j:Nat):Int)) l2) λg bs=>?_) λv H hp=>by obtain⟨_,⟨rfl,rfl⟩,rfl⟩:=hp;exact⟨rfl,rfl⟩
        have:=tr c g.n i (ng g) (kr a g.r) g.p hi j hj hv2 a.W h.W (m0::l0) hl (by rw[←hl];exact h8) (by rw[←hl];exact hlen) o m l2 ht bs 6 (.inr rfl) (.inl rfl);rw[ub h6 hat hto]at this;exact lW this λv H hp=>⟨_,⟨hp.1,rfl⟩,hp.2⟩
      · have h5:o.kind=5:=by omega
        have e:n9 a o=p3 (a.way (bB ((i:Nat):Int) ((j:Nat):Int)) l2) i j m:=by
         unfold n9;rw[if_neg (by rw[hv];decide),eK,hl];simp only[if_neg h7];rw[ht];simp only[if_neg h6];rw[hat,hto];rfl
        rw[e];have ew:(a.way (bB ((i:Nat):Int) ((j:Nat):Int)) l2).at' j=a.at' j:=rfl;cases hr:(a.at' j).run with
        |none=>
         have e2:p3 (a.way (bB ((i:Nat):Int) ((j:Nat):Int)) l2) i j m=(a.way (bB ((i:Nat):Int) ((j:Nat):Int)) l2,0):=by unfold p3;rw[ew,hr]
         rw[e2];refine lW (net (R:=λv W'=>v= .int .i64 0∧W'=a.W.set (bB ((i:Nat):Int) ((j:Nat):Int)) l2) λg bs=>?_) λv H hp=>by obtain⟨_,⟨rfl,rfl⟩,rfl⟩:=hp;exact⟨rfl,rfl⟩
         have:=tr c g.n i (ng g) (kr a g.r) g.p hi j hj hv2 a.W h.W (m0::l0) hl (by rw[←hl];exact h8) (by rw[←hl];exact hlen) o m l2 ht bs 5 (.inl rfl) (.inr (nQ hr));rw[ub h5 hat hto]at this;exact lW this λv H hp=>⟨_,⟨hp.1,rfl⟩,hp.2⟩
        |some s=>
         obtain⟨hs,hid,hso⟩:=(h.at' j hj).run s hr;have hrep:=(h.at' j hj).reps;unfold Slot.reps at hrep;rw[hr,ac]at hrep;simp only at hrep;have W2:(a.W.set (bB ((i:Nat):Int) ((j:Nat):Int)) l2).length=25:=by rw[cK];exact h.W
         refine lW (GE h.ms hj hr (R:=λv s' W'=>(s.e.D.dn=true∧v= .int .i64 0∧s'=s∧W'=a.W.set (bB ((i:Nat):Int) ((j:Nat):Int)) l2)∨(s.e.D.dn=false∧(js (dy m)).2≠0∧v= .int .i64 (js (dy m)).2∧s'=s∧W'=a.W.set (bB ((i:Nat):Int) ((j:Nat):Int)) l2)∨(s.e.D.dn=false∧(js (dy m)).2=0∧v= .int .i64 0∧s'=(fS KD s ((i:Nat):Int) (js (dy m)).1).hush∧W'=gJ (a.W.set (bB ((i:Nat):Int) ((j:Nat):Int)) l2) j (fS KD s ((i:Nat):Int) (js (dy m)).1).o)) λg em=>?_) λv H hp=>?_
         · refine Leg.Does.ex (A':=λbs:List Nat=>[ak g.n (fx bs) 135,gh 184 5 bs (dq a.W),ak c (eV g.n (ng g) (kr a g.r) g.p) 73,dk (g.d j) s.e.D,fc s (g.d j) (g.r j)]) (λhh q=>fK (aD [2,0,0,0] rfl q)) λbs=>?_
           have:=Bk c g.n i (ng g) (kr a g.r) g.p hi j hj hv2 a.W h.W (m0::l0) hl (by rw[←hl];exact h8) (by rw[←hl];exact hlen) o m l2 ht bs (g.d j) (g.r j) s rfl em hso hs (by rw[hid];exact hij) (by omega);rw[ub h5 hat hto]at this;refine lW this λv H hp=>?_
           rcases hp with⟨hd,rfl,rfl⟩| ⟨hd,h1,rfl,rfl⟩| ⟨hd,h1,rfl,rfl⟩
           · exact⟨_,_, .inl ⟨hd,rfl,rfl,rfl⟩,rfl⟩
           · exact⟨_,_, .inr (.inl ⟨hd,h1,rfl,rfl,rfl⟩),rfl⟩
           · exact⟨_,_, .inr (.inr ⟨hd,h1,rfl,rfl,rfl⟩),rfl⟩
         · obtain⟨a',⟨s',W',hR,rfl⟩,rfl⟩:=hp
           have er: ∀W',CL.mk (a.ms.set j {a.at' j with run:=some s}) W'=CL.mk a.ms W':=λW'=>by
            have:=congrArg CL.ms (xL h hj hr);rw[show a.ms.set j {a.at' j with run:=some s}=a.ms from this]
           unfold p3;rw[ew,hr];rcases hR with⟨hd,rfl,rfl,rfl⟩| ⟨hd,h1,rfl,rfl,rfl⟩| ⟨hd,h1,rfl,rfl,rfl⟩
           · simp only[hd,if_true];exact⟨by first|rfl|trivial,by rw[er];rfl⟩
           · simp only[hd,if_neg h1];exact⟨by first|rfl|trivial,by rw[er];rfl⟩
           · simp only[hd,if_pos h1];exact⟨by first|rfl|trivial,rfl⟩
end
theorem GA(c:Nat)(X:HP)(o:OpT)(hm:gp o.at'=false):
 DT 25 #[(.pointer (some ⟨c,0,none⟩)),(.agg (ints o.flat).toArray)] T0 [X] (RI (.int .i64 5) [X]):=by
 refine BD 114 Tryz.func25 rfl rfl rfl λw0 F hF=>sr λ_ J1=>XY (ints o.flat) λb3=>?_
 refine PS ?_;refine nx J1 (aa λ_ J2=>sr λ_ J3=>PS ?_);refine FA 1 gk aR ?_;refine LU 0 Y3 (bR o rfl) ?_;refine CE qV (x9 c o.at') ID ?_;rw[hm];refine PS ?_;refine nx J3 (CY (sr λ_ J4=>PS ?_));exact nx J4 (aj (ag (WK [1] (aw rfl rfl ⟨rfl,rfl⟩))))
theorem Gt(c i:Nat)(hi:i<5)(X:HP)(o:OpT)(k:Int)(hk:k=5∨k=6∨k=7)(p:Int→HP→Prop)(hw:DT 46 #[(.pointer (some ⟨c,0,none⟩)),(.agg (ints (OpT.mk k ((i:Nat):Int) o.to' o.key o.n o.change o.mask o.torn o.cut).flat).toArray)] T0 [X] (dA (λv H=>∃e X',v= .int .i64 e∧H=[X']∧p e X'))):
 DT 25 #[(.pointer (some ⟨c,0,none⟩)),(.agg (ints (OpT.mk k ((i:Nat):Int) o.to' o.key o.n o.change o.mask o.torn o.cut).flat).toArray)] T0 [X] (dA (λv H=>∃e X',v= .int .i64 e∧H=[X']∧p e X')):=by
 refine BD 114 Tryz.func25 rfl rfl rfl λw0 F hF=>sr λ_ J1=>XY (ints (OpT.mk k ((i:Nat):Int) o.to' o.key o.n o.change o.mask o.torn o.cut).flat) λb3=>?_
 refine PS ?_;refine nx J1 (aa λ_ J2=>sr λ_ J3=>PS ?_);refine FA 1 gk aR ?_;refine LT 0 Y3 (.int .i64 (((i:Nat):Int))) ?_ (hc:=by exact bR _ rfl);refine CE qV (eb c i hi) ID ?_;refine PS ?_;refine nx J3 (CN (qx J2 (aa λ_ J4=>sr λ_ J5=>FA 0 gk aR ?_)));refine LT 0 Y3 (.int .i64 (k)) ?_ (hc:=by exact dm _ rfl);refine nx J5 (av (aa λ_ J6=>sr λ_ J7=>P2 ?_));refine aq ?_ ?_<;>intro h12
 · exact absurd h12 (by omega)
 refine nx J7 (CN (sr λ_ J8=>P2 ?_));refine aq ?_ ?_<;>intro h12
 · exact absurd h12 (by omega)
 refine nx J8 (CN (sr λ_ J9=>P2 ?_));refine aq ?_ ?_<;>intro h12
 · exact absurd h12 (by omega)
 refine nx J9 (CN (sr λ_ J10=>P2 ?_));refine aq ?_ ?_<;>intro h12
 · exact absurd h12 (by omega)
 refine nx J10 (CN (af (PS ?_)));refine aq ?_ ?_<;>intro h17
 · exact absurd h17 (by omega)
 refine PS ?_;refine nx J6 (CN (aa λ_ J11=>e7 (α:=Unit) (λ_u=>True) (λ_u=>[(0,(.pointer (some ⟨c,0,none⟩))),(3,(.pointer (some ⟨b3,0,none⟩))),(4,(.int .i64 0)),(11,(.int .i64 (k))),(37,(.bool true))]) (λ_u=>[ak b3 (ints (OpT.mk k ((i:Nat):Int) o.to' o.key o.n o.change o.mask o.torn o.cut).flat) 63,X]) (λ_u hinv=>?_) (λtl11=>?_)));have _:=hinv;refine ae J11 (CY (sr λ_ J12=>PS ?_));refine LW 0 gk C8 L3 ?_;refine CR RE (hw) (SM [1]) λvR HR hR=>?_
 obtain⟨e,X',rfl,rfl,hp⟩:=hR;refine PS ?_;exact nx J12 (aj (aK (ag (WK [0] (aw rfl rfl ⟨e,X',rfl,rfl,hp⟩)))));refine sr λ_ J13=>P2 ?_
 refine aq ?_ ?_<;>intro h37;refine nx J13 (CY (aV ?_))
 exact aF
  SB
  (λ_ s=>an [0,0] rfl s)
  (tl11 (():Unit) trivial)
 refine nx J13 (CN (sr λ_ J14=>P2 ?_));refine aq ?_ ?_<;>intro h37;refine nx J14 (CY (aV ?_))
 exact aF
  SB
  (λ_ s=>an [0,0] rfl s)
  (tl11 (():Unit) trivial)
 refine nx J14 (CN (af (PS ?_)));refine aq ?_ ?_<;>intro h40;refine PS ?_;refine ax ?_
 exact aF
  SB
  (λ_ s=>an [0,0] rfl s)
  (tl11 (():Unit) trivial)
 · exact absurd h40 (by omega)
theorem EH(c i:Nat)(hi:i<5)(X:HP)(o:OpT)(k:Int)(hk:k<0∨11<k):
 DT 25 #[(.pointer (some ⟨c,0,none⟩)),(.agg (ints (OpT.mk k ((i:Nat):Int) o.to' o.key o.n o.change o.mask o.torn o.cut).flat).toArray)] T0 [X] (RI (.int .i64 5) [X]):=by
 refine BD 114 Tryz.func25 rfl rfl rfl λw0 F hF=>sr λ_ J1=>XY (ints (OpT.mk k ((i:Nat):Int) o.to' o.key o.n o.change o.mask o.torn o.cut).flat) λb3=>?_
 refine PS ?_;refine nx J1 (aa λ_ J2=>sr λ_ J3=>PS ?_);refine FA 1 gk aR ?_;refine LT 0 Y3 (.int .i64 (((i:Nat):Int))) ?_ (hc:=by exact bR _ rfl);refine CE qV (eb c i hi) ID ?_;refine PS ?_;refine nx J3 (CN (qx J2 (aa λ_ J4=>sr λ_ J5=>FA 0 gk aR ?_)));refine LT 0 Y3 (.int .i64 (k)) ?_ (hc:=by exact dm _ rfl);refine nx J5 (av (aa λ_ J6=>sr λ_ J7=>P2 ?_));refine aq ?_ ?_<;>intro h12
 · exact absurd h12 (by omega)
 refine nx J7 (CN (sr λ_ J8=>P2 ?_));refine aq ?_ ?_<;>intro h12
 · exact absurd h12 (by omega)
 refine nx J8 (CN (sr λ_ J9=>P2 ?_));refine aq ?_ ?_<;>intro h12
 · exact absurd h12 (by omega)
 refine nx J9 (CN (sr λ_ J10=>P2 ?_));refine aq ?_ ?_<;>intro h12
 · exact absurd h12 (by omega)
 refine nx J10 (CN (af (PS ?_)));refine aq ?_ ?_<;>intro h17
 · exact absurd h17 (by omega)
 refine PS ?_;refine nx J6 (CN (aa λ_ J11=>sr λ_ J12=>P2 ?_));refine aq ?_ ?_<;>intro h37
 · exact absurd h37 (by omega)
 refine nx J12 (CN (sr λ_ J13=>P2 ?_));refine aq ?_ ?_<;>intro h37
 · exact absurd h37 (by omega)
 refine nx J13 (CN (af (PS ?_)));refine aq ?_ ?_<;>intro h40
 · exact absurd h40 (by omega)
 refine PS ?_;refine nx J11 (CN (sr λ_ J14=>PS ?_));refine aq ?_ ?_<;>intro h45
 · exact absurd h45 (by omega)
 refine PS ?_;refine nx J14 (CN (sr λ_ J15=>PS ?_));refine aq ?_ ?_<;>intro h65
 · exact absurd h65 (by omega)
 refine PS ?_;refine nx J15 (CN (sr λ_ J16=>PS ?_));refine aq ?_ ?_<;>intro h77
 · exact absurd h77 (by omega)
 refine PS ?_;refine nx J16 (CN (sr λ_ J17=>PS ?_));refine aq ?_ ?_<;>intro h109
 · exact absurd h109 (by omega)
 refine PS ?_;refine nx J17 (CN (sr λ_ J18=>PS ?_));exact nx J18 (aj (aK (ag (WK [1] (aw rfl rfl ⟨rfl,rfl⟩)))))
section
variable {n c:Nat} {a:CL} {o:OpT}
theorem Lr(h:CLOk n a)(hn:n≤100000)(ho:OkOp o):DT 25 #[.pointer (some ⟨c,0,none⟩), .agg (ints o.flat).toArray] T0 [gU c a] (dA λv H=>v= .int .i64 (zy a o).2∧H=[gU c (zy a o).1]):=by
 unfold zy
 by_cases hm:gp o.at'=false
 · rw[if_pos hm]
   exact GA c (gU c a) o hm
 · rw[if_neg hm]
   have hm:gp o.at'=true:=by simpa using hm
   obtain⟨hi,hat⟩:=jd hm
   by_cases h1:0≤o.kind∧o.kind≤4
   · rw[if_pos h1];exact LH h hn hi hat.symm h1 ho
   rw[if_neg h1]
   by_cases h2:o.kind=5∨o.kind=6∨o.kind=7
   · rw[if_pos h2]
     have:=Gt c _ hi (gU c a) o o.kind h2 (λe X=>e=(n9 a o).2∧X=gU c (n9 a o).1) (by
      rw[pF rfl hat.symm]
      exact lW (HV h hn hi hat.symm h2) λv H hp=>⟨_,_,hp.1,hp.2,rfl,rfl⟩)
     rw[pF rfl hat.symm]at this
     exact lW this λv H hp=>by
      obtain⟨e,X,rfl,rfl,rfl,rfl⟩:=hp;exact⟨rfl,rfl⟩
   rw[if_neg h2]
   by_cases h3:o.kind=8
   · rw[if_pos h3];exact JZ h hi hat.symm h3
   rw[if_neg h3]
   by_cases h4:o.kind=9
   · rw[if_pos h4];exact LQ h hi hat.symm h4
   rw[if_neg h4]
   by_cases h5:o.kind=10
   · rw[if_pos h5];exact GG h hn hi hat.symm h5
   rw[if_neg h5]
   by_cases h6:o.kind=11
   · rw[if_pos h6];exact Dq h hi hat.symm h6
   rw[if_neg h6];have:=EH c _ hi (gU c a) o o.kind (by omega);rw[pF rfl hat.symm]at this;exact this
end
theorem xu(i:Nat):(cf i .new).1≠none:=by
 obtain⟨D',e,_⟩:=LogD.new.open rfl rfl;unfold cf;rw[e];simp[gN]
theorem vW{i:Nat}{s:MS LD}(h:(cf i .new).1=some s):iQ i=⟨some s,(bI .new).D,[]⟩:=by
 show(fq i .nil).1=_;unfold fq;show Slot.mk (cf i DS.new).1 _ _=_;rw[h];rfl
def dJ(i:Nat)(d:Nat→Nat):Nat→Value:=λj=>if j<i then .pointer (some ⟨d j,0,none⟩)else .pointer none
def KG:Nat→Value:=λ_=> .slice none 0 0
theorem Lx(i:Nat)(d:Nat→Nat)(x:Nat):lJ (dJ i d) i (.pointer (some ⟨x,0,none⟩))=dJ (i+1) (lJ d i x):=funext λj=>by
 unfold dJ lJ
 by_cases hj:j=i
 · subst hj;simp
 · rw[if_neg hj,if_neg hj]
   show(if j<i then _ else _)=_
   by_cases h:j<i
   · rw[if_pos h,if_pos (by omega)]
   · rw[if_neg h,if_neg (by omega)]
theorem Jw{n:Nat}{D M P D' M' P':Nat→Value}(h1: ∀i,i<5→D i=D' i)(h2: ∀i,i<5→M i=M' i)(h3: ∀i,i<5→P i=P' i):eV n D M P=eV n D' M' P':=by
 unfold eV;rw[ef (λi hi=>h1 i (ei.1 hi)),ef (λi hi=>h2 i (ei.1 hi)),ef (λi hi=>h3 i (ei.1 hi))]
theorem xY{f g:Nat→HP}{i:Nat}(hg: ∀j,j<i→g j=f j){H:List HP}{h:Hl}(s:bH (g i::bH ((List.range i).map f)::H) h):bH (bH ((List.range (i+1)).map g)::H) h:=by
 have e:(List.range (i+1)).map g=(List.range i).map f++[g i]:=by
  rw[dh,cJ,ef (λj hj=>hg j (ei.1 hj))];rfl
 rw[e];obtain⟨h1,h2,d,rfl,a,b⟩:=s;have s2:bH ((g i::(List.range i).map f)++H) (jn h1 h2):=⟨h1,h2,d,rfl,a,(ci _ _).2 b⟩;exact(ci _ _).1 (eA ((List.perm_append_comm (l₁:=[g i])).append_right H) s2)
abbrev yj(d r:Nat→Nat)(j:Nat):HP:=mf (iQ j) (d j) (r j) (.slice none 0 0)
theorem K7{d r:Nat→Nat}{i x y:Nat}{s:MS LD}(hs:(cf i .new).1=some s){X Y:HP}{h:Hl}(q:bH [fc s x y,dk x s.e.D,X,Y,bH ((List.range i).map (yj d r))] h):bH [X,Y,bH ((List.range (i+1)).map (yj (lJ d i x) (lJ r i y)))] h:=by
 have q2:=gI 47 3 q
 have e:yj (lJ d i x) (lJ r i y) i=bH [dk x s.e.D,lx (.slice none 0 0) [],fc s x y]:=by
  unfold yj mf kP Slot.dk qQ;rw[jF,jF,vW hs]
 have q4:=(ci [dk x s.e.D,lx (.slice none 0 0) [],fc s x y] [bH ((List.range i).map (yj d r)),X,Y]).1 (aD [2,0,0,2,0,0] rfl q2);have q5:=xY (i:=i) (f:=yj d r) (g:=yj (lJ d i x) (lJ r i y)) (H:=[X,Y]) (λj hj=>by unfold yj;rw[nC d x (show j≠i by omega),nC r y (show j≠i by omega)]) (by rw[e];exact q4);exact aD [1,1,0] rfl q5
theorem K0(i:Nat)(hi:i<5):CL.new.at' i=iQ i:=by simp[CL.new,CL.at',List.getD_eq_getElem?_getD,hi]
theorem K6{c n:Nat}{d r:Nat→Nat}{h:Hl}(s:bH [ak c (eV n (dJ 5 d) (dJ 5 r) KG) 73,eR 135 184 5 n (List.replicate 25 []),bH ((List.range 5).map (yj d r))] h):bH [gU c .new] h:=by
 have e1:eV n (ng ⟨n,d,r,KG⟩) (kr .new r) KG=eV n (dJ 5 d) (dJ 5 r) KG:=Jw (λi hi=>by unfold dJ;rw[if_pos hi]) (λi hi=>by
  unfold dJ;rw[if_pos hi];show zr (CL.new.at' i) (r i)=_;rw[K0 i hi];cases hs:(cf i .new).1 with
  |none=>exact absurd hs (xu i)
  |some s=>rw[vW hs];rfl) (λ_ _=>rfl)
 have e2:(List.range 5).map (λi=>mf (CL.new.at' i) (d i) (r i) (KG i))=(List.range 5).map (yj d r):=ef λi hi=>by
  rw[K0 i (ei.1 hi)];rfl
 have e3:dq CL.new.W=List.replicate 25 []:=rfl;refine bv (p:=sq c .new) (H:=[]) ⟨n,d,r,KG⟩ ?_;unfold sq;rw[e1,e2,e3];exact s
theorem Az:
 DT 20 #[] T0 [] (dA (λv H=>∃c,v= .pointer (some ⟨c,0,none⟩)∧H=[gU c .new])):=by
 refine BD 33 Tryz.func20 rfl rfl rfl λw0 F hF=>sr λ_ J1=>PS ?_
 refine nx J1 (sr λ_ J2=>CR RG (D6) ID λvR HR hR=>?_);obtain⟨n,rfl,rfl⟩:=hR;refine BV #[(.pointer (some ⟨n,0,none⟩)),(.pointer none),(.pointer none),(.pointer none),(.pointer none),(.pointer none),(.pointer none),(.pointer none),(.pointer none),(.pointer none),(.pointer none),(.slice none 0 0),(.slice none 0 0),(.slice none 0 0),(.slice none 0 0),(.slice none 0 0)] ?_;refine XB λb5=>?_
 refine PS ?_;refine nx J2 (aa λ_ J3=>sr λ_ J4=>PS ?_);refine nx J4 (av ?_)
 refine bz (α:=(Nat)×(Nat→Nat)×(Nat→Nat)) (λ⟨i,d,r⟩=>i≤5) (λ⟨i,d,r⟩=>[(0,(.pointer none)),(1,(.pointer (some ⟨b5,0,none⟩))),(6,(.int .i64 (((i:Nat):Int))))]) (λ⟨i,d,r⟩=>[ak b5 (eV n (dJ i d) (dJ i r) KG) 73,eR 135 184 5 n (List.replicate 25 []),bH ((List.range i).map (yj d r))]) (λ⟨i,d,r⟩=>5-i) (0,λ_=>0,λ_=>0)
  (aO _) SB
  (λ_ s=>aD [1,1,0] rfl (qL s)) (λ⟨i,d,r⟩ hinv=>?_)
 obtain hi:=hinv;refine sr λ_ J5=>PS ?_
 refine aq ?_ ?_<;>intro h7;have hlt:i<5:=by omega
 refine nx J5 (aa λ_ J6=>CY (qx J6 (aa λ_ J7=>av (sr λ_ J8=>P2 ?_))));refine nx J8 (aa λ_ J9=>D0 dx ?_);refine PD 0 ?_;refine PD 1 ?_;refine PD 3 ?_;refine FD 4 1 qp Bv ?_;refine AL 2 ?_;refine CR PC (Ls) ID λvR HR hR=>?_
 obtain⟨dn,rfl,rfl⟩:=hR;refine EN (IY 5 (1+i) Nh ww ?_);refine AL 6 ?_;refine bF (i:=1) (ab rfl) rfl rfl rfl rfl rfl ww rfl rfl (by rw[sY];omega) (Nb n (dJ i d) (dJ i r) KG (.pointer (some ⟨dn,0,none⟩)) hlt) rfl (EN (DN (ae J9 (D0 dx ?_))));refine PD 0 ?_;refine PD 1 ?_;refine PD 2 ?_;refine PD 3 ?_;refine PD 4 ?_;refine PD 5 ?_;refine FD 6 1 qp Bv ?_;refine IY 7 (1+i) Nh ww ?_;refine PD 13 ?_;refine FD 14 6 qp p9 ?_;refine AL 8 ?_;refine LT 1 JD (.pointer (some ⟨dn,0,none⟩)) ?_ (hc:=by exact(EU n (lJ (dJ i d) i (.pointer (some ⟨dn,0,none⟩))) (dJ i r) KG hlt).trans (congrArg some (jF (dJ i d) i _)));refine EN (AL 9 ?_);refine CR OA (qK i dn .new DkOk.new) ID λvR HR hR=>?_
 rcases hR with⟨hn,_⟩| ⟨s,rn,hs,rfl,rfl⟩
 · exact absurd hn (xu i)
 refine EN (PD 10 ?_);refine PD 11 ?_;refine PD 12 ?_;refine IY 15 (6+i) wE kI ?_;refine AL 16 ?_;refine bF (i:=2) (ab rfl) rfl rfl rfl rfl rfl kI rfl rfl (by rw[sY];omega) (wY n (lJ (dJ i d) i (.pointer (some ⟨dn,0,none⟩))) (dJ i r) KG (.pointer (some ⟨rn,0,none⟩)) hlt) rfl (EN (DN (ai (ae J7 (af (AD ?_))))));refine PS ?_;refine ax ?_
 exact aM ((i+1,lJ d i dn,lJ r i rn):(Nat)×(Nat→Nat)×(Nat→Nat)) (by omega) (by show 5- (i+1)<5-i;omega)
  SB
  (λ_ q=>by
   show bH [ak b5 (eV n (dJ (i+1) (lJ d i dn)) (dJ (i+1) (lJ r i rn)) KG) 73,_,_] _;rw[←Lx,←Lx]
   exact K7 hs (aD [0,0,0,0,0] rfl q))
 refine nx J5 (aa λ_ J10=>CN (aX (aC (aC (bq (ae J3 (sr λ_ J11=>P2 ?_)))))));exact nx J11 (aj (aF (H':=[gU b5 .new]) (dH _) (λ_ s=>by have h5:i=5:=(by omega);subst h5;exact K6 s) (aw rfl rfl ⟨b5,rfl,rfl⟩)))
theorem D9(c n i:Nat)(D M P:Nat→Value)(hi:i<5)(hM:M i= .pointer none):
 DT 11 #[(.pointer (some ⟨c,0,none⟩)),(.int .i64 (((i:Nat):Int)))] T0 [ak c (eV n D M P) 73] (RI (.pointer none) [ak c (eV n D M P) 73]):=by
 refine BD 15 Tryz.func11 rfl rfl rfl λw0 F hF=>sr λ_ J1=>PS ?_
 refine nx J1 (aa λ_ J2=>sr λ_ J3=>P2 ?_);refine CE DZ (tE c n i D M P hi hM) ID ?_;refine PS ?_;refine nx J3 (CY (sr λ_ J4=>PS ?_));exact nx J4 (aj (ag (WK [0] (aw rfl rfl ⟨rfl,rfl⟩))))
theorem D8(c n i:Nat)(D M P:Nat→Value)(hi:i<5)(d r:Nat)(e:DS)(hD:D i= .pointer (some ⟨d,0,none⟩))(hM:M i= .pointer (some ⟨r,0,none⟩)):
 DT 11 #[(.pointer (some ⟨c,0,none⟩)),(.int .i64 (((i:Nat):Int)))] T0 [ak c (eV n D M P) 73,dk d e] (dA (λv H=>((e.dn=false∧v= .pointer (some ⟨r,0,none⟩))∨(e.dn=true∧v= .pointer none))∧H=[ak c (eV n D M P) 73,dk d e])):=by
 refine BD 15 Tryz.func11 rfl rfl rfl λw0 F hF=>sr λ_ J1=>PS ?_
 refine nx J1 (aa λ_ J2=>sr λ_ J3=>P2 ?_);refine CE DZ (tD c n i D M P hi d r e hD hM) ID ?_;refine bh ?_ ?_<;>intro h7;refine PS ?_;refine nx J3 (CN (qx J2 (sr λ_ J4=>P3 ?_)));refine FA 6 qp p9 ?_;refine IX (6+i) wE kI ?_;refine LT 0 uG (.pointer (some ⟨r,0,none⟩)) ?_ (hc:=by exact(yR n D M P hi).trans (congrArg some hM));refine PS ?_;refine nx J4 (aj (WK [0,0] (aw rfl rfl ?_)));exact⟨.inl ⟨(by simpa using h7),rfl⟩,rfl⟩;refine PS ?_;refine nx J3 (CY (sr λ_ J5=>PS ?_));refine nx J5 (aj (ag (WK [0,0] (aw rfl rfl ?_))));exact⟨.inr ⟨(by simpa using h7),rfl⟩,rfl⟩
theorem GC(c n i:Nat)(D M P:Nat→Value)(hi:i<5)(d:Nat)(hD:D i= .pointer (some ⟨d,0,none⟩)):
 DT 54 #[(.pointer (some ⟨c,0,none⟩)),(.int .i64 (((i:Nat):Int)))] T0 [ak c (eV n D M P) 73] (RI (.pointer (some ⟨d,0,none⟩)) [ak c (eV n D M P) 73]):=by
 refine BD 15 Tryz.func54 rfl rfl rfl λw0 F hF=>sr λ_ J1=>PS ?_
 refine nx J1 (aa λ_ J2=>sr λ_ J3=>P2 ?_);refine CE qV (eb c i hi) ID ?_;refine PS ?_;refine nx J3 (CN (qx J2 (sr λ_ J4=>P3 ?_)));refine FA 1 qp Bv ?_;refine IX (1+i) Nh ww ?_;refine LT 0 JD (.pointer (some ⟨d,0,none⟩)) ?_ (hc:=by exact(EU n D M P hi).trans (congrArg some hD));refine PS ?_;exact nx J4 (aj (WK [0] (aw rfl rfl ⟨rfl,rfl⟩)))
abbrev Bz(c:Nat)(a:CL)(i:Nat)(g:CX):List HP:=ak c (eV g.n (ng g) (kr a g.r) g.p) 73::eR 135 184 5 g.n (dq a.W)::kP (a.at' i) (g.d i) (g.r i) (g.p i)
def bV(c:Nat)(a:CL)(g:CX):HP:=bH (sq c a g)
theorem IJ{α:Type}(A B C:List α):((A++B)++C).Perm ((A++C)++B):=by
 rw[aI,aI];exact List.Perm.append_left _ List.perm_append_comm
section
variable {f:FuncId} {args:Array Value} {c i:Nat} {a:CL} {g:CX}
theorem Lz{h:Hl}(s:bH [gU c a] h): ∃g,bH [bV c a g] h:=by
 obtain⟨g,s⟩:=fK s;exact⟨g,(ci (sq c a g) []).1 s⟩
theorem Jr{H:List HP}{h:Hl}(s:bH (gU c a::H) h): ∃g,bH (bV c a g::H) h:=by
 obtain⟨h1,h2,d,e,⟨g,t⟩,s2⟩:=s;exact⟨g,h1,h2,d,e,t,s2⟩
theorem Js{H:List HP}{h:Hl}(s:bH (bV c a g::H) h):bH (gU c a::H) h:=cM s (λ_ t=>⟨g,t⟩) λ_ t=>t
theorem Ih(hi:i<5){h:Hl}(s:bH [bV c a g] h):bH (Bz c a i g++[bH (((List.range 5).map λi=>mf (a.at' i) (g.d i) (g.r i) (g.p i)).eraseIdx i)]) h:=by
 have s0:bH (sq c a g++[]) h:=(ci _ _).2 s;have s2:=va (f:=λi=>mf (a.at' i) (g.d i) (g.r i) (g.p i)) hi (aD [2,0,0] rfl s0);have s3:=(ci (kP (a.at' i) (g.d i) (g.r i) (g.p i)) _).2 s2;exact aD [4,4,0,0,0,0] rfl s3
theorem Ig(hi:i<5){h:Hl}(s:bH (Bz c a i g++[bH (((List.range 5).map λi=>mf (a.at' i) (g.d i) (g.r i) (g.p i)).eraseIdx i)]) h):bH [bV c a g] h:=by
 have s1:=aD [2,2,2,2,0,0] rfl s;have s2:=(ci (kP (a.at' i) (g.d i) (g.r i) (g.p i)) _).1 s1;have s3:=u9 (f:=λi=>mf (a.at' i) (g.d i) (g.r i) (g.p i)) (g:=λi=>mf (a.at' i) (g.d i) (g.r i) (g.p i)) hi (λ_ _=>rfl) s2;exact(ci (sq c a g) []).1 (aD [1,1,0] rfl s3)
theorem Ck{Q:Value→List HP→Prop}(hi:i<5)(core:DT f args T0 (Bz c a i g) (dA λv H=>∃X,Q v X∧H=Bz c a i g++X)):
 DT f args T0 [bV c a g] (dA λv H=>∃X,Q v X∧H=bV c a g::X):=by
 refine Leg.Does.withinR (B:=[bH (((List.range 5).map λi=>mf (a.at' i) (g.d i) (g.r i) (g.p i)).eraseIdx i)]) core (λ_ _ _ _=>trivial) (λh s=>Ih hi s) λv H hp=>?_
 obtain⟨X,hQ,rfl⟩:=hp;refine⟨_,λh s=>?_,X,hQ,rfl⟩;have s1:=(ci _ X).1 (eA (IJ (Bz c a i g) X [bH (((List.range 5).map λi=>mf (a.at' i) (g.d i) (g.r i) (g.p i)).eraseIdx i)]) s);exact(ci [bV c a g] X).2 (cM s1 (λh t=>Ig hi t) λ_ t=>t)
theorem GD{Q:Value→Prop}(hi:i<5)(core:DT f args T0 (Bz c a i g) (dA λv H=>Q v∧H=Bz c a i g)):
 DT f args T0 [bV c a g] (dA λv H=>Q v∧H=[bV c a g]):=
 lW (Ck (Q:=λv X=>Q v∧X=[]) hi (lW core λv H hp=>by
  obtain⟨h1,rfl⟩:=hp
  exact⟨[],⟨h1,rfl⟩,(aL _).symm⟩)) λv H hp=>by
  obtain⟨X,⟨h1,rfl⟩,rfl⟩:=hp;exact⟨h1,rfl⟩
theorem Mi{x:Slot}{s:MS LD}(h:x.run=some s):x.up= !s.e.D.dn:=by unfold Slot.up;rw[h]
theorem GZ{x:Slot}(h:x.run=none):x.up=false:=by unfold Slot.up;rw[h]
theorem uZ{s:MS LD}(hs:(a.at' i).run=some s):Bz c a i g=[ak c (eV g.n (ng g) (kr a g.r) g.p) 73,eR 135 184 5 g.n (dq a.W),dk (g.d i) s.e.D,lx (g.p i) (a.at' i).past,fc s (g.d i) (g.r i)]:=by
 unfold Bz kP Slot.dk qQ;rw[hs]
def Ho(a:CL)(g:CX)(i:Nat):Value:=if(a.at' i).up then .pointer (some ⟨g.r i,0,none⟩)else .pointer none
theorem Ga(hi:i<5):DT 11 #[.pointer (some ⟨c,0,none⟩), .int .i64 ((i:Nat):Int)] T0 [bV c a g] (dA λv H=>v=Ho a g i∧H=[bV c a g]):=by
 refine GD (Q:=λv=>v=Ho a g i) hi ?_;unfold Ho;cases hr:(a.at' i).run with
 |none=>
  rw[GZ hr];refine Leg.Does.withinR (A:=[ak c (eV g.n (ng g) (kr a g.r) g.p) 73]) (B:=eR 135 184 5 g.n (dq a.W)::kP (a.at' i) (g.d i) (g.r i) (g.p i)) (D9 c g.n i (ng g) (kr a g.r) g.p hi (nQ hr)) (λ_ _ _ _=>trivial) (λh s=>s) λv H hp=>?_
  obtain⟨rfl,rfl⟩:=hp;exact⟨_,λh s=>s,rfl,rfl⟩
 |some s=>
  rw[Mi hr,uZ hr];refine Leg.Does.withinR (B:=[eR 135 184 5 g.n (dq a.W),lx (g.p i) (a.at' i).past,fc s (g.d i) (g.r i)]) (D8 c g.n i (ng g) (kr a g.r) g.p hi (g.d i) (g.r i) s.e.D rfl (ul hr)) (λ_ _ _ _=>trivial) (λh s=>aD [0,1,0,0,0] rfl s) λv H hp=>?_
  obtain⟨hv,rfl⟩:=hp;refine⟨_,λh s=>aD [0,1,0,0,0] rfl s,?_,rfl⟩;rcases hv with⟨h1,rfl⟩| ⟨h1,rfl⟩<;>rw[h1]<;>rfl
theorem yO(hi:i<5):DT 54 #[.pointer (some ⟨c,0,none⟩), .int .i64 ((i:Nat):Int)] T0 [bV c a g] (dA λv H=>v= .pointer (some ⟨g.d i,0,none⟩)∧H=[bV c a g]):=by
 refine GD (Q:=λv=>v= .pointer (some ⟨g.d i,0,none⟩)) hi ?_;refine Leg.Does.withinR (A:=[ak c (eV g.n (ng g) (kr a g.r) g.p) 73]) (B:=eR 135 184 5 g.n (dq a.W)::kP (a.at' i) (g.d i) (g.r i) (g.p i)) (GC c g.n i (ng g) (kr a g.r) g.p hi (g.d i) rfl) (λ_ _ _ _=>trivial) (λh s=>s) λv H hp=>?_
 obtain⟨rfl,rfl⟩:=hp;exact⟨_,λh s=>s,rfl,rfl⟩
theorem xP{n:Nat}(h:CLOk n a)(hn:n≤100000)(hi:i<5):DT 15 #[.pointer (some ⟨c,0,none⟩), .int .i64 ((i:Nat):Int)] T0 [bV c a g] (dA λv H=>∃u,u.oneCell'=true∧v=u∧H=[bV c a g,lx u (a.at' i).reps]):=by
 refine lW (Ck (Q:=λv X=>v.oneCell'=true∧X=[lx v (a.at' i).reps]) hi ?_) λv H hp=>by
  obtain⟨X,⟨h1,rfl⟩,rfl⟩:=hp;exact⟨v,h1,rfl,rfl⟩
 have hl:=(h.at' i hi).reps;unfold Slot.reps at hl ⊢;cases hr:(a.at' i).run with
 |none=>
  rw[hr]at hl;simp only[aL]at hl ⊢;refine Leg.Does.withinR (A:=[ak c (eV g.n (ng g) (kr a g.r) g.p) 73,lx (g.p i) (a.at' i).past]) (B:=[eR 135 184 5 g.n (dq a.W),dk (g.d i) (a.at' i).dk,qQ (a.at' i) (g.d i) (g.r i)]) (xR c g.n i (ng g) (kr a g.r) g.p hi (nQ hr) (a.at' i).past (by omega)) (λ_ _ _ _=>trivial) (λh s=>aD [0,2,0,0,0] rfl s) λv H hp=>?_
  obtain⟨u,hu,rfl,rfl⟩:=hp;exact⟨_,λh s=>aD [0,2,2,0,1,0] rfl s,[lx v (a.at' i).past],⟨hu,rfl⟩,rfl⟩
 |some s=>
  rw[hr]at hl;simp only[ac]at hl;rw[uZ hr];refine Leg.Does.withinR (B:=[eR 135 184 5 g.n (dq a.W),dk (g.d i) s.e.D]) (xQ c g.n i (ng g) (kr a g.r) g.p hi (g.d i) (g.r i) s (ul hr) (a.at' i).past (by omega) (by omega)) (λ_ _ _ _=>trivial) (λh s=>aD [0,2,2,0,0] rfl s) λv H hp=>?_
  obtain⟨u,hu,rfl,rfl⟩:=hp;exact⟨_,λh s=>aD [0,3,3,0,0,0] rfl s,[lx v ((a.at' i).past++s.replies)],⟨hu,rfl⟩,rfl⟩
theorem AB{s:MS LD}{Q:Value→Prop}(hi:i<5)(hs:(a.at' i).run=some s)(hf:DT f args T0 [fc s (g.d i) (g.r i)] (dA λv H=>Q v∧H=[fc s (g.d i) (g.r i)])):DT f args T0 [bV c a g] (dA λv H=>Q v∧H=[bV c a g]):=by
 refine GD hi ?_;rw[uZ hs];refine Leg.Does.withinR (B:=[ak c (eV g.n (ng g) (kr a g.r) g.p) 73,eR 135 184 5 g.n (dq a.W),dk (g.d i) s.e.D,lx (g.p i) (a.at' i).past]) hf (λ_ _ _ _=>trivial) (λh q=>aD [4,0,0,0,0] rfl q) λv H hp=>?_
 obtain⟨hQ,rfl⟩:=hp;exact⟨_,λh q=>aD [1,1,1,1,0] rfl q,hQ,rfl⟩
theorem xM{s:MS LD}{d r:Nat}{v0:RepT→Value}(hf: ∀x,DT f args T0 [ak r (RepT.cells x) 87] (dA λv H=>v=v0 x∧H=[ak r (RepT.cells x) 87])){w:Value}(hv: ∀a,v0 (s.rep a)=w):DT f args T0 [fc s d r] (dA λv H=>v=w∧H=[fc s d r]):=
 Leg.Does.pack (B:=[]) λx=>Leg.Does.withinR (A:=[ak r (RepT.cells (s.rep x)) 87]) (B:=[Hs x.lg d ((s.e.cnt:Nat):Int) s.e.used,lx x.rs s.replies,GY x.vo s.vote]) (hf (s.rep x)) (λ_ _ _ _=>trivial) (λ_ q=>q) λv H hp=>by
  obtain⟨rfl,rfl⟩:=hp;exact⟨[fc s d r],λ_ q=>bv (p:=Im s d r) (H:=[]) x q,hv x,rfl⟩
theorem lS(s:MS LD)(d r:Nat):DT 12 #[.pointer (some ⟨r,0,none⟩)] T0 [fc s d r] (dA λv H=>v= .agg (ints s.view.flat).toArray∧H=[fc s d r]):=xM (λx=>FW r x) λ_=>rfl
theorem Av(s:MS LD)(d r:Nat):DT 13 #[.pointer (some ⟨r,0,none⟩)] T0 [fc s d r] (dA λv H=>v= .agg (ints s.own.flat).toArray∧H=[fc s d r]):=xM (λx=>IA r x) λ_=>rfl
theorem I2(s:MS LD)(d r:Nat)(who:Int):DT 33 #[.pointer (some ⟨r,0,none⟩), .int .i64 who] T0 [fc s d r] (dA λv H=>v= .tuple #[.agg (ints (dF s.mirror who).flat).toArray, .bool (fz s.mirror who)]∧H=[fc s d r]):=xM (λx=>xZ r x who) λ_=>rfl
theorem sQ(hi:i<5):DT 11 #[.pointer (some ⟨c,0,none⟩), .int .i64 ((i:Nat):Int)] T0 [bV c a g] (dA λv H=>((a.at' i).up=false∧v= .pointer none∧H=[bV c a g])∨∃s,(a.at' i).run=some s∧(a.at' i).up=true∧v= .pointer (some ⟨g.r i,0,none⟩)∧H=[bV c a g]):=
 lW (Ga hi) λv H hp=>by
  obtain⟨rfl,rfl⟩:=hp;unfold Ho;cases hu:(a.at' i).up with
  |false=>exact .inl ⟨rfl,rfl,rfl⟩
  |true=>
   cases hs:(a.at' i).run with
   |none=>rw[GZ hs]at hu;cases hu
   |some s=>exact .inr ⟨s,rfl,rfl,rfl,rfl⟩
end
end Go.Proofs.YtfocodjhmkokpaaGreatDoor
end

section
namespace Api
open Go Leg Codec Dsk Wal
def EW{α:Type}(f:α→List Int)(us:List Value)(x:α)(_:Hl):Prop:=us=ints (f x)∧WF (f x)
theorem N0{α:Type}{f:α→List Int}{m:Nat}{v:Value}{l:List α}{F:Hl}(h:IsL m (EW f) v l F):IsL m (EF f) v l F∧∀o∈l,WF (f o):=by
 rcases h with⟨rfl,rfl⟩| ⟨a,c,rfl,rfl⟩| ⟨b,off,cap,cs,T,z,rfl,h1,h2,h3,h4⟩
 · exact⟨.inl ⟨rfl,rfl⟩,λo ho=>by cases ho⟩
 · exact⟨.inr (.inl ⟨a,c,rfl,rfl⟩),λo ho=>by cases ho⟩
 · refine⟨.inr (.inr ⟨b,off,cap,cs,T,z,rfl,h1,h2,h3,λj hj=>?_⟩),λo ho=>?_⟩
   · obtain⟨us,e1,e2,e3⟩:=h4 j hj
     exact⟨us,e1,e2,e3.1⟩
   · obtain⟨j,hj,rfl⟩:=fB ho
     obtain⟨us,e1,e2,e3⟩:=h4 j hj;exact e3.2
theorem MD{o:OpT}(h:WF o.flat):OkOp o:=by
 refine⟨⟨λn hn=>h n ?_⟩,?_⟩
 · simp only[OpT.flat,bP,cg,List.not_mem_nil,or_false]
   simp[hn]
 · have:=tn (h o.n (by simp[OpT.flat]))
   omega
theorem Oh{x:Value}{l:List OpT}{F:Hl}(h:IsL 11 (EW OpT.flat) x l F): ∀o∈l,OkOp o:=λo ho=>MD ((N0 h).2 o ho)
section
variable {A m:List ReplyT} {e:Int}
end
end Api
end

section
namespace Go.Proofs.YtfocodjhmkokpaaGreatDoor
open Go Leg Codec Api Dsk Wal
theorem Gb(x:Value)(l:List OpT):
 DT 8 #[x] (IsL 11 (EF OpT.flat) x l) [] (RI (.bool (decide (((l.length:Nat):Int)≤1200))) []):=by
 refine BD 6 Tryz.func8 rfl rfl rfl λw0 F hF=>sr λ_ J1=>PS ?_
 refine nx J1 (sr λ_ J2=>PS ?_);refine tp (dI rfl Rc rfl hF.len) ?_;refine P2 ?_;exact nx J2 (aj (WK [] (aw rfl rfl ⟨rfl,rfl⟩)))
theorem lh{D:DS}(hD:Whole D.s): ∀k,k≤2048→Wrote .new k (0,li D k)∧(li D k).ar=false∧(li D k).dn=false
 |0,_=>⟨Wrote.none DkOk.new.ok DkOk.new.inn,rfl,rfl⟩
 |k+1,hk=>by
  obtain⟨h,ha,hd⟩:=lh hD k (by omega);rw[li];split
  · exact⟨h.more (by omega),ha,hd⟩
  · have h1:0≤((k:Nat):Int)∧((k:Nat):Int)<2048:=by omega
    have h2:(fu D.s ((k:Nat):Int)).length≤64:=by rw[cy hD];exact aH _
    have w:=ny h1 h2 hd (.inl ha);have o:=Wrote.one h.1 h.2.1 h1 h2;rw[w]at o ⊢;exact⟨h.then rfl o,by show(wz _ _ _).ar=false;unfold wz;exact ha,rfl⟩
theorem Db{D:DS}(hD:Whole D.s):DkOk (oi D):=by
 obtain⟨h,_⟩:=lh hD 2048 (aH _);exact(DkOk.wrote DkOk.new h (aH _)).2
theorem FM{D:DS}(hD:Whole D.s)(k:Nat)(hk:k≤2048):(li D k).ws.length≤2048:=by
 obtain⟨⟨_,_,h⟩,_,hd⟩:=lh hD k hk;rcases h with⟨h,_⟩| ⟨_,h,_⟩
 · cases h
 · have:(DS.new).ws.length=0:=rfl
   have h:(li D k).ws.length≤(DS.new).ws.length+k:=h;omega
theorem GR(i d:Nat)(D:DS)(hok:DkOk D):
 DT 55 #[(.int .i64 (((i:Nat):Int))),(.pointer (some ⟨d,0,none⟩))] T0 [dk d D] (dA (λv H=>((cf i (oi D)).1=none∧v= .pointer none∧H=[dk d D])∨∃s r dn,(cf i (oi D)).1=some s∧v= .pointer (some ⟨r,0,none⟩)∧H=[dk d D,fc s dn r])):=by
 refine BD 36 Tryz.func55 rfl rfl rfl λw0 F hF=>sr λ_ J1=>PS ?_
 refine nx J1 (sr λ_ J2=>CR PC (Ls) ID λvR HR hR=>?_);obtain⟨dn,rfl,rfl⟩:=hR;refine PS ?_;refine nx J2 (aa λ_ J3=>sr λ_ J4=>PS ?_);refine nx J4 (av ?_)
 refine bz (α:=(Nat)) (λk=>k≤2048) (λk=>[(0,(.int .i64 (((i:Nat):Int)))),(1,(.pointer (some ⟨d,0,none⟩))),(4,(.pointer none)),(5,(.pointer (some ⟨dn,0,none⟩))),(11,(.int .i64 (((k:Nat):Int))))]) (λk=>[dk d D,dk dn (li D k)]) (λk=>2048-k) 0
  (aO _) SB
  (λ_ s=>aD [1,0] rfl s) (λk hinv=>?_)
 obtain hk:=hinv;refine sr λ_ J5=>PS ?_
 refine aq ?_ ?_<;>intro h12;refine nx J5 (aa λ_ J6=>CY (qx J6 (aa λ_ J7=>av (sr λ_ J8=>P2 ?_))));refine nx J8 (sr λ_ J9=>P2 ?_);refine CE Rq (M1 d D ((k:Nat):Int) hok.ok) ID ?_;refine XA z173 λb7=>?_
 refine bT (vs:=dL (fu D.s ((k:Nat):Int))) (i:=0) (ab rfl) rfl rfl rfl rfl rfl (by rw[aW,cy hok.ok.s];exact j7) (e6 _) rfl rfl (by rw[aW,cy hok.ok.s];exact aH _) (gE (by rw[aW,cy hok.ok.s];rfl)) rfl (nx J9 (sr λ_ J10=>tp (aP (vs:=dL (fu D.s ((k:Nat):Int))) rfl qg rfl j7 rfl (RO 0) (by rw[aW];exact cy hok.ok.s _) (by rw[ba,az (by rw[aW,cy hok.ok.s];exact aH _)])) ?_));refine BV ((dL zs).toArray) ?_;refine tp (PV.neqB (a:=(fu D.s ((k:Nat):Int))) (b:=zs) (m:=2) Nu Nt rfl Nv Nx Nw (cy hok.ok.s _) (by simp[zs]) rfl rfl rfl) ?_;refine aq ?_ ?_<;>intro h19;refine nx J10 (CY (af (P2 ?_)));refine tp (mA rfl qg l5 rfl) ?_;refine CF Ol (yN dn (li D k) ((k:Nat):Int) (.slice (some ⟨b7,0,none⟩) (64) (64)) ((fu D.s ((k:Nat):Int))) (lh hok.ok.s k (by omega)).1.1 (by have:=FM hok.ok.s k (by omega);omega)) (SM [2]) (λg d s=>L6 (Eh 0 64 (cy hok.ok.s _) (by decide) rfl rfl g d s)) ?_;refine ax (ai (ae J7 (af (AD ?_))));refine PS ?_;refine ax ?_
 exact aM ((k+1):(Nat)) (by omega) (by show 2048- (k+1)<2048-k;omega)
  SB
  (λ_ s=>by rw[li,if_neg h19];exact an [2,0] rfl s)
 refine nx J10 (CN (aV (ai (ae J7 (af (AD ?_))))));refine PS ?_;refine ax ?_
 exact aM ((k+1):(Nat)) (by omega) (by show 2048- (k+1)<2048-k;omega)
  SB
  (λ_ s=>by rw[li,if_pos (Decidable.not_not.1 h19)];exact an [1,1] rfl s)
 refine nx J5 (aa λ_ J11=>CN (aX (aC (aC (bq (ae J3 (sr λ_ J12=>?_)))))));obtain rfl:k=2048:=by omega
 refine PS ?_;refine CE Oj (Ch dn (li D 2048) (lh hok.ok.s 2048 (by omega)).1.1) (SM [1]) ?_;refine nx J12 (sr λ_ J13=>P2 ?_);refine CR OA (qK i dn (oi D) (Db hok.ok.s)) ID λvR HR hR=>?_
 rcases hR with⟨hn,h0,rfl,rfl⟩| ⟨s,r,hn,rfl,rfl⟩
 refine P4 ?_;refine PS ?_;refine nx J13 (aa λ_ J14=>sr λ_ J15=>P2 ?_);refine aq ?_ ?_<;>intro h34;refine nx J15 (CY (sr λ_ J16=>PS ?_));exact nx J16 (aj (ag (WK [1] (aw rfl rfl (.inl ⟨hn,rfl,rfl⟩)))))
 · exact absurd h34 (by simpa using h0)
 refine P4 ?_;refine PS ?_;refine nx J13 (aa λ_ J17=>sr λ_ J18=>P2 ?_);refine nx J18 (CN (qx J17 (sr λ_ J19=>P2 ?_)));exact nx J19 (aj (WK [2,0] (aw rfl rfl (.inr ⟨s,r,dn,hn,rfl,rfl⟩))))
def Ra(a:CL)(i:Nat)(d r:Nat):HP:=match OX a i with
 |some s=>fc s d r
 |none=>λ_=>True
abbrev wD(a:CL)(d r:Nat→Nat)(j:Nat):HP:=Ra a j (d j) (r j)
def wm(a:CL)(d r:Nat→Nat):HP:=bH ((List.range 5).map (wD a d r))
def tQ(a:CL)(g:CX)(r:Nat→Nat)(i:Nat):Nat:=if(a.at' i).up then g.r i else r i
def mh(a:CL)(g:CX)(r:Nat→Nat)(i:Nat):Value:=match jH a i with
 |some _=> .pointer (some ⟨tQ a g r i,0,none⟩)
 |none=> .pointer none
def lA(a:CL)(g:CX)(r:Nat→Nat)(i:Nat):List Value:=(List.range 5).map λj=>if j<i then mh a g r j else .pointer none
section
variable {a:CL} {g:CX} {r d:Nat→Nat} {i x y:Nat}
theorem jN:(lA a g r i).length=5:=by simp[lA]
theorem K9: ∀u∈lA a g r i,u.oneCell'=true:=λu hu=>by
 unfold lA at hu;obtain⟨j,_,rfl⟩:=eH.1 hu;unfold mh
 repeat' split
 all_goals rfl
theorem yp{v:Value}(hi:i<5){r':Nat→Nat}(hr: ∀j,j<i→mh a g r' j=mh a g r j)(hv:v=mh a g r' i):(lA a g r i).set i v=lA a g r' (i+1):=by
 refine List.ext_getElem? λj=>?_
 unfold lA
 by_cases hj:j=i
 · subst hj
   rw[List.getElem?_set_self (by simp;omega),List.getElem?_map,List.getElem?_range hi];simp[hv]
 · rw[List.getElem?_set_ne (λe=>hj e.symm),List.getElem?_map,List.getElem?_map]
   by_cases h5:j<5
   · rw[List.getElem?_range h5]
     simp only[Option.map_some]
     by_cases h:j<i
     · rw[if_pos h,if_pos (by omega),hr j h]
     · rw[if_neg h,if_neg (by omega)]
   · rw[List.getElem?_eq_none (by rw[gv];omega)];rfl
theorem Hq{v:Value}(hi:i<5):((lA a g r i).set i v)[i]?=some v:=List.getElem?_set_self (by rw[jN];exact hi)
theorem Ea{j:Nat}(hj:j<5):(lA a g r 5)[j]?=some (mh a g r j):=by
 unfold lA;rw[List.getElem?_map,List.getElem?_range hj];simp[hj]
theorem Ko{s:MS LD}(hu:(a.at' i).up=true)(hs:(a.at' i).run=some s):jH a i=some s:=by unfold jH;rw[if_pos hu];exact hs
theorem xH(hu:(a.at' i).up=false):jH a i=(cf i (oi (a.at' i).dk)).1:=by unfold jH;rw[if_neg (by rw[hu];decide)]
theorem GS(hu:(a.at' i).up=false):OX a i=(cf i (oi (a.at' i).dk)).1:=by unfold OX;rw[if_neg (by rw[hu];decide)]
theorem lV{s:MS LD}(hs:jH a i=some s):mh a g r i= .pointer (some ⟨tQ a g r i,0,none⟩):=by unfold mh;rw[hs]
theorem sJ(hs:jH a i=none):mh a g r i= .pointer none:=by unfold mh;rw[hs]
theorem If{j:Nat}(hj:j<i):mh a g (lJ r i y) j=mh a g r j:=by
 unfold mh tQ;rw[nC r y (show j≠i by omega)]
theorem MP{s:MS LD}(hi:i<5)(hu:(a.at' i).up=true)(hs:(a.at' i).run=some s):(lA a g r i).set i (.pointer (some ⟨g.r i,0,none⟩))=lA a g r (i+1):=
 yp hi (λ_ _=>rfl) (by rw[lV (Ko hu hs)];unfold tQ;rw[if_pos hu])
theorem I5(hi:i<5)(hu:(a.at' i).up=false)(hn:(cf i (oi (a.at' i).dk)).1=none):((lA a g r i).set i (.pointer none)).set i (.pointer none)=lA a g r (i+1):=by
 rw[fk];exact yp hi (λ_ _=>rfl) (by rw[sJ ((xH hu).trans hn)])
theorem I4{s:MS LD}(hi:i<5)(hu:(a.at' i).up=false)(hn:(cf i (oi (a.at' i).dk)).1=some s):((lA a g r i).set i (.pointer none)).set i (.pointer (some ⟨y,0,none⟩))=lA a g (lJ r i y) (i+1):=by
 rw[fk];refine yp hi (λj hj=>If hj) ?_;rw[lV ((xH hu).trans hn)];unfold tQ;rw[if_neg (by rw[hu];decide),jF]
theorem Fb{H:List HP}{h:Hl}(hn:OX a i=none)(s:bH (bH ((List.range i).map (wD a d r))::H) h):bH (bH ((List.range (i+1)).map (wD a d r))::H) h:=by
 refine xY (f:=wD a d r) (g:=wD a d r) (λ_ _=>rfl) ?_;have e:wD a d r i= λ_=>True:=by unfold wD Ra;rw[hn]
 rw[e];exact qL s
theorem LS{s:MS LD}{H:List HP}{h:Hl}(hn:OX a i=some s)(q:bH (fc s x y::bH ((List.range i).map (wD a d r))::H) h):bH (bH ((List.range (i+1)).map (wD a (lJ d i x) (lJ r i y)))::H) h:=by
 refine xY (f:=wD a d r) (g:=wD a (lJ d i x) (lJ r i y)) (λj hj=>by unfold wD;rw[nC d x (show j≠i by omega),nC r y (show j≠i by omega)]) ?_;have e:wD a (lJ d i x) (lJ r i y) i=fc s x y:=by unfold wD Ra;rw[hn,jF,jF]
 rw[e];exact q
theorem w4{f:FuncId}{args:Nat→Array Value}{Q:Value→Prop}{c:Nat}{s:MS LD}(hi:i<5)(hs:jH a i=some s)(hf: ∀d r,DT f (args r) T0 [fc s d r] (dA λv H=>Q v∧H=[fc s d r])):
 DT f (args (tQ a g r i)) T0 [bV c a g,wm a d r] (dA λv H=>Q v∧H=[bV c a g,wm a d r]):=by
 cases hu:(a.at' i).up with
 |true=>
  have hr:(a.at' i).run=some s:=by unfold jH at hs;rw[if_pos hu]at hs;exact hs
  unfold tQ;rw[if_pos hu];refine Leg.Does.withinR (B:=[wm a d r]) (AB hi hr (hf (g.d i) (g.r i))) (λ_ _ _ _=>trivial) (λh q=>q) λv H hp=>?_
  obtain⟨hQ,rfl⟩:=hp;exact⟨_,λ_ q=>q,hQ,rfl⟩
 |false=>
  have ha:OX a i=some s:=by rw[GS hu,←xH hu];exact hs
  unfold tQ;rw[if_neg (by rw[hu];decide)];have e:wD a d r i=fc s (d i) (r i):=by unfold wD Ra;rw[ha]
  refine Leg.Does.withinR (B:=[bH (((List.range 5).map (wD a d r)).eraseIdx i),bV c a g]) (hf (d i) (r i)) (λ_ _ _ _=>trivial) (λh q=>?_) λv H hp=>?_
  · have q2:=va (f:=wD a d r) hi (aD [1,0] rfl q)
    rw[e]at q2;exact q2
  · obtain⟨hQ,rfl⟩:=hp
    refine⟨[bV c a g,wm a d r],λh q=>?_,hQ,rfl⟩;refine aD [1,0] rfl (u9 (H:=[bV c a g]) (f:=wD a d r) (g:=wD a d r) hi (λ_ _=>rfl) ?_);rw[e];exact q
end
theorem Fa(c i:Nat)(a:CL)(g:CX)(hi:i<5)(hok:DkOk (a.at' i).dk):DT 55 #[.int .i64 ((i:Nat):Int), .pointer (some ⟨g.d i,0,none⟩)] T0 [bV c a g] (dA (λv H=>((cf i (oi (a.at' i).dk)).1=none∧v= .pointer none∧H=[bV c a g])∨∃s r dn,(cf i (oi (a.at' i).dk)).1=some s∧v= .pointer (some ⟨r,0,none⟩)∧H=[bV c a g,fc s dn r])):=by
 refine lW (Ck (Q:=λv X=>((cf i (oi (a.at' i).dk)).1=none∧v= .pointer none∧X=[])∨∃s r dn,(cf i (oi (a.at' i).dk)).1=some s∧v= .pointer (some ⟨r,0,none⟩)∧X=[fc s dn r]) hi ?_) λv H hp=>?_
 · refine Leg.Does.withinR (B:=[ak c (eV g.n (ng g) (kr a g.r) g.p) 73,eR 135 184 5 g.n (dq a.W),lx (g.p i) (a.at' i).past,qQ (a.at' i) (g.d i) (g.r i)]) (GR i (g.d i) (a.at' i).dk hok) (λ_ _ _ _=>trivial) (λh q=>aD [2,0,0,0,0] rfl q) λv H hp=>?_
   rcases hp with⟨hn,rfl,rfl⟩| ⟨s,r,dn,hn,rfl,rfl⟩
   · exact⟨_,λh q=>aD [1,1,0,0,0] rfl q,[], .inl ⟨hn,rfl,rfl⟩,(aL _).symm⟩
   · exact⟨_,λh q=>aD [2,2,0,1,1,0] rfl q,[fc s dn r], .inr ⟨s,r,dn,hn,rfl,rfl⟩,rfl⟩
 · obtain⟨X,hq,rfl⟩:=hp
   rcases hq with⟨hn,rfl,rfl⟩| ⟨s,r,dn,hn,rfl,rfl⟩
   · exact .inl ⟨hn,rfl,rfl⟩
   · exact .inr ⟨s,r,dn,hn,rfl,rfl⟩
theorem qZ(c n:Nat)(a:CL)(g:CX)(h:CLOk n a):
 DT 32 #[(.pointer (some ⟨c,0,none⟩))] T0 [bV c a g] (dA (λv H=>∃r d:Nat→Nat,v= .agg (lA a g r 5).toArray∧H=[bV c a g,wm a d r])):=by
 refine BD 32 Tryz.func32 rfl rfl rfl λw0 F hF=>sr λ_ J1=>XA Sd λb2=>?_
 refine nx J1 (sr λ_ J2=>XA Sd λb3=>?_);refine nx J2 (aa λ_ J3=>sr λ_ J4=>PS ?_);refine nx J4 (av ?_)
 refine bz (α:=(Nat)×(Nat→Nat)×(Nat→Nat)) (λ⟨i,d,r⟩=>i≤5) (λ⟨i,d,r⟩=>[(0,(.pointer (some ⟨c,0,none⟩))),(2,(.pointer (some ⟨b2,0,none⟩))),(3,(.pointer (some ⟨b3,0,none⟩))),(5,(.int .i64 (((i:Nat):Int))))]) (λ⟨i,d,r⟩=>[bV c a g,ak b3 (lA a g r i) 70,bH ((List.range i).map (wD a d r)),ak b2 [(.pointer none),(.pointer none),(.pointer none),(.pointer none),(.pointer none)] 70]) (λ⟨i,d,r⟩=>5-i) (0,λ_=>0,λ_=>0)
  (aO _) SB
  (λ_ q=>aD [1,1,0,0] rfl (qL (an [2,0,0] rfl q))) (λ⟨i,d,r⟩ hinv=>?_)
 obtain hi:=hinv;refine sr λ_ J5=>PS ?_
 refine aq ?_ ?_<;>intro h6;refine nx J5 (aa λ_ J6=>CY (qx J6 (aa λ_ J7=>av (sr λ_ J8=>P2 ?_))));refine nx J8 (sr λ_ J9=>P3 ?_);refine CR OE (sQ (i:=i) (by omega)) ID λvR HR hR=>?_
 rcases hR with⟨hup,rfl,rfl⟩| ⟨s,hrun,hup,rfl,rfl⟩
 refine IX i wE kI ?_;refine bF (i:=1) (ab rfl) rfl rfl rfl rfl rfl kI rfl rfl (by simp only[cK,jN];omega) rfl rfl (nx J9 (sr λ_ J10=>PS ?_));refine IX i wE kI ?_;refine LT 1 uG (.pointer none) ?_ (hc:=by exact Hq (by omega));refine tp (pk rfl uG rfl rfl) ?_;refine P3 ?_;refine CE Py (yO (i:=i) (by omega)) ID ?_;refine tq (jU rfl JD rfl rfl) ?_;refine PS ?_;refine nx J10 (CY (af (P4 ?_)));refine CE Py (yO (i:=i) (by omega)) ID ?_;refine CR Rz (Fa c i a g (by omega) (h.at' i (by omega)).dk) ID λvR HR hR=>?_
 rcases hR with⟨hn,rfl,rfl⟩| ⟨s,rn,dn,hn,rfl,rfl⟩
 refine IX i wE kI ?_;refine bF (i:=1) (ab rfl) rfl rfl rfl rfl rfl kI rfl rfl (by simp only[cK,jN];omega) rfl rfl (ax (ai (ae J7 (af (AD ?_)))));refine PS ?_;refine ax ?_
 exact aM ((i+1,d,r):(Nat)×(Nat→Nat)×(Nat→Nat)) (by omega) (by show 5- (i+1)<5-i;omega)
  SB
  (λ_ q=>by show bH [bV c a g,ak b3 (lA a g r (i+1)) 70,bH ((List.range (i+1)).map (wD a d r)),ak b2 [(.pointer none),(.pointer none),(.pointer none),(.pointer none),(.pointer none)] 70] _;rw[←I5 (by omega) hup hn];exact aD [1,1,0,0] rfl (Fb ((GS hup).trans hn) (an [2,0,0,0] rfl q)))
 refine IX i wE kI ?_;refine bF (i:=2) (ab rfl) rfl rfl rfl rfl rfl kI rfl rfl (by simp only[cK,jN];omega) rfl rfl (ax (ai (ae J7 (af (AD ?_)))));refine PS ?_;refine ax ?_
 exact aM ((i+1,lJ d i dn,lJ r i rn):(Nat)×(Nat→Nat)×(Nat→Nat)) (by omega) (by show 5- (i+1)<5-i;omega)
  SB
  (λ_ q=>by show bH [bV c a g,ak b3 (lA a g (lJ r i rn) (i+1)) 70,bH ((List.range (i+1)).map (wD a (lJ d i dn) (lJ r i rn))),ak b2 [(.pointer none),(.pointer none),(.pointer none),(.pointer none),(.pointer none)] 70] _;rw[←I4 (by omega) hup hn];exact aD [1,1,0,0] rfl (LS ((GS hup).trans hn) (an [1,2,0,0,0] rfl q)))
 refine IX i wE kI ?_;refine bF (i:=1) (ab rfl) rfl rfl rfl rfl rfl kI rfl rfl (by simp only[cK,jN];omega) rfl rfl (nx J9 (sr λ_ J11=>PS ?_));refine IX i wE kI ?_;refine LT 1 uG (.pointer (some ⟨(g.r i),0,none⟩)) ?_ (hc:=by exact Hq (by omega));refine tp (iW rfl uG rfl rfl) ?_;refine PS ?_
 iterate 4 refine UF ?_
 refine PS ?_;refine nx J11 (CN (aV (ai (ae J7 (af (AD ?_))))));refine PS ?_;refine ax ?_
 exact aM ((i+1,d,r):(Nat)×(Nat→Nat)×(Nat→Nat)) (by omega) (by show 5- (i+1)<5-i;omega)
  SB
  (λ_ q=>by show bH [bV c a g,ak b3 (lA a g r (i+1)) 70,bH ((List.range (i+1)).map (wD a d r)),ak b2 [(.pointer none),(.pointer none),(.pointer none),(.pointer none),(.pointer none)] 70] _;rw[←MP (by omega) hup hrun];exact aD [1,1,0,0] rfl (Fb (by unfold OX;rw[if_pos hup]) (an [2,0,0,0] rfl q)))
 refine nx J5 (aa λ_ J12=>CN (aX (aC (aC (bq (ae J3 (sr λ_ J13=>?_)))))));obtain rfl:i=5:=by omega
 refine tp (aP (vs:=lA a g r 5) rfl wE rfl p9 rfl (RO 1) jN (by rw[ba,az (cV jN)])) ?_;exact bT (vs:=lA a g r 5) (i:=3) (ab rfl) rfl rfl rfl rfl rfl (by rw[jN];exact p9) K9 rfl rfl (by rw[jN];exact aH _) (gE (Eq.trans (rfl:_=5) (by rw[jN]:(lA a g r 5).length=5).symm)) rfl (nx J13 (aj (zI (H':=[bV c a g,bH ((List.range 5).map (wD a d r))]) rfl rfl wE rfl p9 (RO 3) (by rw[jN]) (λ_ s=>an [0,1] rfl s) ⟨r,d,rfl,rfl⟩)))
section
variable {P:Program} {n:Nat} {D:List Deferred} {L:List (Nat×Value)} {S:World→Prop} {o:Oper} {t t':TypeId} {x y:Operand} {a:CL} {g:CX} {r:Nat→Nat} {j:Nat}
theorem PV.seenNil(ho:o.op= .binOp .eql t x y t')(hu:P.underlying t=some (.pointer (P.pointee t)))(hx:cL L x=some (mh a g r j))(hy:cL L y=some (.pointer none)):PV P n D L S o (.bool (!(jH a j).isSome)):=by
 cases hs:jH a j with
 |none=>rw[sJ hs]at hx;exact pk ho hu hx hy
 |some s=>rw[lV hs]at hx;exact iW ho hu hx hy
theorem PV.seenNot(ho:o.op= .binOp .neq t x y t')(hu:P.underlying t=some (.pointer (P.pointee t)))(hx:cL L x=some (mh a g r j))(hy:cL L y=some (.pointer none)):PV P n D L S o (.bool (jH a j).isSome):=by
 cases hs:jH a j with
 |none=>rw[sJ hs]at hx;exact jD ho hu hx hy
 |some s=>rw[lV hs]at hx;exact jU ho hu hx hy
end
theorem xG{n:Nat}{a:CL}(h:CLOk n a){j:Nat}(hj:j<5){s:MS LD}(hs:jH a j=some s):OkR KD s:=by
 unfold jH at hs;split at hs
 · exact((h.at' j hj).run s hs).1
 · exact(uW hj (Db (h.at' j hj).dk.ok.s) hs).1
theorem Qs{s:MS LD}(h:OkR KD s)(w:Int):WF (dF s.mirror w).flat:=by
 unfold dF;split
 · exact(h.mir _ _).wf
 · exact L4 OkRow.zero
theorem Sk:(Tryz.prog.info? 85).map (·.zero)=some (some (.agg (ints BookT.zero.flat).toArray)):=by kernel_rfl
theorem qC(c n:Nat)(a:CL)(g:CX)(h:CLOk n a):
 DT 16 #[(.pointer (some ⟨c,0,none⟩))] T0 [bV c a g] (dA (λv H=>∃(b:Nat) (d r:Nat→Nat),v= .pointer (some ⟨b,0,none⟩)∧H=[bV c a g,wm a d r,ak b (ints (ce a).flat) 85])):=by
 refine BD 33 Tryz.func16 rfl rfl rfl λw0 F hF=>sr λ_ J1=>PS ?_
 refine nx J1 (sr λ_ J2=>XZ Sk (ints BookT.zero.flat) λb9=>?_);refine PS ?_;refine nx J2 (aa λ_ J3=>sr λ_ J4=>PS ?_);refine CR PE (qZ c n a g h) (SM [1]) λvR HR hR=>?_
 obtain⟨r,d,rfl,rfl⟩:=hR;refine PS ?_;refine nx J4 (av ?_)
 refine bz (α:=(Nat)) (λj=>j≤5) (λj=>[(2,(.pointer none)),(3,(.pointer (some ⟨b9,0,none⟩))),(11,(.agg (lA a g r 5).toArray)),(12,(.int .i64 (((j:Nat):Int))))]) (λj=>[bV c a g,wm a d r,ak b9 (ints (iy a j).flat) 85]) (λj=>5-j) 0
  (aO _) SB
  (λ_ q=>aD [0,0,0] rfl q) (λj hinv=>?_)
 obtain hj:=hinv;refine sr λ_ J5=>PS ?_
 refine aq ?_ ?_<;>intro h13;refine nx J5 (aa λ_ J6=>CY (qx J6 (aa λ_ J7=>av (sr λ_ J8=>tp (mM (cs:=lA a g r 5) (v:=(mh a g r j)) (r:=j) rfl wE uG rfl kI rfl rfl (by omega) (by omega) (by omega) (Ea (by omega))) ?_))));refine PS ?_;refine nx J8 (aa λ_ J9=>sr λ_ J10=>PS ?_);refine tp (PV.seenNil rfl uG rfl rfl) ?_;refine bh ?_ ?_<;>intro h16;refine nx J10 (CY (aX (aC (bq (ae J7 (af (AD ?_)))))));refine PS ?_;refine ax ?_
 exact aM ((j+1):(Nat)) (by omega) (by show 5- (j+1)<5-j;omega)
  SB
  (λ_ q=>by show bH [bV c a g,wm a d r,ak b9 (ints (iy a (j+1)).flat) 85] _;rw[Br (by simpa using h16)];exact q)
 obtain⟨s,hs⟩:=Option.isSome_iff_exists.1 (by simpa using h16);have hsk:=xG h (by omega) hs;rw[lV hs];refine nx J10 (CN (qx J9 (sr λ_ J11=>PS ?_)));refine nx J11 (av ?_)
 refine bz (α:=(Nat)) (λi=>i≤5) (λi=>[(2,(.pointer none)),(3,(.pointer (some ⟨b9,0,none⟩))),(5,(.pointer (some ⟨(tQ a g r j),0,none⟩))),(11,(.agg (lA a g r 5).toArray)),(12,(.int .i64 (((j:Nat):Int)))),(17,(.int .i64 (((i:Nat):Int))))]) (λi=>[bV c a g,wm a d r,ak b9 (ints (rI s (iy a j) i).flat) 85]) (λi=>5-i) 0
  (aO _) SB
  (λ_ s=>s) (λi hinv=>?_)
 obtain hi:=hinv;refine sr λ_ J12=>PS ?_
 refine aq ?_ ?_<;>intro h18;refine nx J12 (aa λ_ J13=>CY (qx J13 (aa λ_ J14=>av (sr λ_ J15=>P2 ?_))));refine nx J15 (sr λ_ J16=>P2 ?_);refine CE RM (w4 (i:=j) (args:=λr=>#[.pointer (some ⟨r,0,none⟩), .int .i64 ((i:Nat):Int)]) (Q:=λv=>v= .tuple #[.agg (ints (dF s.mirror ((i:Nat):Int)).flat).toArray, .bool (fz s.mirror ((i:Nat):Int))]) (by omega) hs (λd r=>I2 s d r ((i:Nat):Int))) ID ?_;refine P3 ?_;refine XZ vD (ints RowT.zero.flat) λb7=>?_
 refine SW 0 bg am ?_;refine PS ?_;refine nx J16 (af (P2 ?_));refine LW 0 ec bg am ?_;refine CE ML (lF b9 0 85 (λx=>ints x.flat) Q3 (rI s (iy a j) i) ((i:Nat):Int) (dF s.mirror ((i:Nat):Int)) (Qs hsk _)) (SM [3]) ?_;refine ax (ai (ae J14 (af (AD ?_))));refine PS ?_;refine ax ?_
 exact aM ((i+1):(Nat)) (by omega) (by show 5- (i+1)<5-i;omega)
  SB
  (λ_ q=>an [2,2,0] rfl q)
 refine nx J12 (aa λ_ J17=>CN (aX (aC (aC (bq (ai (ae J7 (af (AD ?_)))))))));refine PS ?_;refine ax ?_
 exact aM ((j+1):(Nat)) (by omega) (by show 5- (j+1)<5-j;omega)
  SB
  (λ_ q=>by show bH [bV c a g,wm a d r,ak b9 (ints (iy a (j+1)).flat) 85] _;rw[Bq hs,show 5=i by omega];exact q)
 refine nx J5 (aa λ_ J18=>CN (aX (aC (aC (bq (ae J3 (sr λ_ J19=>P2 ?_)))))));exact nx J19 (aj (aF (H':=[bV c a g,wm a d r,ak b9 (ints (ce a).flat) 85]) (dH _) (λ_ q=>by rw[show j=5 by omega]at q;exact q) (aw rfl rfl ⟨b9,d,r,rfl,rfl⟩)))
theorem Gf(c n:Nat)(a:CL)(g:CX)(h:CLOk n a):
 DT 37 #[(.pointer (some ⟨c,0,none⟩))] T0 [bV c a g] (dA (λv H=>∃d r:Nat→Nat,v= .agg (ints (io a).flat).toArray∧H=[bV c a g,wm a d r])):=by
 refine BD 31 Tryz.func37 rfl rfl rfl λw0 F hF=>sr λ_ J1=>XZ tj (ints ViewT.zero.flat) λb2=>?_
 refine nx J1 (sr λ_ J2=>CE Px (yH) ID ?_);refine XZ tj (ints ViewT.zero.flat) λb3=>?_
 refine SW 0 bm ap ?_;refine PS ?_;refine nx J2 (aa λ_ J3=>sr λ_ J4=>PS ?_);refine CR PE (qZ c n a g h) (SM [2]) λvR HR hR=>?_
 obtain⟨r,d,rfl,rfl⟩:=hR;refine PS ?_;refine nx J4 (av ?_)
 refine bz (α:=(Nat)) (λj=>j≤5) (λj=>[(2,(.pointer (some ⟨b2,0,none⟩))),(3,(.pointer (some ⟨b3,0,none⟩))),(4,(.bool ((gm a j).2))),(9,(.agg (lA a g r 5).toArray)),(10,(.int .i64 (((j:Nat):Int))))]) (λj=>[bV c a g,wm a d r,ak b3 (ints ((gm a j).1).flat) 32,ak b2 (ints ViewT.zero.flat) 32]) (λj=>5-j) 0
  (aO _) SB
  (λ_ s=>s) (λj hinv=>?_)
 obtain hj:=hinv;refine sr λ_ J5=>PS ?_
 refine aq ?_ ?_<;>intro h11;refine nx J5 (aa λ_ J6=>CY (qx J6 (aa λ_ J7=>av (sr λ_ J8=>tp (mM (cs:=lA a g r 5) (v:=(mh a g r j)) (r:=j) rfl wE uG rfl kI rfl rfl (by omega) (by omega) (by omega) (Ea (by omega))) ?_))));refine PS ?_;refine nx J8 (aa λ_ J9=>D1 2 dx ?_);refine PD 0 ?_;refine ta 1 rfl (PV.seenNot rfl uG rfl rfl) ?_;refine pj ?_ ?_<;>intro h14;obtain⟨s,hs⟩:=Option.isSome_iff_exists.1 h14;have hsk:=xG h (by omega) hs;rw[lV hs];refine PD 2 ?_;refine PD 3 ?_;refine pj ?_ ?_<;>intro h16;refine PD 4 ?_;refine PD 5 ?_;refine PD 6 ?_;refine FD 9 0 eO aR ?_;refine LX 10 Y3 (.int .i64 (((gm a j).1).epoch)) ?_ (hc:=by exact be _ rfl);refine AL 7 ?_;refine CE I0 (w4 (i:=j) (args:=λr=>#[.pointer (some ⟨r,0,none⟩)]) (Q:=λv=>v= .agg (ints s.view.flat).toArray) (by omega) hs (λd r=>lS s d r)) ID ?_;refine EN (tb 8 rfl (y5 (cs:=ints s.view.flat) (v:=Value.int .i64 s.view.epoch) rfl eO rfl Y3 rfl rfl (be s.view rfl)) ?_);refine PD 11 ?_;refine jA ?_ ?_<;>intro h24;refine PD 12 ?_;refine PD 13 ?_;refine DN (ae J9 (CY (af (PS ?_))));refine CE I0 (w4 (i:=j) (args:=λr=>#[.pointer (some ⟨r,0,none⟩)]) (Q:=λv=>v= .agg (ints s.view.flat).toArray) (by omega) hs (λd r=>lS s d r)) ID ?_;refine SW 2 bm ap ?_;refine PS ?_;refine ax (ai (ae J7 (af (AD ?_))));refine PS ?_;refine ax ?_
 exact aM ((j+1):(Nat)) (by omega) (by show 5- (j+1)<5-j;omega)
  (aS (aS (bJ rfl (by rw[kS hs,if_pos (.inr h24)]) SB)))
  (λ_ q=>by show bH [bV c a g,wm a d r,ak b3 (ints (gm a (j+1)).1.flat) 32,ak b2 (ints ViewT.zero.flat) 32] _;rw[kS hs,if_pos (.inr h24)];exact an [0,0,0,0] rfl q)
 refine PD 12 ?_;refine PD 13 ?_;refine DN (ae J9 (CN (aV (ai (ae J7 (af (AD ?_)))))));refine PS ?_;refine ax ?_
 exact aM ((j+1):(Nat)) (by omega) (by show 5- (j+1)<5-j;omega)
  (aS (aS (bJ rfl (by rw[we hs (by simpa using h16) h24]) SB)))
  (λ_ q=>by show bH [bV c a g,wm a d r,ak b3 (ints (gm a (j+1)).1.flat) 32,ak b2 (ints ViewT.zero.flat) 32] _;rw[we hs (by simpa using h16) h24];exact an [0,0,0,0] rfl q)
 refine PD 4 ?_;refine PD 5 ?_;refine NT 6 ?_;refine NT 7 ?_;refine NT 8 ?_;refine NT 9 ?_;refine NT 10 ?_;refine NT 11 ?_;refine PD 12 ?_;refine PD 13 ?_;refine DN (ae J9 (CY (af (PS ?_))));refine CE I0 (w4 (i:=j) (args:=λr=>#[.pointer (some ⟨r,0,none⟩)]) (Q:=λv=>v= .agg (ints s.view.flat).toArray) (by omega) hs (λd r=>lS s d r)) ID ?_;refine SW 2 bm ap ?_;refine PS ?_;refine ax (ai (ae J7 (af (AD ?_))));refine PS ?_;refine ax ?_
 exact aM ((j+1):(Nat)) (by omega) (by show 5- (j+1)<5-j;omega)
  (aS (aS (bJ rfl (by rw[kS hs,if_pos (.inl (by simpa using h16))]) SB)))
  (λ_ q=>by show bH [bV c a g,wm a d r,ak b3 (ints (gm a (j+1)).1.flat) 32,ak b2 (ints ViewT.zero.flat) 32] _;rw[kS hs,if_pos (.inl (by simpa using h16))];exact an [0,0,0,0] rfl q)
 refine PD 2 ?_;refine NT 3 ?_;refine NT 4 ?_;refine NT 5 ?_;refine wq (i:=6) (b:=false) rfl (by kernel_rfl) (by kernel_rfl) (by kernel_rfl) (λ_ _ _ _ h=>h) rfl rfl rfl rfl rfl (wq (i:=7) (b:=false) rfl (by kernel_rfl) (by kernel_rfl) (by kernel_rfl) (λ_ _ _ _ h=>h) rfl rfl rfl rfl rfl (wq (i:=8) (b:=false) rfl (by kernel_rfl) (by kernel_rfl) (by kernel_rfl) (λ_ _ _ _ h=>h) rfl rfl rfl rfl rfl (wq (i:=9) (b:=false) rfl (by kernel_rfl) (by kernel_rfl) (by kernel_rfl) (λ_ _ _ _ h=>h) rfl rfl rfl rfl rfl (wq (i:=10) (b:=false) rfl (by kernel_rfl) (by kernel_rfl) (by kernel_rfl) (λ_ _ _ _ h=>h) rfl rfl rfl rfl rfl (wq (i:=11) (b:=false) rfl (by kernel_rfl) (by kernel_rfl) (by kernel_rfl) (λ_ _ _ _ h=>h) rfl rfl rfl rfl rfl (NT 12 ?_))))));refine PD 13 ?_;refine DN (ae J9 (CN (aV (ai (ae J7 (af (AD ?_)))))));refine PS ?_;refine ax ?_
 exact aM ((j+1):(Nat)) (by omega) (by show 5- (j+1)<5-j;omega)
  (aS (aS (bJ rfl (by rw[q7 (by simpa using h14)]) SB)))
  (λ_ q=>by show bH [bV c a g,wm a d r,ak b3 (ints (gm a (j+1)).1.flat) 32,ak b2 (ints ViewT.zero.flat) 32] _;rw[q7 (by simpa using h14)];exact an [0,0,0,0] rfl q)
 refine nx J5 (aa λ_ J10=>CN (aX (aC (aC (bq (ae J3 (sr λ_ J11=>LW 2 eO bm ap ?_)))))));refine SW 3 bm ap ?_;refine nx J11 (aj (RC 3 [0,0] eO bm (ap _) ?_));exact⟨d,r,by rw[show j=5 by omega];rfl,rfl⟩
def oZ(v:ViewT)(k:Nat):List Int:=(List.range 5).map λj=>if j<k then ua v j else 0
theorem mn(v:ViewT)(k:Nat):(ints (oZ v k)).length=5:=by simp[oZ,ints]
theorem DX{v:ViewT}{i:Nat}(hi:i<5):(ints (oZ v i)).set i (.int .i64 (ua v i))=ints (oZ v (i+1)):=by
 refine List.ext_getElem? λj=>?_
 unfold oZ ints
 by_cases hj:j=i
 · subst hj
   rw[List.getElem?_set_self (by simp;omega),List.getElem?_map,List.getElem?_map,List.getElem?_range hi];simp
 · rw[List.getElem?_set_ne (λe=>hj e.symm),List.getElem?_map,List.getElem?_map,List.getElem?_map,List.getElem?_map]
   by_cases h5:j<5
   · rw[List.getElem?_range h5]
     simp only[Option.map_some]
     by_cases h:j<i
     · rw[if_pos h,if_pos (by omega)]
     · rw[if_neg h,if_neg (by omega)]
   · rw[List.getElem?_eq_none (by rw[gv];omega)];rfl
theorem KE{v:ViewT}{j:Nat}(hj:j<5):(ints (oZ v 5))[j]?=some (.int .i64 (ua v j)):=by
 unfold oZ ints;rw[List.getElem?_map,List.getElem?_map,List.getElem?_range hj];simp[hj]
theorem IU{v:ViewT}{i:Nat}(hi:i<5)(h: ¬(jQ v ((i:Nat):Int)).isSome=true):(ints (oZ v i)).set i (.int .i64 ((i:Nat):Int))=ints (oZ v (i+1)):=by
 rw[←DX hi];unfold ua;rw[show jQ v ((i:Nat):Int)=none by simpa using h];rfl
theorem IT{v:ViewT}{i:Nat}(hi:i<5)(h:(jQ v ((i:Nat):Int)).isSome=true):((ints (oZ v i)).set i (.int .i64 ((i:Nat):Int))).set i (.int .i64 ((jQ v ((i:Nat):Int)).getD 0))=ints (oZ v (i+1)):=by
 rw[←DX hi,fk];unfold ua;obtain⟨x,hx⟩:=Option.isSome_iff_exists.1 h;rw[hx];rfl
theorem BU(v:ViewT)(hh:Rng v):
 DT 36 #[(.agg (ints v.flat).toArray)] T0 [] (RI (.agg (ints (oZ v 5)).toArray) []):=by
 refine BD 25 Tryz.func36 rfl rfl rfl λw0 F hF=>sr λ_ J1=>XY (ints v.flat) λb1=>?_
 refine XZ Pb (ints (#v[0,0,0,0,0]).toList) λb2=>?_
 refine nx J1 (sr λ_ J2=>XZ Pb (ints (#v[0,0,0,0,0]).toList) λb3=>?_);refine nx J2 (aa λ_ J3=>sr λ_ J4=>PS ?_);refine nx J4 (av ?_)
 refine bz (α:=(Nat)) (λi=>i≤5) (λi=>[(1,(.pointer (some ⟨b1,0,none⟩))),(2,(.pointer (some ⟨b2,0,none⟩))),(3,(.pointer (some ⟨b3,0,none⟩))),(7,(.int .i64 (((i:Nat):Int))))]) (λi=>[ak b3 (ints (oZ v i)) 30,ak b1 (ints v.flat) 32,ak b2 (ints (#v[0,0,0,0,0]).toList) 30]) (λi=>5-i) 0
  (aO _) SB
  (λ_ s=>an [0,1,0] rfl s) (λi hinv=>?_)
 obtain hi:=hinv;refine sr λ_ J5=>PS ?_
 refine aq ?_ ?_<;>intro h8;refine nx J5 (aa λ_ J6=>CY (qx J6 (aa λ_ J7=>av (sr λ_ J8=>P2 ?_))));refine nx J8 (sr λ_ J9=>P2 ?_);refine IX i ke aR ?_;refine bF (i:=0) (ab rfl) rfl rfl rfl rfl rfl aR rfl rfl (by simp only[cK,mn];omega) rfl rfl (nx J9 (sr λ_ J10=>LW 1 eO bm ap ?_));refine PS ?_;refine CE MK (rQ v ((i:Nat):Int) hh) ID ?_;refine P3 ?_;refine bh ?_ ?_<;>intro h18;refine P2 ?_;refine nx J10 (sr λ_ J11=>PS ?_);refine nx J11 (CY (af (P2 ?_)));refine IX i ke aR ?_;refine bF (i:=0) (ab rfl) rfl rfl rfl rfl rfl aR rfl rfl (by simp only[cK,mn];omega) rfl rfl (ax (ai (ae J7 (af (AD ?_)))));refine PS ?_;refine ax ?_
 exact aM ((i+1):(Nat)) (by omega) (by show 5- (i+1)<5-i;omega)
  SB
  (λ_ q=>by show bH [ak b3 (ints (oZ v (i+1))) 30,ak b1 (ints v.flat) 32,ak b2 (ints (#v[0,0,0,0,0]).toList) 30] _;rw[←IT (by omega) h18];exact an [0,0,0] rfl q)
 refine P2 ?_;refine nx J10 (sr λ_ J12=>PS ?_);refine nx J12 (CN (aV (ai (ae J7 (af (AD ?_))))));refine PS ?_;refine ax ?_
 exact aM ((i+1):(Nat)) (by omega) (by show 5- (i+1)<5-i;omega)
  SB
  (λ_ q=>by show bH [ak b3 (ints (oZ v (i+1))) 30,ak b1 (ints v.flat) 32,ak b2 (ints (#v[0,0,0,0,0]).toList) 30] _;rw[←IU (by omega) (by simpa using h18)];exact an [0,0,0] rfl q)
 refine nx J5 (aa λ_ J13=>CN (aX (aC (aC (bq (ae J3 (sr λ_ J14=>?_)))))));obtain rfl:i=5:=by omega
 refine tp (aP (vs:=ints (oZ v 5)) rfl ke rfl e8 rfl (RO 0) (mn _ _) (by rw[ba,az (cV (mn _ _))])) ?_;exact bT (vs:=ints (oZ v 5)) (i:=2) (ab rfl) rfl rfl rfl rfl rfl (by rw[mn];exact e8) (bw _) rfl rfl (by rw[mn];exact aH _) (gE (by rw[mn];rfl)) rfl (nx J14 (aj (zI (H':=[]) rfl rfl ke rfl e8 (RO 2) (by rw[mn _ _]) (λ_ s=>an [] rfl s) ⟨rfl,rfl⟩)))
theorem Hy{S:List Int}{o k:Nat}(ho:o=k)(h:k<S.length):(ints S)[o]?=some (.int .i64 (S.getD k 0)):=by
 subst ho;simp[ints,List.getD_eq_getElem?_getD,h]
theorem Lk{S:List Int}{o k:Nat}{x:Int}(ho:o=k):(ints S).set o (.int .i64 x)=ints (S.set k x):=by
 subst ho;simp[ints,zV]
theorem LL{B:BookT}{key:Int}{i o:Nat}(k:Nat)(hi:i<5)(ho:o=i*7+k)(hk:k<7){r:Option Value}(hr:(ints (je B key i).flat)[k]?=r):(ints ((qc B key 5).toList.flatMap CellT.flat))[o]?=r:=
 oO bD (qc B key 5) k hi ho hk (by rw[LK hi];exact hr)
theorem E3{B:BookT}{key:Int}{i j o:Nat}(hi:i<5)(hj:j<5)(ho:o=i*7+(2+j)):(ints ((qc B key 5).toList.flatMap CellT.flat))[o]?=some (.int .i64 ((je B key i).given.toList.getD j 0)):=
 LL (2+j) hi ho (by omega) (by simp[CellT.flat,ints,List.getElem?_cons_succ,show 2+j=j+1+1 by omega,List.getD_eq_getElem?_getD,hj])
theorem QE{B:BookT}{key:Int}{i o:Nat}(hi:i<5)(ho:o=i*7):wr (ints ((qc B key i).toList.flatMap CellT.flat)) o (ints (je B key i).flat)=ints ((qc B key (i+1)).toList.flatMap CellT.flat):=by
 have h:=vF bD (qc B key i) (i:=i) (o:=o) 0 (vs:=ints (je B key i).flat) (u':=je B key i) hi (by omega) (by rw[bi,bu];exact aH _) (cC ((bu _).trans (bu _).symm))
 rwa [LJ hi]at h
theorem OV{B:BookT}{key:Int}{k:Nat}:(ints ((qc B key k).toList.flatMap CellT.flat)).length=35:=by
 rw[yF bD,aB]
theorem yt{n:Nat}{a:CL}(h:CLOk n a): ∀j,j≤5→Rng (gm a j).1
 |0,_=>Rng.first
 |j+1,hj=>by
  have ih:=yt h j (by omega);rcases hs:jH a j with _|s
  · rw[q7 hs];exact ih
  · have hk:=xG h (by omega) hs
    rw[kS hs];split
    · exact hk.view.rng
    · exact ih
theorem I9{n:Nat}{a:CL}(h:CLOk n a):Rng (io a):=yt h 5 (aH _)
theorem tL(c n:Nat)(a:CL)(g:CX)(h:CLOk n a)(key:Int):
 DT 18 #[(.pointer (some ⟨c,0,none⟩)),(.int .i64 (key))] T0 [bV c a g] (dA (λv H=>(¬(0≤key∧key<4)∧v= .agg (ints (List.replicate 5 0)).toArray∧H=[bV c a g])∨((0≤key∧key<4)∧∃d r:Nat→Nat,v= .agg (ints (tN (ce a) key (io a) 5)).toArray∧H=[bV c a g,wm a d r]))):=by
 refine Leg.Does.body (vs:=[(.pointer (some ⟨c,0,none⟩)),(.int .i64 (key))]) (n:=82) Tryz.func18 rfl rfl rfl (λw0 F hF=>?_);refine sr λ_ J1=>?_
 refine rr (ab rfl) rfl rfl rfl Pb (λb4=>?_);change TL _ _ _ _ _ _ _ _ _ [ak b4 (ints (#v[0,0,0,0,0]).toList) 30,bV c a g];refine nx J1 ?_;refine sr λ_ J2=>?_
 refine rr (ab rfl) rfl rfl rfl Pb (λb5=>?_);change TL _ _ _ _ _ _ _ _ _ [ak b5 (ints (#v[0,0,0,0,0]).toList) 30,ak b4 (ints (#v[0,0,0,0,0]).toList) 30,bV c a g];refine nx J2 ?_;refine aa λ_ J3=>?_
 refine sr λ_ J4=>?_
 refine mv ?_;refine tp (PV.lss rfl rfl rfl) ?_;refine aq (λh13=>?_) (λh13=>?_);refine mv ?_;refine rq (b:=true) rfl rfl rfl rfl (lb rfl) ?_;refine rq (b:=true) rfl rfl rfl rfl (lb rfl) ?_;refine tp (zQ rfl rfl rfl) ?_;refine nx J4 ?_;refine od rfl ?_;refine sr λ_ J5=>?_
 refine tp (aP (vs:=ints (#v[0,0,0,0,0]).toList) rfl ke rfl e8 rfl (fj 0 rfl rfl) (dC (#v[0,0,0,0,0])) (whole (dC (#v[0,0,0,0,0])))) ?_;refine bT (vs:=ints (#v[0,0,0,0,0]).toList) (i:=1) (H':=[ak b5 (ints (#v[0,0,0,0,0]).toList) 30,ak b4 (ints (#v[0,0,0,0,0]).toList) 30,bV c a g]) (ab rfl) rfl rfl rfl rfl rfl (by rw[(dC (#v[0,0,0,0,0]))];exact e8) (bw _) rfl rfl (by have h0:=(dC (#v[0,0,0,0,0]));have h1:=(dC (#v[0,0,0,0,0]));omega) (cC ((dC (#v[0,0,0,0,0])).trans (dC (#v[0,0,0,0,0])).symm)) rfl ?_;refine nx J5 ?_;refine aj ?_;refine ag ?_;refine zI (H':=[bV c a g]) rfl rfl ke rfl e8 (fj 1 rfl rfl) (dC (#v[0,0,0,0,0])) (λ_ s=>an [2] rfl s) ?_;exact .inl ⟨by omega,rfl,rfl⟩;refine mv ?_;refine tq (kf rfl rfl) ?_;refine tq (PV.geq rfl rfl rfl) ?_;refine aq (λh16=>?_) (λh16=>?_);refine tp (zQ rfl rfl rfl) ?_;refine nx J4 ?_;refine od rfl ?_;refine sr λ_ J6=>?_
 refine tp (aP (vs:=ints (#v[0,0,0,0,0]).toList) rfl ke rfl e8 rfl (fj 0 rfl rfl) (dC (#v[0,0,0,0,0])) (whole (dC (#v[0,0,0,0,0])))) ?_;refine bT (vs:=ints (#v[0,0,0,0,0]).toList) (i:=1) (H':=[ak b5 (ints (#v[0,0,0,0,0]).toList) 30,ak b4 (ints (#v[0,0,0,0,0]).toList) 30,bV c a g]) (ab rfl) rfl rfl rfl rfl rfl (by rw[(dC (#v[0,0,0,0,0]))];exact e8) (bw _) rfl rfl (by have h0:=(dC (#v[0,0,0,0,0]));have h1:=(dC (#v[0,0,0,0,0]));omega) (cC ((dC (#v[0,0,0,0,0])).trans (dC (#v[0,0,0,0,0])).symm)) rfl ?_;refine nx J6 ?_;refine aj ?_;refine ag ?_;refine zI (H':=[bV c a g]) rfl rfl ke rfl e8 (fj 1 rfl rfl) (dC (#v[0,0,0,0,0])) (λ_ s=>an [2] rfl s) ?_;exact .inl ⟨by omega,rfl,rfl⟩;refine tp (zQ rfl rfl rfl) ?_;refine nx J4 ?_;refine HJ rfl ?_;refine aV ?_;refine ae J3 ?_;refine sr λ_ J7=>?_
 refine mv ?_;refine lG (A:=[bV c a g]) (ab rfl) rfl rfl rfl OD rfl (qC c n a g h) (λ_ s=>aD [2] rfl s) (λ_ _ _=>trivial) (λvR HR hR=>?_);obtain⟨bt,d,r,rfl,rfl⟩:=hR;change TL _ _ _ _ _ _ _ _ _ [bV c a g,wm a d r,ak bt (ints (ce a).flat) 85,ak b5 (ints (#v[0,0,0,0,0]).toList) 30,ak b4 (ints (#v[0,0,0,0,0]).toList) 30];refine qn ?_;refine nx J7 ?_;refine sr λ_ J8=>?_
 refine rr (ab rfl) rfl rfl rfl Sc (λb7=>?_);change TL _ _ _ _ _ _ _ _ _ [ak b7 (ints ((#v[CellT.zero,CellT.zero,CellT.zero,CellT.zero,CellT.zero]).toList.flatMap CellT.flat)) 94,bV c a g,wm a d r,ak bt (ints (ce a).flat) 85,ak b5 (ints (#v[0,0,0,0,0]).toList) 30,ak b4 (ints (#v[0,0,0,0,0]).toList) 30];refine nx J8 ?_;refine aa λ_ J9=>?_
 refine sr λ_ J10=>?_
 refine mv ?_;refine nx J10 ?_;refine av ?_
 refine bz (α:=(Nat)) (λi=>i≤5) (λi=>[(0,(.pointer (some ⟨c,0,none⟩))),(1,(.int .i64 (key))),(4,(.pointer (some ⟨b4,0,none⟩))),(5,(.pointer (some ⟨b5,0,none⟩))),(6,(.pointer (some ⟨bt,0,none⟩))),(7,(.pointer (some ⟨b7,0,none⟩))),(21,(.int .i64 (((i:Nat):Int))))]) (λi=>[bV c a g,wm a d r,ak bt (ints (ce a).flat) 85,ak b7 (ints ((qc (ce a) key i).toList.flatMap CellT.flat)) 94,ak b5 (ints (#v[0,0,0,0,0]).toList) 30,ak b4 (ints (#v[0,0,0,0,0]).toList) 30]) (λi=>5-i) 0
  (aO _) (aS (aS (aS (aS (aS (aS (bJ rfl (by congr 1) (O9 _))))))))
  (λ_ s=>an [1,1,1,0,0,0] rfl s) (λi hinv=>?_)
 obtain hi:=hinv;refine sr λ_ J11=>?_
 refine tp (PV.lss rfl rfl rfl) ?_;refine aq (λh22=>?_) (λh22=>?_);refine nx J11 ?_;refine aa λ_ J12=>?_
 refine od rfl ?_;refine aV ?_;refine ae J12 ?_;refine aa λ_ J13=>?_
 refine av ?_;refine sr λ_ J14=>?_
 refine mv ?_;refine qn ?_;refine nx J14 ?_;refine af ?_;refine mv ?_;refine mv ?_;refine mv ?_;refine mv ?_;refine lG (A:=[ak bt (ints (ce a).flat) 85]) (ab rfl) rfl rfl rfl OB rfl (oJ bt 0 85 (λx=>ints x.flat) Q3 (ce a) ((i:Nat):Int) key) (λ_ s=>aD [2] rfl s) (λ_ _ _=>trivial) (λvR HR hR=>?_);obtain⟨rfl,rfl⟩:=hR;change TL _ _ _ _ _ _ _ _ _ [ak bt (ints (ce a).flat) 85,bV c a g,wm a d r,ak b7 (ints ((qc (ce a) key i).toList.flatMap CellT.flat)) 94,ak b5 (ints (#v[0,0,0,0,0]).toList) 30,ak b4 (ints (#v[0,0,0,0,0]).toList) 30];refine tp (ox (r:=i*7) rfl Mc fN rfl rfl (by omega) (by omega) (by omega)) ?_;refine bT (vs:=ints (je (ce a) key i).flat) (i:=3) (H':=[ak bt (ints (ce a).flat) 85,bV c a g,wm a d r,ak b7 (ints ((qc (ce a) key (i+1)).toList.flatMap CellT.flat)) 94,ak b5 (ints (#v[0,0,0,0,0]).toList) 30,ak b4 (ints (#v[0,0,0,0,0]).toList) 30]) (ab rfl) rfl rfl rfl rfl rfl (by rw[bu];exact fN) (bw _) rfl rfl (by rw[OV,bu];omega) (QE (by omega) (by omega)) rfl ?_;refine ax ?_;refine ai ?_;refine ae J13 ?_;refine af ?_;refine tp (cN rfl rfl rfl (bY (by omega) (by omega))) ?_;refine mv ?_;refine ax ?_
 exact aM ((i+1):(Nat)) (by omega) (by show 5- (i+1)<5-i;omega)
  (aS (aS (aS (aS (aS (aS (bJ rfl (by simp) (O9 _))))))))
  (λ_ s=>an [1,1,0,0,0,0] rfl s)
 refine nx J11 ?_;refine aa λ_ J15=>?_
 refine HJ rfl ?_;refine aX ?_;refine aC ?_;refine aC ?_;refine bq ?_;refine ae J9 ?_;refine aa λ_ J16=>?_
 refine sr λ_ J17=>?_
 obtain rfl:i=5:=by omega
 change TL _ _ _ _ _ _ _ _ _ [bV c a g,wm a d r,ak bt (ints (ce a).flat) 85,ak b7 (ints ((qc (ce a) key 5).toList.flatMap CellT.flat)) 94,ak b5 (ints (tN (ce a) key (io a) 0)) 30,ak b4 (ints (#v[0,0,0,0,0]).toList) 30];refine mv ?_;refine lG (A:=[bV c a g]) (ab rfl) rfl rfl rfl RK rfl (Gf c n a g h) (λ_ s=>s) (λ_ _ _=>trivial) (λvR HR hR=>?_);obtain⟨d2,r2,rfl,rfl⟩:=hR;change TL _ _ _ _ _ _ _ _ _ [bV c a g,wm a d2 r2,wm a d r,ak bt (ints (ce a).flat) 85,ak b7 (ints ((qc (ce a) key 5).toList.flatMap CellT.flat)) 94,ak b5 (ints (tN (ce a) key (io a) 0)) 30,ak b4 (ints (#v[0,0,0,0,0]).toList) 30];refine lG (A:=[]) (ab rfl) rfl rfl rfl RL rfl (BU (io a) (I9 h)) (λ_ s=>s) (λ_ _ _=>trivial) (λvR HR hR=>?_);obtain⟨rfl,rfl⟩:=hR;change TL _ _ _ _ _ _ _ _ _ [bV c a g,wm a d2 r2,wm a d r,ak bt (ints (ce a).flat) 85,ak b7 (ints ((qc (ce a) key 5).toList.flatMap CellT.flat)) 94,ak b5 (ints (tN (ce a) key (io a) 0)) 30,ak b4 (ints (#v[0,0,0,0,0]).toList) 30];refine mv ?_;refine nx J17 ?_;refine av ?_
 refine bz (α:=(Nat)) (λi=>i≤5) (λi=>[(4,(.pointer (some ⟨b4,0,none⟩))),(5,(.pointer (some ⟨b5,0,none⟩))),(7,(.pointer (some ⟨b7,0,none⟩))),(33,(.agg (ints (oZ (io a) 5)).toArray)),(34,(.int .i64 (((i:Nat):Int))))]) (λi=>[bV c a g,wm a d2 r2,ak b7 (ints ((qc (ce a) key 5).toList.flatMap CellT.flat)) 94,ak b5 (ints (tN (ce a) key (io a) i)) 30,ak b4 (ints (#v[0,0,0,0,0]).toList) 30]) (λi=>5-i) 0
  (aO _) (aS (aS (aS (aS (bJ rfl (by congr 1) (O9 _))))))
  (λ_ s=>an [0,0,2,2,2] rfl s) (λi hinv=>?_)
 obtain hi:=hinv;refine sr λ_ J18=>?_
 refine tp (PV.lss rfl rfl rfl) ?_;refine aq (λh35=>?_) (λh35=>?_);refine nx J18 ?_;refine aa λ_ J19=>?_
 refine od rfl ?_;refine aV ?_;refine ae J19 ?_;refine aa λ_ J20=>?_
 refine av ?_;refine sr λ_ J21=>?_
 refine mv ?_;refine tp (mM (cs:=ints (oZ (io a) 5)) (v:=(.int .i64 (ua (io a) i))) (r:=i) rfl ke Y3 rfl aR rfl rfl (by omega) (by omega) (by omega) (KE (by omega))) ?_;refine qn ?_;refine qn ?_;refine nx J21 ?_;refine aa λ_ J22=>?_
 refine sr λ_ J23=>?_
 refine mv ?_;refine tp (PV.lss rfl rfl rfl) ?_;refine aq (λh39=>?_) (λh39=>?_);refine mv ?_;refine rq (b:=true) rfl rfl rfl rfl (lb rfl) ?_;refine rq (b:=true) rfl rfl rfl rfl (lb rfl) ?_;refine tp (zQ rfl rfl rfl) ?_;refine nx J23 ?_;refine od rfl ?_;refine aX ?_;refine aC ?_;refine bq ?_;refine ae J20 ?_;refine af ?_;refine tp (cN rfl rfl rfl (bY (by omega) (by omega))) ?_;refine mv ?_;refine ax ?_
 exact aM ((i+1):(Nat)) (by omega) (by show 5- (i+1)<5-i;omega)
  (aS (aS (aS (aS (bJ rfl (by simp) (O9 _))))))
  (λ_ q=>by show bH [bV c a g,wm a d2 r2,ak b7 (ints ((qc (ce a) key 5).toList.flatMap CellT.flat)) 94,ak b5 (ints (tN (ce a) key (io a) (i+1))) 30,ak b4 (ints (#v[0,0,0,0,0]).toList) 30] _;rw[tN,if_neg (by omega)];exact an [0,0,0,0,0] rfl q)
 refine mv ?_;refine tq (kf rfl rfl) ?_;refine tq (PV.geq rfl rfl rfl) ?_;refine aq (λh42=>?_) (λh42=>?_);refine tp (zQ rfl rfl rfl) ?_;refine nx J23 ?_;refine od rfl ?_;refine aX ?_;refine aC ?_;refine bq ?_;refine ae J20 ?_;refine af ?_;refine tp (cN rfl rfl rfl (bY (by omega) (by omega))) ?_;refine mv ?_;refine ax ?_
 exact aM ((i+1):(Nat)) (by omega) (by show 5- (i+1)<5-i;omega)
  (aS (aS (aS (aS (bJ rfl (by simp) (O9 _))))))
  (λ_ q=>by show bH [bV c a g,wm a d2 r2,ak b7 (ints ((qc (ce a) key 5).toList.flatMap CellT.flat)) 94,ak b5 (ints (tN (ce a) key (io a) (i+1))) 30,ak b4 (ints (#v[0,0,0,0,0]).toList) 30] _;rw[tN,if_neg (by omega)];exact an [0,0,0,0,0] rfl q)
 obtain⟨ow,how,hw5⟩: ∃ow:Nat,ua (io a) i=((ow:Nat):Int)∧ow<5:=⟨(ua (io a) i).toNat,by omega,by omega⟩;rw[how];refine tp (zQ rfl rfl rfl) ?_;refine nx J23 ?_;refine HJ rfl ?_;refine aV ?_;refine ae J22 ?_;refine aa λ_ J24=>?_
 refine s8 (λw=>Frm F w∧w.heap[b7]?=some (.cells (ints ((qc (ce a) key 5).toList.flatMap CellT.flat)).toArray 94 (0,0))∧True) dx rfl (λ_ s=>⟨fm s,s.block 2 (lb rfl) rfl,trivial⟩) ?_;refine ta 0 rfl (kf rfl rfl) ?_;refine ta 1 rfl (ox (r:=ow) rfl ke aR rfl rfl (by omega) (by omega) (by omega)) ?_;refine ta 3 rfl (kf rfl rfl) ?_;refine ta 4 rfl (ox (r:=i*7) rfl Mc fN rfl rfl (by omega) (by omega) (by omega)) ?_;refine ta 5 rfl (bb (r:=i*7) rfl nw rfl aR rfl rfl) ?_;refine ta 6 rfl (ic (v:=(.int .i64 ((je (ce a) key i).inn))) rfl Y3 rfl rfl (λ_ h=>h.2.1) (LL 0 (by omega) (by omega) (by decide) (ti _ rfl))) ?_;refine ta 7 rfl (kf rfl rfl) ?_;refine ta 8 rfl (ox (r:=i*7) rfl Mc fN rfl rfl (by omega) (by omega) (by omega)) ?_;refine ta 9 rfl (bb (r:=i*7+1) rfl nw rfl aR rfl rfl) ?_;refine ta 10 rfl (ic (v:=(.int .i64 ((je (ce a) key i).out))) rfl Y3 rfl rfl (λ_ h=>h.2.1) (LL 1 (by omega) (by omega) (by decide) (th _ rfl))) ?_;refine ta 11 rfl (jC (r:=(fR ((je (ce a) key i).inn- (je (ce a) key i).out))) rfl rfl rfl rfl) ?_;refine cZ [2] (by kernel_rfl) rfl ?_;refine aG rfl ?_ ?_;refine tp (ic (v:=(.int .i64 ((tN (ce a) key (io a) i).getD ow 0))) rfl Y3 rfl rfl (fj 3 rfl rfl) (Hy (by omega) (by simp only[Kl,Od,cK,rE,iP,ee];omega))) ?_;refine ax ?_;refine wo (λ_ s=>⟨fm s,s.block 2 (lb rfl) rfl,trivial⟩) ?_
 refine ta 12 rfl (cN (r:=(fR ((tN (ce a) key (io a) i).getD ow 0+fR ((je (ce a) key i).inn- (je (ce a) key i).out)))) rfl rfl rfl rfl) ?_;refine ta 13 rfl (ox (r:=ow) rfl ke aR rfl rfl (by omega) (by omega) (by omega)) ?_;refine cZ [14] (by kernel_rfl) rfl ?_;refine aG rfl ?_ ?_;refine bF (i:=3) (H':=[bV c a g,wm a d2 r2,ak b7 (ints ((qc (ce a) key 5).toList.flatMap CellT.flat)) 94,ak b5 (ints (Kl (ce a) key i ow (tN (ce a) key (io a) i))) 30,ak b4 (ints (#v[0,0,0,0,0]).toList) 30]) (ab rfl) rfl rfl rfl rfl rfl aR rfl rfl (by simp only[ints_length,Kl,Od,cK,rE,iP,ee];omega) (Lk (by omega)) rfl ?_;refine ax ?_;refine wo (λ_ s=>⟨fm s,s.block 2 (lb rfl) rfl,trivial⟩) ?_;refine TD.done (by kernel_rfl) ?_;refine ae J24 ?_;refine sr λ_ J25=>?_
 refine mv ?_;refine nx J25 ?_;refine av ?_
 refine bz (α:=(Nat)) (λj=>j≤5) (λj=>[(4,(.pointer (some ⟨b4,0,none⟩))),(5,(.pointer (some ⟨b5,0,none⟩))),(7,(.pointer (some ⟨b7,0,none⟩))),(9,(.int .i64 (((i:Nat):Int)))),(10,(.int .i64 (((ow:Nat):Int)))),(33,(.agg (ints (oZ (io a) 5)).toArray)),(34,(.int .i64 (((i:Nat):Int)))),(58,(.int .i64 (((j:Nat):Int))))]) (λj=>[bV c a g,wm a d2 r2,ak b7 (ints ((qc (ce a) key 5).toList.flatMap CellT.flat)) 94,ak b5 (ints (L9 (ce a) key i ow (Kl (ce a) key i ow (tN (ce a) key (io a) i)) j)) 30,ak b4 (ints (#v[0,0,0,0,0]).toList) 30]) (λj=>5-j) 0
  (aO _) (aS (aS (aS (aS (aS (aS (aS (bJ rfl (by congr 1) (O9 _)))))))))
  (λ_ s=>s) (λj hinv=>?_)
 obtain hj:=hinv;refine sr λ_ J26=>?_
 refine tp (PV.lss rfl rfl rfl) ?_;refine aq (λh59=>?_) (λh59=>?_);refine nx J26 ?_;refine aa λ_ J27=>?_
 refine od rfl ?_;refine aV ?_;refine ae J27 ?_;refine aa λ_ J28=>?_
 refine av ?_;refine sr λ_ J29=>?_
 refine mv ?_;refine qn ?_;refine nx J29 ?_;refine s8 (λw=>Frm F w∧w.heap[b7]?=some (.cells (ints ((qc (ce a) key 5).toList.flatMap CellT.flat)).toArray 94 (0,0))∧True) dx rfl (λ_ s=>⟨fm s,s.block 2 (lb rfl) rfl,trivial⟩) ?_;refine ta 0 rfl (kf rfl rfl) ?_;refine ta 1 rfl (ox (r:=ow) rfl ke aR rfl rfl (by omega) (by omega) (by omega)) ?_;refine ta 3 rfl (kf rfl rfl) ?_;refine ta 4 rfl (kf rfl rfl) ?_;refine ta 5 rfl (ox (r:=j*7) rfl Mc fN rfl rfl (by omega) (by omega) (by omega)) ?_;refine ta 6 rfl (bb (r:=j*7+2) rfl nw rfl e8 rfl rfl) ?_;refine ta 7 rfl (ox (r:=j*7+2+i) rfl ke aR rfl rfl (by omega) (by omega) (by omega)) ?_;refine ta 8 rfl (ic (v:=(.int .i64 ((je (ce a) key j).given.toList.getD i 0))) rfl Y3 rfl rfl (λ_ h=>h.2.1) (E3 (by omega) (by omega) (by omega))) ?_;refine ta 9 rfl (kf rfl rfl) ?_;refine ta 10 rfl (kf rfl rfl) ?_;refine ta 11 rfl (ox (r:=i*7) rfl Mc fN rfl rfl (by omega) (by omega) (by omega)) ?_;refine ta 12 rfl (bb (r:=i*7+2) rfl nw rfl e8 rfl rfl) ?_;refine ta 13 rfl (ox (r:=i*7+2+j) rfl ke aR rfl rfl (by omega) (by omega) (by omega)) ?_;refine ta 14 rfl (ic (v:=(.int .i64 ((je (ce a) key i).given.toList.getD j 0))) rfl Y3 rfl rfl (λ_ h=>h.2.1) (E3 (by omega) (by omega) (by omega))) ?_;refine ta 15 rfl (jC (r:=(fR ((je (ce a) key j).given.toList.getD i 0- (je (ce a) key i).given.toList.getD j 0))) rfl rfl rfl rfl) ?_;refine cZ [2] (by kernel_rfl) rfl ?_;refine aG rfl ?_ ?_
 refine tp (ic (v:=(.int .i64 ((L9 (ce a) key i ow (Kl (ce a) key i ow (tN (ce a) key (io a) i)) j).getD ow 0))) rfl Y3 rfl rfl (fj 3 rfl rfl) (Hy (by omega) (by simp only[Kl,Od,cK,rE,iP,ee];omega))) ?_;refine ax ?_;refine wo (λ_ s=>⟨fm s,s.block 2 (lb rfl) rfl,trivial⟩) ?_;refine ta 16 rfl (cN (r:=(fR ((L9 (ce a) key i ow (Kl (ce a) key i ow (tN (ce a) key (io a) i)) j).getD ow 0+fR ((je (ce a) key j).given.toList.getD i 0- (je (ce a) key i).given.toList.getD j 0)))) rfl rfl rfl rfl) ?_;refine ta 17 rfl (ox (r:=ow) rfl ke aR rfl rfl (by omega) (by omega) (by omega)) ?_;refine cZ [18] (by kernel_rfl) rfl ?_;refine aG rfl ?_ ?_;refine bF (i:=3) (H':=[bV c a g,wm a d2 r2,ak b7 (ints ((qc (ce a) key 5).toList.flatMap CellT.flat)) 94,ak b5 (ints (Od (ce a) key i ow j (L9 (ce a) key i ow (Kl (ce a) key i ow (tN (ce a) key (io a) i)) j))) 30,ak b4 (ints (#v[0,0,0,0,0]).toList) 30]) (ab rfl) rfl rfl rfl rfl rfl aR rfl rfl (by simp only[ints_length,Kl,Od,cK,rE,iP,ee];omega) (Lk (by omega)) rfl ?_;refine ax ?_;refine wo (λ_ s=>⟨fm s,s.block 2 (lb rfl) rfl,trivial⟩) ?_;refine TD.done (by kernel_rfl) ?_;refine ai ?_;refine ae J28 ?_;refine af ?_;refine tp (cN rfl rfl rfl (bY (by omega) (by omega))) ?_;refine mv ?_;refine ax ?_
 exact aM ((j+1):(Nat)) (by omega) (by show 5- (j+1)<5-j;omega)
  (aS (aS (aS (aS (aS (aS (aS (bJ rfl (by simp) (O9 _)))))))))
  (λ_ s=>s)
 exact bM;exact bM;refine nx J26 ?_;refine aa λ_ J30=>?_
 refine HJ rfl ?_;refine aX ?_;refine aC ?_;refine aC ?_;refine bq ?_;refine ai ?_;refine ae J20 ?_;refine af ?_;refine tp (cN rfl rfl rfl (bY (by omega) (by omega))) ?_;refine mv ?_;refine ax ?_
 exact aM ((i+1):(Nat)) (by omega) (by show 5- (i+1)<5-i;omega)
  (aS (aS (aS (aS (bJ rfl (by simp) (O9 _))))))
  (λ_ q=>by show bH [bV c a g,wm a d2 r2,ak b7 (ints ((qc (ce a) key 5).toList.flatMap CellT.flat)) 94,ak b5 (ints (tN (ce a) key (io a) (i+1))) 30,ak b4 (ints (#v[0,0,0,0,0]).toList) 30] _;rw[tN,if_pos (by omega),show(ua (io a) i).toNat=ow by omega];rw[show j=5 by omega]at q;exact an [0,0,0,0,0] rfl q)
 exact bM;exact bM;refine nx J18 ?_;refine aa λ_ J31=>?_
 refine HJ rfl ?_;refine aX ?_;refine aC ?_;refine aC ?_;refine bq ?_;refine ae J16 ?_;refine sr λ_ J32=>?_
 obtain rfl:i=5:=by omega
 refine tp (aP (vs:=ints (tN (ce a) key (io a) 5)) rfl ke rfl e8 rfl (fj 3 rfl rfl) (by simp only[ints_length,iP]) (by rw[ba,az (by simp only[ints_length,iP];exact aH _)])) ?_;refine bT (vs:=ints (tN (ce a) key (io a) 5)) (i:=4) (H':=[bV c a g,wm a d2 r2,ak b7 (ints ((qc (ce a) key 5).toList.flatMap CellT.flat)) 94,ak b5 (ints (tN (ce a) key (io a) 5)) 30,ak b4 (ints (tN (ce a) key (io a) 5)) 30]) (ab rfl) rfl rfl rfl rfl rfl (by simp only[ints_length,iP];exact e8) (bw _) rfl rfl (by simp only[ints_length,iP];exact aH _) (gE (by simp only[ints_length,iP];rfl)) rfl ?_;refine nx J32 ?_;refine aj ?_;refine zI (H':=[bV c a g,wm a d2 r2]) rfl rfl ke rfl e8 (fj 4 rfl rfl) (by rw[ints_length,iP]) (λ_ s=>an [0,0] rfl s) ?_;exact .inr ⟨by omega,d2,r2,rfl,rfl⟩
theorem Gm{a:CL}{i:Nat}(h:(a.at' i).up=false):iF a i=OP i:=by
 unfold iF;split
 · rw[h];rfl
 · rfl
theorem En{a:CL}{i:Nat}{s:MS LD}(hs:(a.at' i).run=some s)(h:(a.at' i).up=true):iF a i=O6 i s:=by
 unfold iF;rw[hs,h];rfl
theorem K8{a:CL}{i:Nat}{s:MS LD}(hs:(a.at' i).run=some s)(h:(a.at' i).up=true):p1 a i=O6 i s++lp (a.at' i).reps:=by
 unfold p1 iF;rw[hs,h];rfl
theorem C5(t c:Nat)(A v:Value)(bs:List UInt8)(a:CL)(g:CX)(i:Nat)(hi:i<5)(hA:A= .pointer none∨A= .pointer (some ⟨t,1,none⟩))(hv:v.oneCell'=true)(hb:bs.length≤500000)(n:Nat)(h:TOk n a)(hn:n≤1200):
 DT 38 #[(.pointer (some ⟨t,0,none⟩)),(.int .i64 (((i:Nat):Int)))] (TabR) [ak t [(.pointer (some ⟨c,0,none⟩)),A,v] 102,cw v (bs) 5,bV c a g] (dA (λ_ H=>∃v',v'.oneCell'=true∧H=[ak t [(.pointer (some ⟨c,0,none⟩)),(.pointer (some ⟨t,1,none⟩)),v'] 102,cw v' (bs++p1 a i) 5,bV c a g])):=by
 refine Leg.Does.body (n:=63) Tryz.func38 rfl rfl rfl (λw0 F hF=>sr λ_ J1=>PS ?_);refine CF Pw (yw ((i:Nat):Int) (kK (by omega))) (λ_ s=>s) (λ_ d _=>lH hF d) ?_;have hit:=ol (n:=((i:Nat):Int)) (kK (by omega));refine tp (dd (a:=[109,97,99,104,105,110,101,32]) (b:=Lib.itoa ((i:Nat):Int)) rfl rfl rfl (by simp only[ah,ao];omega)) ?_;refine PS ?_;refine nx J1 (aa λ_ J2=>e7 (α:=(Value)) (λw9=>w9.oneCell'=true) (λw9=>[(0,(.pointer (some ⟨t,0,none⟩))),(1,(.int .i64 (((i:Nat):Int))))]) (λw9=>[ak t [(.pointer (some ⟨c,0,none⟩)),(.pointer (some ⟨t,1,none⟩)),w9] 102,cw w9 (bs++iF a i) 5,bV c a g]) (λw9 hinv=>?_) (λtl2=>?_));have hw9:=hinv;refine ae J2 (sr λ_ J3=>PS ?_);refine PS ?_;refine FA 0 JF Mp ?_;refine LA 0 QH ?_;refine PS ?_;refine CR MM (xP (i:=i) h.ok (by omega) hi) (SM [2]) λvR HR hR=>?_
 obtain⟨_,h1ur,rfl,rfl⟩:=hR;revert vR;intro ur h1ur;refine iV 1 rfl rfl (λhlr _=>?_);have hrn:=h.reps hi;refine tp (dI rfl HI rfl hlr) ?_;refine PS ?_;refine nx J3 (av ?_)
 refine bz (α:=(Nat)×(Value)) (λ⟨k,v2⟩=>k≤(a.at' i).reps.length∧v2.oneCell'=true) (λ⟨k,v2⟩=>[(0,(.pointer (some ⟨t,0,none⟩))),(47,ur),(48,(.int .i64 ((((a.at' i).reps.length:Nat):Int)))),(49,(.int .i64 (((k:Nat):Int))))]) (λ⟨k,v2⟩=>[ak t [(.pointer (some ⟨c,0,none⟩)),(.pointer (some ⟨t,1,none⟩)),v2] 102,cw v2 (bs++iF a i++lp ((a.at' i).reps.take k)) 5,bV c a g,own ur (((a.at' i).reps).length) (ints (List.flatMap ReplyT.flat ((a.at' i).reps))) 47 3]) (λ⟨k,v2⟩=>(a.at' i).reps.length-k) (0,w9)
  ⟨aO _,hw9⟩ SB
  (λ_ s=>by show bH [ak t [(.pointer (some ⟨c,0,none⟩)),(.pointer (some ⟨t,1,none⟩)),w9] 102,cw w9 (bs++iF a i++lp ((a.at' i).reps.take 0)) 5,bV c a g,own ur (((a.at' i).reps).length) (ints (List.flatMap ReplyT.flat ((a.at' i).reps))) 47 3] _;rw[show bs++iF a i++lp ((a.at' i).reps.take 0)=bs++iF a i from aL _];exact an [2,2,0,0] rfl s) (λ⟨k,v2⟩ hinv=>?_)
 obtain⟨hk,hv2⟩:=hinv;have hrl:=rG (l:=(a.at' i).reps.take k) (λr hr=>h.rws i r (gj hr));rw[aZ]at hrl;have hhd:(iF a i).length≤200:=rR h hi;refine sr λ_ J4=>PS ?_
 refine aq (λh50=>?_) (λh50=>?_);have hkr:k< (a.at' i).reps.length:=by omega
 obtain⟨r,hr⟩: ∃r,r=(a.at' i).reps[k]:=⟨_,rfl⟩;have hrm:r∈(a.at' i).reps:=by rw[hr];exact df hkr
 have hfr:=Er ReplyT.flat_length (a.at' i).reps hkr;rw[←hr]at hfr;refine iI 3 rfl rfl (by omega) (λgr capr hvr hcapr=>nx J4 (aa λ_ J5=>CY (qx J5 (aa λ_ J6=>av (sr λ_ J7=>tp (bO (r:=k*3) hvr rfl HI H6 rfl rfl (by omega) (by omega) (by omega)) ?_)))));refine tp (Fq (vs:=ints r.flat) rfl Ni rfl H6 rfl (fQ 3 rfl hvr rfl) (zK _) hfr) ?_;refine XA Se λb9=>?_
 change TL _ _ _ _ _ _ _ _ _ [ak b9 (ints ReplyT.zero.flat) 47,ak t [(.pointer (some ⟨c,0,none⟩)),(.pointer (some ⟨t,1,none⟩)),v2] 102,cw v2 (bs++iF a i++lp ((a.at' i).reps.take k)) 5,bV c a g,own ur (((a.at' i).reps).length) (ints (List.flatMap ReplyT.flat ((a.at' i).reps))) 47 3];refine bT (vs:=ints r.flat) (i:=0) (ab rfl) rfl rfl rfl rfl rfl (by rw[(zK r)];exact H6) (bw _) rfl rfl (LC (zK _) (zK _)) (cC ((zK ReplyT.zero).trans (zK r).symm)) rfl (nx J7 (af (PS ?_)));refine FA 0 Ni aR ?_;refine tp (ic (v:=(.int .i64 (r.op))) rfl Y3 rfl rfl (RO 0) (ReplyT.at_op r rfl)) ?_;refine FA 1 Ni Pi ?_;refine tp (ic (v:=(.int .i64 (r.err))) rfl Tryz.underlying45 rfl rfl (RO 0) (ReplyT.at_err r rfl)) ?_;refine FA 2 Ni aR ?_;refine tp (ic (v:=(.int .i64 (r.value))) rfl Y3 rfl rfl (RO 0) (ReplyT.at_value r rfl)) ?_;refine aT (cells:=#[(.int .i64 (r.op)),(.int .i64 (r.err)),(.int .i64 (r.value))]) (ab rfl) rfl rfl rfl jx p2 rfl rfl rfl (by as_aux_lemma=>kernel_rfl) (λb60=>?_);change TL _ _ _ _ _ _ _ _ _ [ak b60 [(.int .i64 (r.op)),(.int .i64 (r.err)),(.int .i64 (r.value))] 3,ak b9 (ints r.flat) 47,ak t [(.pointer (some ⟨c,0,none⟩)),(.pointer (some ⟨t,1,none⟩)),v2] 102,cw v2 (bs++iF a i++lp ((a.at' i).reps.take k)) 5,bV c a g,own ur (((a.at' i).reps).length) (ints (List.flatMap ReplyT.flat ((a.at' i).reps))) 47 3]
 refine cz (H':=[own (.slice (some ⟨b60,0,none⟩) (3) (3)) (3) ([.int .i64 r.op, .int .i64 r.err, .int .i64 r.value]) 3 1,ak b9 (ints r.flat) 47,ak t [(.pointer (some ⟨c,0,none⟩)),(.pointer (some ⟨t,1,none⟩)),v2] 102,cw v2 (bs++iF a i++lp ((a.at' i).reps.take k)) 5,bV c a g,own ur (((a.at' i).reps).length) (ints (List.flatMap ReplyT.flat ((a.at' i).reps))) 47 3]) (λ_ s=>pz (g:=b60) (cap:=3) (nn:=3) (e:=3) (cur:=[.int .i64 r.op, .int .i64 r.err, .int .i64 r.value]) (xs:=[.int .i64 r.op, .int .i64 r.err, .int .i64 r.value]) 0 rfl rfl (by decide) (by decide) rfl rfl s) (CQ KJ (nR t c (.pointer (some ⟨t,1,none⟩)) v2 (.slice (some ⟨b60,0,none⟩) (3) (3)) (bs++iF a i++lp ((a.at' i).reps.take k)) ([114,101,112,108,121]) [r.op,r.err,r.value] (Or.inr rfl) hv2 (Ba (h.rws i r hrm)) (by simp only[ac,ah,ao];omega)) (SM [2,2]) (λg_ d s_=>⟨rO (l:=[r.op,r.err,r.value]) 0 rfl rfl g_ d s_,lH hF d⟩) λvR HR hR=>?_);obtain⟨w1,hw1,rfl⟩:=hR;refine ax (ai (ae J6 (af (AD ?_))));refine PS ?_;refine ax ?_
 exact aM ((k+1,w1):(Nat)×(Value)) ⟨by omega,hw1⟩ (by show(a.at' i).reps.length- (k+1)< (a.at' i).reps.length-k;omega)
  SB
  (λ_ s=>by show bH [ak t [(.pointer (some ⟨c,0,none⟩)),(.pointer (some ⟨t,1,none⟩)),w1] 102,cw w1 (bs++iF a i++lp ((a.at' i).reps.take (k+1))) 5,bV c a g,own ur (((a.at' i).reps).length) (ints (List.flatMap ReplyT.flat ((a.at' i).reps))) 47 3] _;rw[xO (a.at' i).reps hkr,←hr,←aI];exact an [0,0,2,2] rfl s)
 exact nx J4 (aa λ_ J8=>CN (aX (aC (aC (bq (aF (H':=[ak t [(.pointer (some ⟨c,0,none⟩)),(.pointer (some ⟨t,1,none⟩)),v2] 102,cw v2 (bs++p1 a i) 5,bV c a g]) (dH _) (λ_ s=>by rw[show bs++p1 a i=bs++iF a i++lp ((a.at' i).reps.take k)by rw[az (by omega),p1,aI]];exact an [0,0,0] rfl s) (bC rfl ⟨_,hv2,rfl⟩)))))));refine sr λ_ J9=>PS ?_
 refine PS ?_;refine FA 0 JF Mp ?_;refine LA 0 QH ?_;refine PS ?_;refine CR OE (sQ (i:=i) hi) (SM [2]) λvR HR hR=>?_
 rcases hR with⟨hup,rfl,rfl⟩| ⟨sm,hrun,hup,rfl,rfl⟩
 refine PS ?_;refine nx J9 (sr λ_ J10=>PS ?_);refine tp (pk rfl uG rfl rfl) ?_;refine nx J10 (CY (af (PS ?_)));refine PS ?_;refine tp (dd (a:=[109,97,99,104,105,110,101,32]++Lib.itoa ((i:Nat):Int)) (b:=[32,100,111,119,110]) rfl rfl rfl (by simp only[ac,ah,ao];omega)) ?_;refine CQ KJ (nR t c A v (.slice none 0 0) (bs) ([109,97,99,104,105,110,101,32]++Lib.itoa ((i:Nat):Int)++[32,100,111,119,110]) [] hA hv Bb (by simp only[ac,ah,ao];omega)) (SM [1,1]) (λ_ d _=>⟨Or.inl ⟨rfl,rfl⟩,lH hF d⟩) λvR HR hR=>?_
 obtain⟨w1,hw1,rfl⟩:=hR;refine ax ?_
 exact aF
  SB
  (λ_ s=>by show bH [ak t [(.pointer (some ⟨c,0,none⟩)),(.pointer (some ⟨t,1,none⟩)),w1] 102,cw w1 (bs++iF a i) 5,bV c a g] _;rw[Gm hup];exact an [0,0,0] rfl s)
  (tl2 ((w1):(Value)) hw1)
 have hsok:=h.run hi hrun;refine PS ?_;refine nx J9 (sr λ_ J11=>PS ?_);refine tp (iW rfl uG rfl rfl) ?_;refine nx J11 (CN (sr λ_ J12=>PS ?_));refine CE I0 (AB (i:=i) hi hrun (lS sm (g.d i) (g.r i))) (λ_ s=>s) ?_;refine XA tj λb6=>?_
 change TL _ _ _ _ _ _ _ _ _ [ak b6 (ints ViewT.zero.flat) 32,bV c a g,ak t [(.pointer (some ⟨c,0,none⟩)),A,v] 102,cw v (bs) 5];refine bT (vs:=ints sm.view.flat) (i:=0) (ab rfl) rfl rfl rfl rfl rfl (by rw[(ap sm.view)];exact bm) (bw _) rfl rfl (LC (ap _) (ap _)) (cC ((ap ViewT.zero).trans (ap sm.view).symm)) rfl (nx J12 (aa λ_ J13=>D1 0 dx ?_));refine FD 0 0 eO aR ?_;refine ta 1 rfl (ic (v:=(.int .i64 (sm.view.epoch))) rfl Y3 rfl rfl (λ_ h=>h.2.1) (be sm.view rfl)) ?_;refine PD 2 ?_;refine FD 6 1 eO aR ?_;refine ta 7 rfl (ic (v:=(.int .i64 (sm.view.members))) rfl Y3 rfl rfl (λ_ h=>h.2.1) (iU sm.view rfl)) ?_;refine AL 3 ?_;refine CE Qc (AB (i:=i) hi hrun (Av sm (g.d i) (g.r i))) (SM [1]) ?_;refine ax (E1 1 (ta 4 rfl (y5 (cs:=ints sm.own.flat) (v:=Value.int .i64 sm.own.version) rfl ec rfl Y3 rfl rfl (cB sm.own rfl)) ?_));refine cZ [5,8] (by kernel_rfl) rfl (aG rfl ?_ ?_);refine aT (cells:=#[(.int .i64 (sm.view.epoch)),(.int .i64 (sm.own.version))]) (ab rfl) rfl rfl rfl jx p2 rfl rfl rfl (by as_aux_lemma=>kernel_rfl) (λb32=>ax (E1 2 (AL 8 ?_)));refine CR KV (mo sm.view.members) (λ_ s=>s) λvR HR hR=>?_
 obtain⟨_,rfl,rfl⟩:=hR;revert vR;intro us;have hsl:=tO sm.view.members;refine ax (E1 3 (AL 9 ?_));refine cz (H':=[own us ((jy sm.view.members).length) (ints (jy sm.view.members)) 3 1,own (.slice (some ⟨b32,0,none⟩) (2) (2)) (2) ([.int .i64 sm.view.epoch, .int .i64 sm.own.version]) 3 1,bV c a g,ak b6 (ints sm.view.flat) 32,ak t [(.pointer (some ⟨c,0,none⟩)),A,v] 102,cw v (bs) 5]) (λ_ s=>pz (g:=b32) (cap:=2) (nn:=2) (e:=3) (cur:=[.int .i64 sm.view.epoch, .int .i64 sm.own.version]) (xs:=[.int .i64 sm.view.epoch, .int .i64 sm.own.version]) 1 rfl rfl (by decide) (by decide) rfl rfl s) (cF (k:=1) (news:=ints (jy sm.view.members)) (nn':=(uR sm).length) (xs':=ints (uR sm)) (ab rfl) rfl rfl rfl jx p2 rfl rfl rfl rfl rfl rfl (λ_ s=>Fp 0 rfl rfl s) (bw _) (by simp only[maxLen];omega) (by omega) (by simp only[uR,ah];omega) rfl (λv36 ov36=>ax (E1 3 (PD 10 ?_))));refine DN (ae J13 (af (PS ?_)));refine PS ?_;refine tp (dd (a:=[109,97,99,104,105,110,101,32]++Lib.itoa ((i:Nat):Int)) (b:=[32,117,112]) rfl rfl rfl (by simp only[ac,ah,ao];omega)) ?_;refine PS ?_;refine CQ KJ (nR t c A v v36 (bs) ([109,97,99,104,105,110,101,32]++Lib.itoa ((i:Nat):Int)++[32,117,112]) (uR sm) hA hv all64_up (by have hul:=wP sm;simp only[ac,ah,ao];omega)) (SM [4,4]) (λg_ d s_=>⟨rO (l:=uR sm) 1 rfl rfl g_ d s_,lH hF d⟩) λvR HR hR=>?_
 obtain⟨w1,hw1,rfl⟩:=hR;refine ax ?_
 exact aF
  SB
  (λ_ s=>by show bH [ak t [(.pointer (some ⟨c,0,none⟩)),(.pointer (some ⟨t,1,none⟩)),w1] 102,cw w1 (bs++iF a i) 5,bV c a g] _;rw[En hrun hup];exact an [0,0,2] rfl s)
  (tl2 ((w1):(Value)) hw1)
 refine aG rfl ?_ ?_;refine CR KV (mo sm.view.members) (λ_ s=>s) λvR HR hR=>?_
 obtain⟨_,rfl,rfl⟩:=hR;revert vR;intro us;have hsl:=tO sm.view.members;refine ax (E1 2 (AL 5 ?_));refine aT (cells:=#[(.int .i64 (sm.view.epoch)),(.int .i64 (sm.own.version))]) (ab rfl) rfl rfl rfl jx p2 rfl rfl rfl (by as_aux_lemma=>kernel_rfl) (λb32=>ax (E1 3 (AL 9 ?_)));refine cz (H':=[own (.slice (some ⟨b32,0,none⟩) (2) (2)) (2) ([.int .i64 sm.view.epoch, .int .i64 sm.own.version]) 3 1,own us ((jy sm.view.members).length) (ints (jy sm.view.members)) 3 1,bV c a g,ak b6 (ints sm.view.flat) 32,ak t [(.pointer (some ⟨c,0,none⟩)),A,v] 102,cw v (bs) 5]) (λ_ s=>pz (g:=b32) (cap:=2) (nn:=2) (e:=3) (cur:=[.int .i64 sm.view.epoch, .int .i64 sm.own.version]) (xs:=[.int .i64 sm.view.epoch, .int .i64 sm.own.version]) 0 rfl rfl (by decide) (by decide) rfl rfl s) (cF (k:=0) (news:=ints (jy sm.view.members)) (nn':=(uR sm).length) (xs':=ints (uR sm)) (ab rfl) rfl rfl rfl jx p2 rfl rfl rfl rfl rfl rfl (λ_ s=>Fp 1 rfl rfl s) (bw _) (by simp only[maxLen];omega) (by omega) (by simp only[uR,ah];omega) rfl (λv36 ov36=>ax (E1 3 (PD 10 ?_))));refine DN (ae J13 (af (PS ?_)));refine PS ?_;refine tp (dd (a:=[109,97,99,104,105,110,101,32]++Lib.itoa ((i:Nat):Int)) (b:=[32,117,112]) rfl rfl rfl (by simp only[ac,ah,ao];omega)) ?_;refine PS ?_
 refine CQ KJ (nR t c A v v36 (bs) ([109,97,99,104,105,110,101,32]++Lib.itoa ((i:Nat):Int)++[32,117,112]) (uR sm) hA hv all64_up (by have hul:=wP sm;simp only[ac,ah,ao];omega)) (SM [4,4]) (λg_ d s_=>⟨rO (l:=uR sm) 0 rfl rfl g_ d s_,lH hF d⟩) λvR HR hR=>?_
 obtain⟨w1,hw1,rfl⟩:=hR;refine ax ?_
 exact aF
  SB
  (λ_ s=>by show bH [ak t [(.pointer (some ⟨c,0,none⟩)),(.pointer (some ⟨t,1,none⟩)),w1] 102,cw w1 (bs++iF a i) 5,bV c a g] _;rw[En hrun hup];exact an [0,0,2] rfl s)
  (tl2 ((w1):(Value)) hw1)
 exact bM
def za(a:CL)(k:Nat):Vector Int 5:=⟨(tN (ce a) ((k:Nat):Int) (io a) 5).toArray,by simp[iP]⟩
theorem tM(a:CL)(k:Nat):(za a k).toList=tN (ce a) ((k:Nat):Int) (io a) 5:=by simp[za]
theorem HD(a:CL)(k:Nat):pP a k=((k:Nat):Int)::eN (ce a) ((k:Nat):Int)::(za a k).toList:=by rw[tM];rfl
theorem H3(a:CL):0< (oT a).length:=by
 have:0< (EO a 3).length:=by unfold EO mV;simp only[ac,ah];omega
 rw[oT,ac,pO,ac];omega
theorem H4{n:Nat}{a:CL}(h:TOk n a)(hn:n≤1200):(oT a).length≤1000000:=by
 have h1:=nP h (i:=5) (by omega);have h2:=rT a (k:=4) (by omega);rw[oT,ac];omega
theorem qE(c:Nat)(a:CL)(g:CX)(n:Nat)(h:TOk n a)(hn:n≤1200):
 DT 19 #[(.pointer (some ⟨c,0,none⟩))] (TabR) [bV c a g] (RI (iZ (oT a)) [bV c a g]):=by
 refine BD 40 Tryz.func19 rfl rfl rfl λw0 F hF=>sr λ_ J1=>PS ?_
 refine nx J1 (sr λ_ J2=>PS ?_);refine BV #[(.pointer (some ⟨c,0,none⟩)),(.pointer none),(.slice none 0 0)] ?_;refine XB λb10=>?_
 refine PS ?_;refine nx J2 (aa λ_ J3=>sr λ_ J4=>PS ?_);refine nx J4 (av ?_)
 refine bz (α:=(Nat)×(Value)×(Value)) (λ⟨i,A,v⟩=>i≤5∧(A= .pointer none∨A=(.pointer (some ⟨b10,1,none⟩)))∧v.oneCell'=true∧(0<i→A=(.pointer (some ⟨b10,1,none⟩)))) (λ⟨i,A,v⟩=>[(0,(.pointer (some ⟨c,0,none⟩))),(2,(iZ ([]))),(3,(.pointer (some ⟨b10,0,none⟩))),(11,(.int .i64 (((i:Nat):Int))))]) (λ⟨i,A,v⟩=>[ak b10 [(.pointer (some ⟨c,0,none⟩)),A,v] 102,cw v (eM a i) 5,bV c a g]) (λ⟨i,A,v⟩=>5-i) (0, .pointer none, .slice none 0 0)
  ⟨aO _,Or.inl rfl,rfl,λh=>absurd h (by decide)⟩ SB
  (λ_ s=>aD [1,0,0] rfl (gI 5 1 s)) (λ⟨i,A,v⟩ hinv=>?_)
 obtain⟨hi,hA,hv,hself⟩:=hinv;have hml:=nP h (i:=i) (by omega);have hml5:i* (200+72*n)≤5* (200+72*n):=ig _ (by omega);refine sr λ_ J5=>PS ?_
 refine aq ?_ ?_<;>intro h12;refine nx J5 (aa λ_ J6=>CY (qx J6 (aa λ_ J7=>av (sr λ_ J8=>P2 ?_))));refine nx J8 (af (P2 ?_));refine CQ RJ (C5 b10 c A v (eM a i) a g i (by omega) hA hv (by omega) n h hn) ID (λ_ d _=>lH hF d) λvR HR hR=>?_
 obtain⟨w1,hw1,rfl⟩:=hR;refine ax (ai (ae J7 (af (AD ?_))));refine PS ?_;refine ax ?_
 exact aM ((i+1,(.pointer (some ⟨b10,1,none⟩)),w1):(Nat)×(Value)×(Value)) ⟨by omega,Or.inr rfl,hw1,λ_=>rfl⟩ (by show 5- (i+1)<5-i;omega)
  SB
  (λ_ s=>by
   show bH [ak b10 [(.pointer (some ⟨c,0,none⟩)),(.pointer (some ⟨b10,1,none⟩)),w1] 102,cw w1 (eM a (i+1)) 5,bV c a g] _;rw[qY]
   exact an [0,0,0] rfl s)
 obtain rfl:A=(.pointer (some ⟨b10,1,none⟩)):=hself (by omega);obtain rfl:i=5:=by omega
 refine nx J5 (aa λ_ J9=>CN (aX (aC (aC (bq (ae J3 (sr λ_ J10=>PS ?_)))))));refine CR OD (qC c n a g h.ok) (SM [2]) λvR HR hR=>?_
 obtain⟨bt,d,r,rfl,rfl⟩:=hR;refine PS ?_;refine nx J10 (aa λ_ J11=>sr λ_ J12=>PS ?_);refine nx J12 (av ?_)
 refine bz (α:=(Nat)×(Value)) (λ⟨k,v⟩=>k≤4∧v.oneCell'=true) (λ⟨k,v⟩=>[(0,(.pointer (some ⟨c,0,none⟩))),(2,(iZ ([]))),(3,(.pointer (some ⟨b10,0,none⟩))),(5,(.pointer (some ⟨bt,0,none⟩))),(20,(.int .i64 (((k:Nat):Int))))]) (λ⟨k,v⟩=>[ak b10 [(.pointer (some ⟨c,0,none⟩)),(.pointer (some ⟨b10,1,none⟩)),v] 102,cw v (eM a 5++kT a k) 5,bV c a g,ak bt (ints (ce a).flat) 85]) (λ⟨k,v⟩=>4-k) (0,v)
  ⟨aO _,hv⟩ SB
  (λ_ s=>by
  show bH [ak b10 [(.pointer (some ⟨c,0,none⟩)),(.pointer (some ⟨b10,1,none⟩)),v] 102,cw v (eM a 5++kT a 0) 5,bV c a g,ak bt (ints (ce a).flat) 85] _;rw[show eM a 5++kT a 0=eM a 5 from aL _]
  exact an [3,3,0,1] rfl s) (λ⟨k,v⟩ hinv=>?_)
 obtain⟨hk,hv⟩:=hinv;have hcl:=rT a (k:=k) (by omega);refine sr λ_ J13=>PS ?_
 refine aq ?_ ?_<;>intro h21;refine nx J13 (aa λ_ J14=>CY (qx J14 (aa λ_ J15=>av (sr λ_ J16=>P2 ?_))));refine nx J16 (sr λ_ J17=>P2 ?_);refine CR PO (tL c n a g h.ok ((k:Nat):Int)) (SM [2]) λvR HR hR=>?_
 obtain⟨_,d2,r2,hv3,rfl⟩:=hR.resolve_left (λq=>q.1 (by omega));rw[←tM]at hv3;obtain rfl:vR=(.agg (ints (za a k).toList).toArray):=hv3;refine XZ Pb (ints (#v[0,0,0,0,0]).toList) λb7=>?_
 refine bT (vs:=ints (za a k).toList) (i:=0) (ab rfl) rfl rfl rfl rfl rfl (by rw[(dC (za a k))];exact e8) (bw _) rfl rfl (by have h0:=(dC (#v[0,0,0,0,0]));have h1:=(dC (za a k));omega) (cC ((dC (#v[0,0,0,0,0])).trans (dC (za a k)).symm)) rfl (nx J17 (D0 dx ?_));refine PD 0 ?_;refine PD 1 ?_;refine PD 2 ?_;refine PD 3 ?_;refine ta 6 rfl (mA rfl ke aR rfl) ?_;refine AL 4 ?_;refine CE OC (nW bt 0 85 (λx=>ints x.flat) Q3 (ce a) ((k:Nat):Int)) (SM [5]) ?_;refine EN (AL 5 ?_);refine aT (cells:=#[(.int .i64 (((k:Nat):Int))),(.int .i64 ((eN (ce a) ((k:Nat):Int))))]) (ab rfl) rfl rfl rfl jx p2 rfl rfl rfl (by as_aux_lemma=>kernel_rfl) (λb31=>EN (AL 7 ?_))
 refine cz (H':=[own (.slice (some ⟨b31,0,none⟩) (2) (2)) (2) ([.int .i64 ((k:Nat):Int), .int .i64 (eN (ce a) ((k:Nat):Int))]) 3 1,ak bt (ints (ce a).flat) 85,ak b7 (ints (za a k).toList) 30,bV c a g,wm a d2 r2,ak b10 [(.pointer (some ⟨c,0,none⟩)),(.pointer (some ⟨b10,1,none⟩)),v] 102,cw v (eM a 5++kT a k) 5]) (λ_ s=>pz (g:=b31) (cap:=2) (nn:=2) (e:=3) (cur:=[.int .i64 ((k:Nat):Int), .int .i64 (eN (ce a) ((k:Nat):Int))]) (xs:=[.int .i64 ((k:Nat):Int), .int .i64 (eN (ce a) ((k:Nat):Int))]) 0 rfl rfl (by decide) (by decide) rfl rfl s) (cF (k:=0) (news:=ints (za a k).toList) (nn':=(pP a k).length) (xs':=ints (pP a k)) (ab rfl) rfl rfl rfl jx p2 rfl rfl rfl rfl rfl rfl (λ_ _=>jB (by rw[ints_length,aB]) (RO 2) (by rw[ba];exact az (aH _))) (bw _) (by decide) (by decide) (by rw[pe]) (by rw[HD];rfl) (λv33 ov33=>EN (AL 8 ?_)));refine CQ KJ (nR b10 c (.pointer (some ⟨b10,1,none⟩)) v v33 (eM a 5++kT a k) cW (pP a k) (Or.inr rfl) hv (vB a (by omega)) (by rw[ac,pe];simp only[cW,ah,ao];omega)) (SM [5,5]) (λg_ d s_=>⟨rO (l:=pP a k) 0 rfl rfl g_ d s_,lH hF d⟩) λvR HR hR=>?_
 obtain⟨w2,hw2,rfl⟩:=hR;refine EN (DN (ai (ae J15 (af (AD ?_)))));refine PS ?_;refine ax ?_
 exact aM ((k+1,w2):(Nat)×(Value)) ⟨by omega,hw2⟩ (by show 4- (k+1)<4-k;omega)
  SB
  (λ_ s=>by
   show bH [ak b10 [(.pointer (some ⟨c,0,none⟩)),(.pointer (some ⟨b10,1,none⟩)),w2] 102,cw w2 (eM a 5++kT a (k+1)) 5,bV c a g,ak bt (ints (ce a).flat) 85] _;rw[pO,←aI]
   exact an [0,0,3,1] rfl s)
 obtain rfl:k=4:=by omega
 refine nx J13 (aa λ_ J18=>CN (aX (aC (aC (bq (ae J11 (sr λ_ J19=>P2 ?_)))))));refine FA 1 JF xq ?_;refine CE RH (Dd b10 c v (oT a) (H3 a) (H4 h hn)) ID ?_;refine PS ?_;exact nx J19 (aj (WK [1] (aw rfl rfl ⟨rfl,rfl⟩)))
theorem xl(c:Nat)(a:CL)(n:Nat)(h:TOk n a)(hn:n≤1200):DT 19 #[.pointer (some ⟨c,0,none⟩)] TabR [gU c a] (RI (iZ (oT a)) [gU c a]):=
 Leg.Does.ex (A':=λg=>[bV c a g]) (λh s=>Lz s) λg=>Leg.Does.fold (qE c a g n h hn) λe H hp=>by
  cases e with
  |returned v=>obtain⟨rfl,rfl⟩:=hp;exact⟨_,λ_ s=>Js s,rfl,rfl⟩
  |panicked c=>exact hp.elim
  |outgrown=>exact hp.elim
theorem Eg{n:Int}(h:0≤n∧n<10):Lib.itoa n=M2 n:=by
 obtain⟨m,rfl⟩:=Int.eq_ofNat_of_zero_le h.1;rw[Lib.itoa_nonneg,Lib.decDigits_one (by omega)];rfl
theorem Aw: ∀{l:List Int},(∀n∈l,0≤n∧n<10)→gO l=KF l
 | [],_=>rfl
 |n::l,h=>by
  show 32::Lib.itoa n++gO l=32::M2 n++KF l;rw[Eg (h n (cn ..)),Aw λm hm=>h m (cI _ hm)]
def FN(l:List Int):Bool:=l.all λn=>decide (0≤n∧n<10)
theorem HH{p:Nat→Bool}{n:Nat}(h:(List.range n).all p=true)(i:Nat)(hi:i<n):p i=true:=List.all_eq_true.1 h i (ei.2 hi)
theorem H9{l:List Int}(h:FN l=true): ∀n∈l,0≤n∧n<10:=λn hn=>of_decide_eq_true (List.all_eq_true.1 h n hn)
theorem AE{ws:List UInt8}{l:List Int}(h:FN l=true):mV ws l=Hr ws l:=by unfold mV Hr;rw[Aw (H9 h)]
def Hh(i:Nat):Bool:=match(CL.new.at' i).run with
 |some s=>(CL.new.at' i).up&&(CL.new.at' i).reps.isEmpty&&decide (uR s=[1,0,0,1,2])
 |none=>false
theorem D5:((List.range 5).all Hh)=true:=by decide+kernel
theorem F5:((List.range 4).all λk=>decide (pP CL.new k=[((k:Nat):Int),0,0,0,0,0,0]))=true:=by decide+kernel
def NX(i:Nat):List UInt8:=Hr (mW++M2 ((i:Nat):Int)++[32,117,112]) [1,0,0,1,2]
def Qq(k:Nat):List UInt8:=Hr cW [((k:Nat):Int),0,0,0,0,0,0]
theorem qX{i:Nat}(hi:i<5):p1 CL.new i=NX i:=by
 have h:=HH D5 i hi;unfold Hh at h;cases hr:(CL.new.at' i).run with
 |none=>rw[hr]at h;cases h
 |some s=>
  rw[hr]at h;simp only[ay,decide_eq_true_eq]at h;rw[K8 hr h.1.1,List.isEmpty_iff.1 h.1.2,show lp []=[]from rfl,aL,O6,h.2,Eg (by omega),AE (by decide)];rfl
theorem wW{k:Nat}(hk:k<4):EO CL.new k=Qq k:=by
 have h:=of_decide_eq_true (HH F5 k hk);rw[EO,h,AE (by unfold FN;simp;omega)];rfl
theorem G2:oT CL.new=(List.range 5).flatMap NX++(List.range 4).flatMap Qq:=by
 show eM CL.new 5++kT CL.new 4=_;unfold eM kT;simp only[dh,List.range_zero,sw,cQ,List.flatMap_nil,bG,aL];rw[qX (i:=0) (by decide),qX (i:=1) (by decide),qX (i:=2) (by decide),qX (i:=3) (by decide),qX (i:=4) (by decide),wW (k:=0) (by decide),wW (k:=1) (by decide),wW (k:=2) (by decide),wW (k:=3) (by decide)]
theorem C4:(oT CL.new).length=203:=by rw[G2];decide+kernel
theorem JY:(oT CL.new).take 24=[109,97,99,104,105,110,101,32,48,32,117,112,32,49,32,48,32,48,32,49,32,50,10,109]:=by rw[G2];decide+kernel
theorem EM:
 DT 22 #[(.slice none 0 0)] T0 [] (RI (.slice none 0 0) []):=by
 refine BD 76 Tryz.func22 rfl rfl rfl λw0 F hF=>sr λ_ J1=>PS ?_
 refine nx J1 (sr λ_ J2=>PS ?_);refine nx J2 (aa λ_ J3=>av (ou 1 (aa λ_ J4=>sr λ_ J5=>PS ?_)));refine tp (n4 rfl gA rfl) ?_;refine PS ?_;refine nx J5 (CN (aX (aC (aC (bq (ae J3 (sr λ_ J6=>P2 ?_)))))));exact nx J6 (aj (WK [] (aw rfl rfl ⟨rfl,rfl⟩)))
theorem DH(c:Nat)(a:CL):
 DT 21 #[(.pointer (some ⟨c,0,none⟩)),(.slice none 0 0)] T0 [gU c a] (dA (λ_ H=>H=[gU c a])):=by
 refine BD 22 Tryz.func21 rfl rfl rfl λw0 F hF=>sr λ_ J1=>PS ?_
 refine nx J1 (sr λ_ J2=>PS ?_);refine nx J2 (aa λ_ J3=>sr λ_ J4=>PS ?_);refine tp (n4 rfl Rc rfl) ?_;refine PS ?_;refine nx J4 (av (ou 1 (sr λ_ J5=>PS ?_)));refine nx J5 (aa λ_ J6=>CN (aX (aC (aC (bq (ae J3 (sr λ_ J7=>P2 ?_)))))));exact nx J7 (aj (WK [0] (aw rfl rfl rfl)))
theorem Bs:
 DT 23 #[(.slice none 0 0)] (TabR) [] (RI (iZ (oT CL.new)) []):=by
 refine BD 11 Tryz.func23 rfl rfl rfl λw0 F hF=>sr λ_ J1=>PS ?_
 refine nx J1 (sr λ_ J2=>CR PK (Az) ID λvR HR hR=>?_);obtain⟨c,rfl,rfl⟩:=hR;refine PS ?_;refine nx J2 (sr λ_ J3=>P2 ?_);refine CE RR (EM) ID ?_;refine CZ RS (DH c CL.new) ID λvR=>?_
 refine nx J3 (sr λ_ J4=>PS ?_);refine CF PM (xl c CL.new 0 ⟨new_ok,Hg⟩ (by decide)) ID (λ_ d _=>lH hF d) ?_;refine PS ?_;exact nx J4 (aj (WK [] (aw rfl rfl ⟨rfl,rfl⟩)))
theorem Gr:
 DT 7 #[] (TabR) [] (RI (.bool true) []):=by
 refine BD 14 Tryz.func7 rfl rfl rfl λw0 F hF=>sr λ_ J1=>PS ?_
 refine nx J1 (sr λ_ J2=>CF RQ (Bs) ID (λ_ d _=>lH hF d) ?_);refine PS ?_;refine nx J2 (sr λ_ J3=>PS ?_);refine tp (QK (PV.strLen rfl Y9 rfl) (by rw[C4])) ?_;refine P3 ?_;refine tq (PV.strTo (hi:=24) rfl Y9 rfl rfl rfl (by rw[C4];decide)) ?_;refine tq (PV.strEql (a:=(oT CL.new).take 24) (b:=[109,97,99,104,105,110,101,32,48,32,117,112,32,49,32,48,32,48,32,49,32,50,10,109]) rfl rfl rfl) ?_;refine aq ?_ ?_<;>intro h9;refine P2 ?_;refine CR KK (ko 0) ID λvR HR hR=>?_
 obtain⟨hv,rfl⟩:=hR;rw[show F0 0=true by decide]at hv;subst hv;refine P2 ?_;exact nx J3 (aj (WK [] (aw rfl rfl ⟨rfl,rfl⟩)))
 · exact absurd JY h9
theorem Mn(l:List OpT)(h: ∀o∈l,OkOp o)(hl:l.length≤100000):TOk l.length (qR .new l):=⟨(BF l new_ok h).more (by omega),G6 l new_ok yh Hg h (by omega)⟩
end Go.Proofs.YtfocodjhmkokpaaGreatDoor
end

section
namespace Wal
open Go Leg Codec Api Dsk
def Worn(s x:il):Prop:=x.getD 63 0≠1∨∃c,c≤64∧x=List.replicate c 0++s.drop c
theorem Worn.zs{s:il}:Worn s zs:= .inl Bf
theorem Worn.full{s:il}:Worn s s:= .inr ⟨0,by omega,by simp⟩
theorem G1{x:il}{c:Nat}(hc:c≤64):lN x zs c=List.replicate c 0++x.drop c:=by
 unfold lN Dsk.zs;rw[GU,Nat.min_eq_left hc]
theorem zY{x:il}{c:Nat}(hx:x.length=64)(h:x.getD 63 0≠1)(hc:c≤64):(List.replicate c 0++x.drop c).getD 63 0≠1:=by
 rw[List.getD_eq_getElem?_getD]
 by_cases q:c=64
 · subst q
   rw[List.getElem?_append_left (by simp)];simp
 · rw[List.getElem?_append_right (by rw[ee];omega),ee,List.getElem?_drop,show c+(63-c)=63 by omega]
   rwa [List.getD_eq_getElem?_getD]at h
theorem Worn.torn{s x:il}(hx:x.length=64)(h:Worn s x){c:Nat}(hc:c≤64):Worn s (lN x Dsk.zs c):=by
 rw[G1 hc];rcases h with h| ⟨d,hd,rfl⟩
 · exact .inl (zY hx h hc)
 · right
   by_cases q:c≤d
   · refine⟨d,hd,?_⟩
     rw[ii (by simpa using q),GV,←aI,List.replicate_append_replicate,show c+(d-c)=d by omega]
   · refine⟨c,hc,?_⟩
     rw[gV,ct (by rw[ee];omega),ee,jg,bG,show d+(c-d)=c by omega]
theorem FY{x b:il}{number place all:Int}(hx:x.length=64)(h:e9 x number place=some (b,all)):E8 (x.take 4)=number:=by
 unfold e9 at h;split at h
 · cases h
 · rename_i t ht
   split at h
   · cases h
   · split at h
     · cases h
     · rename_i h2
       have e:t=(x.take 63).take ((x.take 63).length-4):=by
        unfold mQ at ht;split at ht
        · cases ht
        · split at ht
          · exact(bK ht).symm
          · cases ht
       have e2:t.take 4=x.take 4:=by
        rw[e,Fj,Fj,aZ];congr 1;omega
       rw[e2]at h2;exact Decidable.not_not.1 λq=>h2 (.inl q)
theorem Worn.piece{number place all':Int}{pl al:Nat}{p b x:il}(hp:p.length≤52)(h0:0<number)(h1:number<65536)(h:Worn (mS number pl al p) x)(hx:x.length=64)(q:e9 x number place=some (b,all')):x=mS number pl al p:=by
 rcases h with h| ⟨c,hc,rfl⟩
 · rw[nJ h]at q;cases q
 · have e:=FY hx q
   obtain⟨r,hr⟩: ∃r,mS number pl al p=0::0::r8 (number.fdiv 256)::r8 number::r:=by
    have a1:r8 (number.fdiv 16777216)=0:=by
     have:=kb (number.fdiv 16777216);rw[Int.fdiv_eq_ediv_of_nonneg _ (by decide)]at this ⊢;apply UInt8.toNat_inj.1;show _=0;omega
    have a2:r8 (number.fdiv 65536)=0:=by
     have:=kb (number.fdiv 65536);rw[Int.fdiv_eq_ediv_of_nonneg _ (by decide)]at this ⊢;apply UInt8.toNat_inj.1;show _=0;omega
    exact⟨_,by unfold mS jG qa LO;rw[a1,a2];rfl⟩
   have z4:c=3∨4≤c→E8 ((List.replicate c 0++(mS number pl al p).drop c).take 4)=if c=3 then number%256 else 0:=λhc'=>by
    rcases hc' with rfl|hc'
    · rw[hr,if_pos rfl]
      show E8 [0,0,0,r8 number]=_;rw[yW,kb];simp
    · rw[if_neg (by omega),co (by simpa using hc'),GU,Nat.min_eq_left hc']
      show E8 [0,0,0,0]=0;rw[yW];rfl
   match c,hc with
   |0,_=>rfl
   |1,_=>rw[hr];rfl
   |2,_=>rw[hr];rfl
   |3,_=>
    rw[z4 (.inl rfl),if_pos rfl]at e
    have a3:r8 (number.fdiv 256)=0:=by
     have:=kb (number.fdiv 256);rw[Int.fdiv_eq_ediv_of_nonneg _ (by decide)]at this ⊢;apply UInt8.toNat_inj.1;show _=0;omega
    rw[hr,a3];rfl
   |c+4,hc=>
    rw[z4 (.inr (by omega)),if_neg (by omega)]at e;omega
structure Rub(rd:Int→il)(ls:List (List UInt8))(bs:List UInt8):Prop where
 len: ∀j,(rd j).length=64
 shows:Shows rd 0 (gX 0 ls)
 worn: ∀i (h:i< (bl ((ls.length+1:Nat):Int) bs).length),Worn (bl ((ls.length+1:Nat):Int) bs)[i] (rd (((cG ls:Nat):Int)+i))
 rest: ∀j,((cG ls+bc bs.length:Nat):Int)≤j→(rd j).getD 63 0≠1
theorem Rub.scan{rd:Int→il}{ls:List (List UInt8)}{bs:List UInt8}(h:Rub rd ls bs)(hsh: ∀b∈ls,b.length≤3000)(hb:bs.length≤3000)(hro:cG ls+bc bs.length≤2048):
 ∃ls',(ls'=ls∨ls'=ls++[bs])∧fX rd iG 0 0=(ls',((cG ls':Nat):Int))∧Shows rd 0 (gX 0 ls'):=by
 have hge:=tK ls;have hpl:=pD hb;have hpp:=ml bs.length;have hss:(bl ((ls.length+1:Nat):Int) bs).length=bc bs.length:=cE _ _;obtain⟨f,hf⟩: ∃f,iG=ls.length+(f+1):=⟨iG-ls.length-1,by rw[q9];omega⟩;have sc:=xJ (rd:=rd) ls 0 0 (f+1) hsh (by omega) h.shows;rw[←hf,show((0:Nat):Int)=0 from rfl,Int.zero_add,bi,show(((gX 0 ls).length:Nat):Int)=((cG ls:Nat):Int)from rfl]at sc;cases hst:fH rd (((ls.length:Nat):Int)+1) ((cG ls:Nat):Int)with
 |none=>
  rw[rF hst]at sc;exact⟨ls, .inl rfl,by simpa using sc,h.shows⟩
 |some p=>
  obtain⟨b,all⟩:=p;obtain⟨f1,f2,f3⟩:=kj (h.len _) hst
  have pick: ∀(k:Nat) (hk:(k:Int)<all),∃hk2:k< (bl ((ls.length+1:Nat):Int) bs).length,rd (((cG ls:Nat):Int)+k)=(bl ((ls.length+1:Nat):Int) bs)[k]:=λk hk=>by
   obtain⟨x,hx⟩:=f3 k hk
   by_cases hk2:k< (bl ((ls.length+1:Nat):Int) bs).length
   · refine⟨hk2,?_⟩
     have w:=h.worn k hk2;rw[tR hk2]at w ⊢;exact w.piece (rH _ _) (by omega) (by omega) (h.len _) hx
   · rw[hss]at hk2
     rw[nJ (h.rest _ (by omega))]at hx;cases hx
  obtain⟨h00,e00⟩:=pick 0 f1;obtain⟨x0,hx0⟩:=f3 0 f1;rw[e00,show(((ls.length:Nat):Int)+1)=((ls.length+1:Nat):Int)by omega,sM h00 (by omega) (by omega) hb]at hx0;injection hx0 with hx0
  simp only[Prod.mk.injEq]at hx0;have hall:all=((bc bs.length:Nat):Int):=hx0.2.symm;have hst2:=vI (rd:=rd) (number:=((ls.length+1:Nat):Int)) (at':=((cG ls:Nat):Int)) (b:=bs) (by omega) (by omega) hb (λj hj=>(pick j (by rw[hall];rw[hss]at hj;omega)).2);rw[show((ls.length+1:Nat):Int)=((ls.length:Nat):Int)+1 by omega]at hst2;rw[BC hst2]at sc;have hst3:fH rd (((ls.length:Nat):Int)+1+1) (((cG ls:Nat):Int)+((bc bs.length:Nat):Int))=none:=Ag (h.rest _ (by omega));rw[rF hst3]at sc;have hsz:=uX ls bs;refine⟨ls++[bs], .inr rfl,by rw[sc,hsz];simp,?_⟩;rw[nd];refine Shows.append h.shows λj hj=>?_
  simp only[gX,aL,bi]at hj ⊢;have:=(pick j (by rw[hall];rw[hss]at hj;omega)).2;rw[←this];congr 1;simp only[cG];omega
structure Dirt(D:DS)(ls:List (List UInt8))(bs:List UInt8):Prop where
 ok:D.Ok
 inn:Wal.DS.In D
 short: ∀b∈ls,b.length≤3000
 short':bs.length≤3000
 room:cG ls+bc bs.length≤2048
 rub:Rub (fu D.s) ls bs
 ws: ∀p∈D.ws,((cG ls:Nat):Int)≤p.1∧p.2=zs
theorem Half.dirt{D:DS}{ls:List (List UInt8)}{bs:List UInt8}(h:Half D ls bs)(mask torn n:Int):Dirt (D.crash mask torn n) ls bs:=by
 obtain⟨c,h1,h2⟩:=h.crash mask torn n;have hr: ∀j,(D.crash mask torn n).read j=fu (D.crash mask torn n).s j:=λj=>rfl
 have hss:(bl ((ls.length+1:Nat):Int) bs).length=bc bs.length:=cE _ _;refine⟨c.ok,c.inn,h.short,h.short',h.room,⟨λj=>cy c.ok.s j,h1,λi hi=>?_,λj hj=>?_⟩,λp hp=>by cases hp⟩
 · rw[←hr]
   rcases h2 (((cG ls:Nat):Int)+i) (by omega)with q| ⟨k,hk,e,q⟩|q
   · rw[q];exact Worn.zs
   · obtain rfl:k=i:=by omega
     rw[q];exact Worn.full
   · exact .inl q
 · rw[←hr]
   rcases h2 j (by omega)with q| ⟨k,hk,e,q⟩|q
   · rw[q];exact Bf
   · rw[hss]at hk;omega
   · exact q
theorem yP{P:Int→il→Prop}{mask torn base:Int}{c:Nat}{s ws:fA}(hs: ∀j,P j (fu s j))(hw: ∀p∈ws,base≤p.1∧p.2=zs)(hz: ∀j,base≤j→P j zs)(ht: ∀j x,base≤j→P j x→P j (lN x zs c)): ∀k,k≤ws.length→∀j,P j (fu (gQ mask torn c s ws k) j)
 |0,_,j=>hs j
 |k+1,hk,j=>by
  have ih:=yP (mask:=mask) (torn:=torn) hs hw hz ht k (by omega);obtain⟨h1,h2⟩:=hw (kM ws k) (by rw[uP (by omega)];exact df _);simp only[gQ,j0,h2];split
  · rw[ll]
    split
    · rename_i e;subst e;exact ht _ _ h1 (ih _)
    · exact ih j
  · split
    · rw[ll]
      split
      · rename_i e;subst e;exact hz _ h1
      · exact ih j
    · exact ih j
theorem Dirt.crash{D:DS}{ls:List (List UInt8)}{bs:List UInt8}(h:Dirt D ls bs)(mask torn n:Int):Dirt (D.crash mask torn n) ls bs:=by
 have c:=QY h.ok h.inn mask torn n;have hss:(bl ((ls.length+1:Nat):Int) bs).length=bc bs.length:=cE _ _
 have key:=yP (P:=λj x=>x.length=64∧(j< ((cG ls:Nat):Int)→x=fu D.s j)∧(∀i (hi:i< (bl ((ls.length+1:Nat):Int) bs).length),j=((cG ls:Nat):Int)+i→Worn (bl ((ls.length+1:Nat):Int) bs)[i] x)∧(((cG ls+bc bs.length:Nat):Int)≤j→x.getD 63 0≠1)) (mask:=mask) (torn:=torn) (base:=((cG ls:Nat):Int)) (c:=ni n) (s:=D.s) (ws:=D.ws)
  (λj=>⟨cy h.ok.s j,λ_=>rfl,λi hi e=>by rw[e];exact h.rub.worn i hi,λe=>h.rub.rest j e⟩) h.ws
  (λj hj=>⟨by simp[zs],λq=>by omega,λ_ _ _=>Worn.zs,λ_=>Bf⟩)
  (λj x hj ⟨a,_,b2,b3⟩=>⟨oR a (by simp[zs]),λq=>by omega,λi hi e=>(b2 i hi e).torn a (nh n),λe=>by rw[G1 (nh n)];exact zY a (b3 e) (nh n)⟩) D.ws.length (aH _)
 refine⟨c.ok,c.inn,h.short,h.short',h.room,⟨λj=>(key j).1,λj hj=>?_,λi hi=>(key _).2.2.1 i hi rfl,λj hj=>(key j).2.2.2 hj⟩,λp hp=>by cases hp⟩;show fu (gQ mask torn (ni n) D.s D.ws D.ws.length) _=_;rw[(key _).2.1 (by simp only[cG];omega)];exact h.rub.shows j hj
theorem IR{D:DS}(h:D.dn=true):(bI D).err≠0∧(bI D).D=D:=by
 have hw: ∀at' bs,(D.write at' bs).2=D:=λat' bs=>by
  unfold DS.write;split
  · rfl
  · rw[if_pos (.inl h)]
    cases D;simp only at h;subst h;rfl
 have w: ∀n at',(gF n at' D).2=D:=λn=>by
  induction n with
  |zero=>intro at';rfl
  |succ n ih=>
   intro at';rw[gF];split
   · exact ih _
   · split
     · rw[hw];exact ih _
     · exact hw _ _
 have s:D.sync=(4,D):=by rw[DS.sync,if_pos h]
 unfold bI;simp only;split
 · rename_i q;exact⟨q,w _ _⟩
 · rw[w,s]
   rw[if_pos (by show ¬(4:Int)=0;decide)];exact⟨by show ¬(4:Int)=0;decide,rfl⟩
theorem xa: ∀(n:Nat) (at':Int) (D:DS),D.Ok→Wal.DS.In D→D.dn=false→0≤at'→at'+n≤2048→∃D',D'.Ok∧Wal.DS.In D'∧D'.s=D.s∧(∀p∈D'.ws,p∈D.ws∨(at'≤p.1∧p.2=zs))∧((gF n at' D=(0,D')∧D'.dn=false∧∀j,D'.read j=if at'≤j∧j<at'+n then zs else D.read j)∨gF n at' D=(4,D'))
 |0,at',D,h,hi,hd,_,_=>⟨D,h,hi,rfl,λp hp=> .inl hp, .inl ⟨rfl,hd,λj=>by rw[if_neg (by omega)]⟩⟩
 |n+1,at',D,h,hi,hd,h0,h1=>by
  by_cases hz:D.read at'=zs
  · obtain⟨D',a,b,e,f,g⟩:=xa n (at'+1) D h hi hd (by omega) (by omega)
    refine⟨D',a,b,e,λp hp=>(f p hp).imp id λ⟨x,y⟩=>⟨by omega,y⟩,?_⟩;rw[gF,if_pos hz];rcases g with⟨g1,g2,g3⟩|g
    · refine .inl ⟨g1,g2,λj=>?_⟩
      rw[g3 j]
      by_cases q:j=at'
      · subst q;rw[if_neg (by omega),if_pos (by omega),hz]
      · by_cases q2:at'+1≤j∧j<at'+1+n
        · rw[if_pos q2,if_pos (by omega)]
        · rw[if_neg q2,if_neg (by omega)]
    · exact .inr g
  · by_cases hc:D.ar=true∧D.lf=0
    · have hw:=sy (D:=D) (at':=at') (bs:=[]) (by omega) (by simp) hc
      refine⟨{D with dn:=true},⟨h.s,h.ws,h.lf⟩,hi,rfl,λp hp=> .inl hp, .inr ?_⟩;rw[gF,if_neg hz,hw,if_neg (by show ¬(4:Int)=0;decide)]
    · have h4:D.ar=false∨0<D.lf:=by
       have:=h.lf;cases q:D.ar
       · exact .inl rfl
       · right
         have:D.lf≠0:=λe=>hc ⟨q,e⟩
         omega
      have hw:=ny (D:=D) (at':=at') (bs:=[]) (by omega) (by simp) hd h4;obtain⟨D',a,b,e,f,g⟩:=xa n (at'+1) (wz D at' []) (wU h (by simp) h4) (wV hi (by omega)) rfl (by omega) (by omega);refine⟨D',a,b,e.trans rfl,λp hp=>?_,?_⟩
      · rcases f p hp with q| ⟨x,y⟩
        · rcases bP.1 q with q|q
          · exact .inl q
          · rw[cm]at q;subst q
            exact .inr ⟨Int.le_refl _,yb⟩
        · exact .inr ⟨by omega,y⟩
      rw[gF,if_neg hz,hw,if_pos rfl];rcases g with⟨g1,g2,g3⟩|g
      · refine .inl ⟨g1,g2,λj=>?_⟩
        rw[g3 j,As,yb]
        by_cases q:j=at'
        · subst q;rw[if_neg (by omega),if_pos rfl,if_pos (by omega)]
        · rw[if_neg q]
          by_cases q2:at'+1≤j∧j<at'+1+n
          · rw[if_pos q2,if_pos (by omega)]
          · rw[if_neg q2,if_neg (by omega)]
      · exact .inr g
def Rests(D:DS)(ls:List (List UInt8))(Q:List UInt8→Prop):Prop:=LogD D ls∨∃bs,Q bs∧Dirt D ls bs
theorem Rests.arm{D:DS}{ls:List (List UInt8)}{Q:List UInt8→Prop}(h:Rests D ls Q){n:Int}(hn:n≤9223372036854775807):Rests (D.arm n) ls Q:=by
 rcases h with h| ⟨bs,q,h⟩
 · exact .inl ⟨Sj h.ok hn,h.inn,h.ws,h.short,h.room,h.shows,h.zero⟩
 · exact .inr ⟨bs,q,Sj h.ok hn,h.inn,h.short,h.short',h.room,h.rub,h.ws⟩
theorem Rests.crash{D:DS}{ls:List (List UInt8)}{Q:List UInt8→Prop}(h:Rests D ls Q)(mask torn n:Int):Rests (D.crash mask torn n) ls Q:=by
 rcases h with h| ⟨bs,q,h⟩
 · exact .inl (h.crash _ _ _).1
 · exact .inr ⟨bs,q,h.crash _ _ _⟩
def Q5(Q:List UInt8→Prop)(ls ls':List (List UInt8)):Prop:=ls'=ls∨∃bs,Q bs∧ls'=ls++[bs]
theorem Rests.open{D:DS}{ls:List (List UInt8)}{Q:List UInt8→Prop}(h:Rests D ls Q)(hw:D.dn=false→D.ws=[]):
 ((bI D).err≠0∧Rests (bI D).D ls Q)∨∃ls' D',bI D=⟨0,ls',((cG ls':Nat):Int),D'⟩∧Q5 Q ls ls'∧LogD D' ls'∧D'.dn=false:=by
 cases hd:D.dn
 case true=>
  obtain⟨e,r⟩:=IR hd;exact .inl ⟨e,by rw[r];exact h⟩
 case false=>
 have hw:=hw hd;have hrd: ∀j,D.read j=fu D.s j:=λj=>by rw[DS.read,hw];rfl
 -- the scan
 have sc:D.Ok∧Wal.DS.In D∧∃ls',Q5 Q ls ls'∧fX D.read iG 0 0=(ls',((cG ls':Nat):Int))∧Shows D.read 0 (gX 0 ls')∧cG ls≤cG ls'∧cG ls'≤2048∧∀b∈ls',b.length≤3000:=by
  rcases h with h| ⟨bs,q,h⟩
  · exact⟨h.ok,h.inn,ls, .inl rfl,h.scan,h.shows,aH _,h.room,h.short⟩
  · obtain⟨ls',a,b,c⟩:=h.rub.scan h.short h.short' h.room
    have er:D.read=fu D.s:=funext hrd;have:=uX ls bs;have:=h.room;refine⟨h.ok,h.inn,ls',a.imp id λe=>⟨bs,q,e⟩,by rw[er];exact b,by rw[er];exact c,?_⟩;rcases a with rfl|rfl
    · exact⟨by omega,by omega,h.short⟩
    · refine⟨by omega,by omega,λx hx=>?_⟩
      rcases bP.1 hx with hx|hx
      · exact h.short x hx
      · rw[cm]at hx;subst hx;exact h.short'
 obtain⟨hok,hin,ls',ha,hs,hsh,hle,hro,hshort⟩:=sc;obtain⟨D',a,b,e,f,g⟩:=xa (2048- ((cG ls':Nat):Int)).toNat ((cG ls':Nat):Int) D hok hin hd (by omega) (by omega);rcases g with⟨g1,g2,g3⟩|g
 · right
   obtain⟨s1,s2,s3,_⟩:=nu g2
   have rd: ∀j,D'.sync.2.read j=if((cG ls':Nat):Int)≤j∧j<2048 then zs else D.read j:=λj=>by
    rw[uV g2,g3 j]
    by_cases q:((cG ls':Nat):Int)≤j∧j<2048
    · rw[if_pos q,if_pos (by omega)]
    · rw[if_neg q,if_neg (by omega)]
   refine⟨ls',D'.sync.2,BW hs g1 s1,ha,⟨QU a,wS b,s2,hshort,hro,λj hj=>?_,λj hj=>?_⟩,s3⟩
   · rw[rd,if_neg (by simp only[cG];omega)];exact hsh j hj
   · rw[rd]
     by_cases q:j<2048
     · rw[if_pos ⟨hj,q⟩]
     · rw[if_neg (by omega)];exact DS.In.read hin (by omega)
 · left
   rw[yd hs g (by decide)];refine⟨(by show(4:Int)≠0;decide),?_⟩;rcases h with h| ⟨bs,q,h⟩
   · exfalso
     have: ∀n at',((cG ls:Nat):Int)≤at'→gF n at' D=(0,D):=λn=>by
      induction n with
      |zero=>intro at' _;rfl
      |succ n ih=>intro at' h2;rw[gF,if_pos (h.zero _ h2),ih _ (by omega)]
     rw[this _ _ (by omega)]at g;cases g
   · refine .inr ⟨bs,q,a,b,h.short,h.short',h.room,by rw[e];exact h.rub,λp hp=>?_⟩
     rcases f p hp with q| ⟨x,y⟩
     · rw[hw]at q;cases q
     · exact⟨by omega,y⟩
end Wal
end

section
namespace Api
open Go Leg Codec Dsk Wal
theorem Bp{a b:Nat}(ha:a<256)(hb:b<256)(h:UInt8.ofNat a=UInt8.ofNat b):a=b:=by
 have:=congrArg UInt8.toNat h;simp only[UInt8.toNat_ofNat']at this;omega
theorem Ez: ∀(k n m:Nat) {r r':List UInt8},n≤k→vn n++r=vn m++r'→n=m∧r=r'
 |k,n,m,r,r',hk,h=>by
  by_cases h1:n<128
  · rw[om h1]at h
    by_cases h2:m<128
    · rw[om h2]at h
      injection h with e1 e2
      exact⟨Bp (by omega) (by omega) e1,e2⟩
    · rw[pL h2]at h
      injection h with e1 e2
      have:=Bp (by omega) (by omega) e1;omega
  · rw[pL h1]at h
    by_cases h2:m<128
    · rw[om h2]at h
      injection h with e1 e2
      have:=Bp (by omega) (by omega) e1;omega
    · rw[pL h2]at h
      injection h with e1 e2
      have q:=Bp (by omega) (by omega) e1
      match k,hk with
      |0,hk=>omega
      |k+1,hk=>
       obtain⟨a,b⟩:=Ez k (n / 128) (m / 128) (by omega) e2;exact⟨by omega,b⟩
theorem rS{a b:Int}{r r':List UInt8}(h:oc a++r=oc b++r'):a%18446744073709551616=b%18446744073709551616∧r=r':=by
 obtain⟨x,y⟩:=Ez _ _ _ (aH _) h;exact⟨by omega,y⟩
theorem yL{a b:Int}{r r':List UInt8}(ha:rz a)(hb:rz b)(h:oc a++r=oc b++r'):a=b∧r=r':=by
 obtain⟨x,y⟩:=rS h;unfold rz at ha hb;exact⟨by omega,y⟩
theorem yJ: ∀{a b:List Int} {r r':List UInt8},a.length=b.length→WF a→WF b→bn a++r=bn b++r'→a=b∧r=r'
 | [],[],_,_,_,_,_,h=>⟨rfl,h⟩
 | [],_::_,_,_,hl,_,_,_=>by cases hl
 |_::_,[],_,_,hl,_,_,_=>by cases hl
 |x::a,y::b,r,r',hl,ha,hb,h=>by
  rw[pc,pc,aI,aI]at h;obtain⟨e1,e2⟩:=yL (tn (ha x (cn ..))) (tn (hb y (cn ..))) h;obtain⟨e3,e4⟩:=yJ (by simpa using hl) (λn hn=>ha n (cI _ hn)) (λn hn=>hb n (cI _ hn)) e2;exact⟨by rw[e1,e3],e4⟩
structure SameR(x y:RowT):Prop where
 version:x.version=y.version
 cells:x.cells=y.cells
 heir: ∀(i:Nat) (h:i<5),x.heir[i]=y.heir[i]
 left: ∀(i:Nat) (h:i<5),(0:Int)<y.heir[i]→x.left[i]=y.left[i]
theorem AK{x y:RowT}[hx:OkRow x][hy:OkRow y]{r r':List UInt8}: ∀(m i:Nat),i+m=5→fg x m i++r=fg y m i++r'→(∀j (h:j<5),i≤j→x.heir[j]=y.heir[j]∧(0<y.heir[j]→x.left[j]=y.left[j]))∧r=r'
 |0,i,hi,h=>⟨λj hj q=>by omega,h⟩
 |m+1,i,hi,h=>by
  have h5:i<5:=by omega
  simp only[fg,dif_pos h5,aI]at h;obtain⟨e1,e2⟩:=yL (hx.heir i h5) (hy.heir i h5) h
  have key:(0<y.heir[i]→x.left[i]=y.left[i])∧fg x m (i+1)++r=fg y m (i+1)++r':=by
   rw[e1]at e2;split at e2
   · obtain⟨e3,e4⟩:=yJ (by rw[cA,cA];simp) (nt λk hk=>hx.left i k h5 hk) (nt λk hk=>hy.left i k h5 hk) e2
     exact⟨λ_=>AM e3,e4⟩
   · rename_i q;exact⟨λz=>absurd z q,by simpa using e2⟩
  obtain⟨a,b⟩:=AK m (i+1) (by omega) key.2;refine⟨λj hj q=>?_,b⟩
  by_cases e:j=i
  · subst e;exact⟨e1,key.1⟩
  · exact a j hj (by omega)
theorem Mv{x y:RowT}[hx:OkRow x][hy:OkRow y]{r r':List UInt8}(h:gf x++r=gf y++r'):SameR x y∧r=r':=by
 unfold gf at h;simp only[aI]at h;obtain⟨e1,e2⟩:=yL hx.version hy.version h;obtain⟨e3,e4⟩:=yJ (by rw[cA,cA];simp) (nt hx.cells) (nt hy.cells) e2;obtain⟨a,b⟩:=AK 5 0 rfl e4;exact⟨⟨e1,AM e3,λi hi=>(a i hi (aO _)).1,λi hi=>(a i hi (aO _)).2⟩,b⟩
def Logs(e:LD)(ls:List (List UInt8))(Q:List UInt8→Prop):Prop:=(e.D.dn=false∧LogD e.D ls∧e.cnt=ls.length∧e.used=((cG ls:Nat):Int))∨(e.D.dn=true∧∃bs,Q bs∧Half e.D ls bs)
theorem Kx{e:LD}(h:e.D.dn=true)(hu:0≤e.used)(bs:List UInt8):(e.put bs).2≠0∧(e.put bs).1=e:=by
 have hw: ∀at' b,(e.D.write at' b).2=e.D∧(e.D.write at' b).1≠0:=λat' b=>by
  unfold DS.write;split
  · exact⟨rfl,by show(5:Int)≠0;decide⟩
  · rw[if_pos (.inl h)]
    refine⟨?_,by show(4:Int)≠0;decide⟩;show {e.D with dn:=true}=e.D;rw[←h]
 unfold LD.put lu
 by_cases h3:3000<bs.length
 · rw[if_pos h3];exact⟨by show(2:Int)≠0;decide,rfl⟩
 rw[if_neg h3]
 by_cases h4:(bc bs.length:Int)>2048-e.used
 · rw[if_pos h4];exact⟨by show(3:Int)≠0;decide,rfl⟩
 rw[if_neg h4]
 obtain⟨s,ss,hs⟩: ∃s ss,bl ((e.cnt+1:Nat):Int) bs=s::ss:=by
  cases q:bl ((e.cnt+1:Nat):Int) bs with
  |nil=>have:=cE ((e.cnt+1:Nat):Int) bs;rw[q]at this;have:=ml bs.length;simp at*;omega
  |cons s ss=>exact⟨s,ss,rfl⟩
 have e1:fp (bl ((e.cnt+1:Nat):Int) bs) e.used e.D=e.D.write e.used s:=by
  rw[hs,fp,if_neg (hw _ _).2]
 rw[e1];simp only;rw[if_pos (hw _ _).2];exact⟨(hw _ _).2,by show LD.mk e.cnt e.used (e.D.write e.used s).2=e;rw[(hw _ _).1]⟩
theorem Logs.put{e:LD}{ls:List (List UInt8)}{Q:List UInt8→Prop}(h:Logs e ls Q)(he:e.Ok){bs:List UInt8}(hb:bs.length≤3000)(hq:Q bs):
 ((e.put bs).2=0∧∀R,Logs (e.put bs).1 (ls++[bs]) R)∨((e.put bs).2≠0∧Logs (e.put bs).1 ls Q):=by
 rcases h with⟨hd,hl,hc,hu⟩| ⟨hd,b,q,hh⟩
 · have eq:e.put bs=(⟨(lu e.D ls.length ((cG ls:Nat):Int) bs).cnt,(lu e.D ls.length ((cG ls:Nat):Int) bs).used,(lu e.D ls.length ((cG ls:Nat):Int) bs).D⟩,(lu e.D ls.length ((cG ls:Nat):Int) bs).err):=by
    unfold LD.put;rw[hc,hu]
   rcases Kv hl hd hb with⟨_,r⟩| ⟨_,D',r,l,d,_⟩| ⟨_,D',r,l⟩
   · rw[eq,r]
     exact .inr ⟨by show(3:Int)≠0;decide, .inl ⟨hd,hl,rfl,rfl⟩⟩
   · rw[eq,r]
     exact .inl ⟨rfl,λ_=> .inl ⟨d,l,by simp,rfl⟩⟩
   · have w:=Sp (bl ((ls.length+1:Nat):Int) bs) ((cG ls:Nat):Int) e.D hl.ok hl.inn (by omega) (by rw[cE];have:=l.room;omega) (m6 _ _)
     have dn:D'.dn=true:=by
      have r2:=r;unfold lu at r2;have:=l.room;rw[if_neg (by omega),if_neg (by omega)]at r2;simp only at r2;rcases w.2.2 with⟨w1,_⟩| ⟨_,_,w0,w1⟩
      · rw[hd]at w1;cases w1
      · split at r2
        · rename_i z
          injection r2 with _ _ _ r3
          rw[←r3];exact w1 z
        · rename_i z
          have z:_=(0:Int):=Decidable.not_not.1 z;have:=(nu (w0 z)).1;rw[if_neg (by rw[this];decide)]at r2;injection r2 with r3
          cases r3
     rw[eq,r];exact .inr ⟨by show(4:Int)≠0;decide, .inr ⟨dn,bs,hq,l⟩⟩
 · obtain⟨a,b'⟩:=Kx hd he.used.1 bs
   exact .inr ⟨a,by rw[b'];exact .inr ⟨hd,b,q,hh⟩⟩
theorem Logs.crash{e:LD}{ls:List (List UInt8)}{Q:List UInt8→Prop}(h:Logs e ls Q)(mask torn n:Int):Rests (e.D.crash mask torn n) ls Q:=by
 rcases h with⟨_,h,_⟩| ⟨_,bs,q,h⟩
 · exact .inl (h.crash _ _ _).1
 · exact .inr ⟨bs,q,h.dirt _ _ _⟩
theorem Logs.arm{e:LD}{ls:List (List UInt8)}{Q:List UInt8→Prop}(h:Logs e ls Q){n:Int}(hn:n≤9223372036854775807):Logs {e with D:=e.D.arm n} ls Q:=by
 rcases h with⟨a,h,b⟩| ⟨a,bs,q,h⟩
 · exact .inl ⟨a,⟨Sj h.ok hn,h.inn,h.ws,h.short,h.room,h.shows,h.zero⟩,b⟩
 · exact .inr ⟨a,bs,q,⟨Sj h.ok hn,h.inn,h.short,h.short',h.room,h.shows,h.zero,h.ws⟩⟩
variable {key:Nat}
theorem AV{bs:List UInt8}(h:(fO bs).2=0):bs=gy (fO bs).1∧(0≤(fO bs).1.kind∧(fO bs).1.kind<6)∧TameR (fO bs).1.row:=by
 unfold fO at h ⊢;split
 · rename_i m q
   obtain⟨a,_,b,_,c⟩:=xS q;exact⟨by rw[a,aL],b,c⟩
 · rename_i q
   split at h
   · rename_i m q2;exact absurd q2 (q m)
   · exact absurd h (by decide)
theorem KC{x:RowT}(h:TameR x):OkRow x:=OkRow.of h.wf
theorem Qy(a:Int)(r:List UInt8):bn [a]++r=oc a++r:=by rw[pc,Ew,aL]
theorem vp{m:RecT}(h:0≤m.kind∧m.kind<6): ∃r,gy m=oc m.kind++r:=by
 unfold gy
 repeat' split
 all_goals first| (exfalso;omega)| (simp only[pc,aI];exact⟨_,rfl⟩)
theorem EA{m:RecT}(k:m.kind=0):gy m=oc 0++gf m.row:=by unfold gy;rw[if_pos k,k];exact Qy _ _
variable {s:MS LD}
theorem JA{x:Slot}{s:MS LD}(h:x.run=some s)(n:Int):qe x n= {x with run:=some (s.dsk (s.e.D.arm n))}:=by unfold qe;rw[h]
theorem JB{x:Slot}(h:x.run=none)(n:Int):qe x n= {x with D:=x.D.arm n}:=by unfold qe;rw[h]
theorem Dm{x:Slot}{s:MS LD}(h:x.run=some s)(i:Nat):(fq i x).1=x:=by unfold fq;rw[h]
theorem Dn{x:Slot}(h:x.run=none)(i:Nat):(fq i x).1= {x with run:=(cf i x.D).1,D:=(bI x.D).D}:=by unfold fq;rw[h]
theorem F4(i:Nat):iQ i=Slot.mk (cf i DS.new).1 (bI DS.new).D []:=by
 show(fq i .nil).1=_;unfold fq;show Slot.mk (cf i DS.new).1 _ _=_;rfl
theorem OG(A:Option (MS LD))(B:DS)(C:List ReplyT):(Slot.mk A B C).run=A∧(Slot.mk A B C).D=B:=⟨rfl,rfl⟩
theorem sP{i:Nat}(hi:i<5):(CL.new.at' i).run=(cf i DS.new).1∧(CL.new.at' i).D=(bI DS.new).D:=by
 have e:CL.new.at' i=iQ i:=by simp[CL.new,CL.at',List.getD_eq_getElem?_getD,hi]
 rw[e,F4];exact OG _ _ _
end Api
end

section
namespace Api
open Go Leg Codec Dsk Wal
theorem G9{y:RowT}[OkRow y](h:(fO (gy (gL y))).2=0):(fO (gy (gL y))).1.kind=0∧(fO (gy (gL y))).1.row.version=y.version:=by
 obtain⟨e,k,t⟩:=AV h;have:=KC t;generalize (fO (gy (gL y))).1=m at*;have e:oc 0++gf y=gy m:=(EA (m:=gL y) rfl).symm.trans e
 by_cases k0:m.kind=0
 · refine⟨k0,?_⟩
   rw[EA k0]at e;have e:=(rS e).2;rw[←aL (gf y),←aL (gf m.row)]at e;exact(Mv e).1.version.symm
 · exfalso
   obtain⟨r,e2⟩:=vp k;rw[e2]at e;have:=(rS e).1;omega
section
variable {R S:Int→Int→RowT→Prop} {j v:Int} {ls:List (List UInt8)} {l:List RowT}
theorem xT{δ:Type}(b:List UInt8): ∀(ls:List (List UInt8)) (s:MS δ),gN (ls++[b]) s=(match gN ls s with
 |none=>none
 |some t=>if(fO b).2≠0 then none else some (im t (fO b).1))
 | [],s=>by
  show gN [b] s=_;rw[gN,gN];split
  · rfl
  · rw[gN]
 |c::ls,s=>by
  show gN (c::(ls++[b])) s=_;rw[gN,gN];split
  · rfl
  · exact xT b ls _
theorem Iu{b:List UInt8}(h:(fO b).2=0)(hk:(fO b).1.kind=5):1≤(fO b).1.view.epoch:=by
 have: ∃r,dE b=some (((fO b).1,true),r):=by
  unfold fO at h ⊢;split
  · rename_i m q;exact⟨[],q⟩
  · rename_i q
    split at h
    · rename_i m q2;exact absurd q2 (q m)
    · exact absurd h (by decide)
 obtain⟨r,q⟩:=this;obtain⟨_,o,_⟩:=xS q;unfold DV at o;rw[if_neg (by omega),if_pos hk]at o;unfold kJ at o;rw[ay,decide_eq_true_iff]at o;exact o.1.1
end
theorem Logs.len{e:LD}{ls:List (List UInt8)}{Q:List UInt8→Prop}(h:Logs e ls Q):ls.length≤2048:=by
 have:=tK ls;rcases h with⟨_,h,_⟩| ⟨_,bs,_,h⟩
 · have:=h.room;omega
 · have:=h.room;omega
section
variable {R:Int→Int→RowT→Prop} {l0:List RowT} {s:MS LD}
theorem vJ(x:RowT)(w v:Int)(l:Vector CellT 4):(m5 x w v l).version=x.version:=by unfold m5;split<;>rfl
theorem Hu{x d:RowT}{w:Int}(hw:cO w=true)(h: ¬0<fb x w)(hv:0≤x.version∧x.version≤20000):(cX x w d).1.version=x.version+1:=by
 have q: ∀k,(nT x w d k).version=x.version:=λk=>by
  induction k with
  |zero=>exact vJ _ _ _ _
  |succ k ih=>
   rw[nS];unfold nc;split
   · rw[vJ];exact ih
   · exact ih
 unfold cX;rw[hw,if_neg (by decide),if_neg h];show fR ((nT x w d 5).version+1)=_;rw[q,sA (by omega) (by omega)]
theorem yz(f:Int→RowT): ∀(l:List Int) (x:RowT),(∀i∈l,cO i=true)→0≤x.version→x.version+l.length≤20000→x.version≤(l.foldl (λx i=>if 0<fb x i then x else(cX x i (f i)).1) x).version∧(l.foldl (λx i=>if 0<fb x i then x else(cX x i (f i)).1) x).version≤x.version+l.length
 | [],_,_,_,_=>⟨Int.le_refl _,by simp⟩
 |i::l,x,hl,h0,h1=>by
  simp only[ah]at h1;rw[List.foldl_cons]
  by_cases q:0<fb x i
  · rw[if_pos q]
    have:=yz f l x (λk hk=>hl k (cI _ hk)) h0 (by omega);simp only[ah];omega
  · rw[if_neg q]
    have e:=Hu (d:=f i) (hl i (cn ..)) q ⟨h0,by omega⟩;have:=yz f l (cX x i (f i)).1 (λk hk=>hl k (cI _ hk)) (by omega) (by omega);simp only[ah];omega
end
end Api
end
