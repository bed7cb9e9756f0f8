/-
  Joined texts:what a statement's proof reaches.
-/
import Derived.Test.YtfocodjhmkokpaaGreatDoorPTR7
set_option maxHeartbeats 8000000
set_option maxRecDepth 100000
set_option linter.unusedSimpArgs false
set_option linter.unusedVariables false
section
namespace Go.Proofs.YtfocodjhmkokpaaGreatDoor
open Go Leg Codec Api Dsk Wal
theorem Br(c n i:Nat)(D M P:Nat→Value)(hi:i<5)(to' k:Int)(o:OpT)(hv:dK ((i:Nat):Int) to'=false)(bs:List Nat):
 DT 46 #[(.pointer (some ⟨c,0,none⟩)),(.agg (ints (OpT.mk k ((i:Nat):Int) to' o.key o.n o.change o.mask o.torn o.cut).flat).toArray)] T0 [ah c (eL n D M P) 73,ah n (fa bs) 135] (RI (.int .i64 5) [ah c (eL n D M P) 73,ah n (fa bs) 135]):=by
 refine BD 91 Tryz.func46 rfl rfl rfl λw0 F hF=>sr λ_ J1=>XY (ints (OpT.mk k ((i:Nat):Int) to' o.key o.n o.change o.mask o.torn o.cut).flat) λb3=>?_
 refine PS ?_;refine nx J1 (ab λ_ J2=>D2 0 1 df ?_);refine PD 0 ?_;refine PD 1 ?_;refine FD 2 0 pI Bx ?_;refine LX 3 Kb (.pointer (some ⟨n,0,none⟩)) ?_ (hc:=by exact Db n D M P);refine FD 4 1 fk aR ?_;refine LX 5 Y3 (.int .i64 (((i:Nat):Int))) ?_ (hc:=by exact bO _ rfl);refine FD 6 2 fk aR ?_;refine LX 7 Y3 (.int .i64 (to')) ?_ (hc:=by exact iy _ rfl);refine AL 8 ?_;refine CR Eo (mI n bs ((i:Nat):Int) to') (SM [2]) λvR HR hR=>?_
 obtain⟨hw,rfl⟩:=hR;obtain⟨_,rfl⟩:dK ((i:Nat):Int) to'=false∧vR= .pointer none:=hw.resolve_left (λq=>by rw[hv]at q;cases q.1);refine EN (PD 9 ?_);refine DN (ac J2 (ab λ_ J3=>sr λ_ J4=>PS ?_));refine tp (sa rfl Bd rfl rfl) ?_;refine nx J4 (CY (sr λ_ J5=>PS ?_));exact nx J5 (ai (ae (WK [2,0] (av rfl rfl ⟨rfl,rfl⟩))))
theorem pN{n i j:Nat}{bs:List Nat}{W:List (List MsgT)}{l:List MsgT}{H:List HP}{h:Hl}(hv:dK ((i:Nat):Int) ((j:Nat):Int)=true)(hW:W.length=25)(q:bD (hX 184 5 (bs.getD (bA ((i:Nat):Int) ((j:Nat):Int)) 0) (List.map (kD (bA ((i:Nat):Int) ((j:Nat):Int))) l)::gk 184 5 bs (cY W) (bA ((i:Nat):Int) ((j:Nat):Int))::ah n (fa bs) 135::H) h):bD (eG 135 184 5 n (cY (W.set (bA ((i:Nat):Int) ((j:Nat):Int)) l))::H) h:=by
 have q2:=tw hv (pO W) q;rw[vX W (ir hv).1 hW]at q2;exact bn (p:=λbs:List Nat=>[ah n (fa bs) 135,fJ 184 5 bs (cY (W.set (bA ((i:Nat):Int) ((j:Nat):Int)) l))]) bs (eg (List.Perm.swap _ _ _) q2)
theorem zP(c n i:Nat)(D M P:Nat→Value)(hi:i<5)(j:Nat)(hj:j<5)(hv:dK ((i:Nat):Int) ((j:Nat):Int)=true)(W:List (List MsgT))(hW:W.length=25)(l:List MsgT)(hl:W.getD (bA ((i:Nat):Int) ((j:Nat):Int)) []=l)(h8:l.length≤8)(hlen: ∀m∈l,0< (dQ m).length)(o:OpT)(k:Int)(hn:l=[])(bs:List Nat):
 DT 46 #[(.pointer (some ⟨c,0,none⟩)),(.agg (ints (OpT.mk k ((i:Nat):Int) ((j:Nat):Int) o.key o.n o.change o.mask o.torn o.cut).flat).toArray)] T0 [ah n (fa bs) 135,fJ 184 5 bs (cY W),ah c (eL n D M P) 73] (RI (.int .i64 10) [ah c (eL n D M P) 73,eG 135 184 5 n (cY (W.set (bA ((i:Nat):Int) ((j:Nat):Int)) l))]):=by
 refine BD 91 Tryz.func46 rfl rfl rfl λw0 F hF=>sr λ_ J1=>XY (ints (OpT.mk k ((i:Nat):Int) ((j:Nat):Int) o.key o.n o.change o.mask o.torn o.cut).flat) λb3=>?_
 refine PS ?_;refine nx J1 (ab λ_ J2=>D2 0 3 df ?_);refine PD 0 ?_;refine PD 1 ?_;refine FD 2 0 pI Bx ?_;refine LX 3 Kb (.pointer (some ⟨n,0,none⟩)) ?_ (hc:=by exact Db n D M P);refine FD 4 1 fk aR ?_;refine LX 5 Y3 (.int .i64 (((i:Nat):Int))) ?_ (hc:=by exact bO _ rfl);refine FD 6 2 fk aR ?_;refine LX 7 Y3 (.int .i64 (((j:Nat):Int))) ?_ (hc:=by exact iy _ rfl);refine AL 8 ?_;refine CR Eo (mI n bs ((i:Nat):Int) ((j:Nat):Int)) (SM [1]) λvR HR hR=>?_
 obtain⟨hw,rfl⟩:=hR;obtain⟨_,rfl⟩:dK ((i:Nat):Int) ((j:Nat):Int)=true∧vR= .pointer (some ⟨(bs.getD (bA ((i:Nat):Int) ((j:Nat):Int)) 0),0,none⟩):=hw.resolve_right (λq=>by rw[hv]at q;cases q.1);refine EN (PD 9 ?_);refine DN (ac J2 (ab λ_ J3=>sr λ_ J4=>PS ?_));refine tp (iT rfl Bd rfl rfl) ?_;refine nx J4 (CN (qx J3 (ab λ_ J5=>sr λ_ J6=>ck (H':=[hX 184 5 (bs.getD (bA ((i:Nat):Int) ((j:Nat):Int)) 0) (List.map (kD (bA ((i:Nat):Int) ((j:Nat):Int))) l),gk 184 5 bs (cY W) (bA ((i:Nat):Int) ((j:Nat):Int)),ah n (fa bs) 135,ah b3 (ints (OpT.mk k ((i:Nat):Int) ((j:Nat):Int) o.key o.n o.change o.mask o.torn o.cut).flat) 63,ah c (eL n D M P) 73]) (λ_ q=>hl▸qD W (ir hv).1▸nP hv (aB [2] rfl q)) (PS ?_))));refine CE En (kw (bs.getD (bA ((i:Nat):Int) ((j:Nat):Int)) 0) (List.map (kD (bA ((i:Nat):Int) ((j:Nat):Int))) l)) ID ?_;rw[bM];refine PS ?_;refine ao ?_ ?_<;>intro h23;refine nx J6 (CY (sr λ_ J7=>PS ?_));exact nx J7 (ai (ae (aF (H':=[ah c (eL n D M P) 73,eG 135 184 5 n (cY (W.set (bA ((i:Nat):Int) ((j:Nat):Int)) l))]) (dd _) (λ_ q=>eg (List.Perm.swap _ _ _) (pN (bs:=bs) hv hW (ak [0,0,0,1] rfl q))) (av rfl rfl ⟨rfl,rfl⟩))))
 · exact absurd (by rw[hn];rfl) h23
theorem yc(c n i:Nat)(D M P:Nat→Value)(hi:i<5)(j:Nat)(hj:j<5)(hv:dK ((i:Nat):Int) ((j:Nat):Int)=true)(W:List (List MsgT))(hW:W.length=25)(l:List MsgT)(hl:W.getD (bA ((i:Nat):Int) ((j:Nat):Int)) []=l)(h8:l.length≤8)(hlen: ∀m∈l,0< (dQ m).length)(o:OpT)(hn:l≠[])(bs:List Nat):
    DT 46 #[(.pointer (some ⟨c,0,none⟩)),(.agg (ints (OpT.mk 7 ((i:Nat):Int) ((j:Nat):Int) o.key o.n o.change o.mask o.torn o.cut).flat).toArray)] T0 [ah n (fa bs) 135,fJ 184 5 bs (cY W),ah c (eL n D M P) 73] (RI (.int .i64 (if Ie l then 0 else 3)) [ah c (eL n D M P) 73,eG 135 184 5 n (cY (W.set (bA ((i:Nat):Int) ((j:Nat):Int)) (DM l)))]):=by
 refine BD 91 Tryz.func46 rfl rfl rfl λw0 F hF=>sr λ_ J1=>XY (ints (OpT.mk 7 ((i:Nat):Int) ((j:Nat):Int) o.key o.n o.change o.mask o.torn o.cut).flat) λb3=>?_
 refine PS ?_;refine nx J1 (ab λ_ J2=>D2 0 3 df ?_);refine PD 0 ?_;refine PD 1 ?_;refine FD 2 0 pI Bx ?_;refine LX 3 Kb (.pointer (some ⟨n,0,none⟩)) ?_ (hc:=by exact Db n D M P);refine FD 4 1 fk aR ?_;refine LX 5 Y3 (.int .i64 (((i:Nat):Int))) ?_ (hc:=by exact bO _ rfl);refine FD 6 2 fk aR ?_;refine LX 7 Y3 (.int .i64 (((j:Nat):Int))) ?_ (hc:=by exact iy _ rfl);refine AL 8 ?_;refine CR Eo (mI n bs ((i:Nat):Int) ((j:Nat):Int)) (SM [1]) λvR HR hR=>?_
 obtain⟨hw,rfl⟩:=hR;obtain⟨_,rfl⟩:dK ((i:Nat):Int) ((j:Nat):Int)=true∧vR= .pointer (some ⟨(bs.getD (bA ((i:Nat):Int) ((j:Nat):Int)) 0),0,none⟩):=hw.resolve_right (λq=>by rw[hv]at q;cases q.1);refine EN (PD 9 ?_);refine DN (ac J2 (ab λ_ J3=>sr λ_ J4=>PS ?_));refine tp (iT rfl Bd rfl rfl) ?_;refine nx J4 (CN (qx J3 (ab λ_ J5=>sr λ_ J6=>ck (H':=[hX 184 5 (bs.getD (bA ((i:Nat):Int) ((j:Nat):Int)) 0) (List.map (kD (bA ((i:Nat):Int) ((j:Nat):Int))) l),gk 184 5 bs (cY W) (bA ((i:Nat):Int) ((j:Nat):Int)),ah n (fa bs) 135,ah b3 (ints (OpT.mk 7 ((i:Nat):Int) ((j:Nat):Int) o.key o.n o.change o.mask o.torn o.cut).flat) 63,ah c (eL n D M P) 73]) (λ_ q=>hl▸qD W (ir hv).1▸nP hv (aB [2] rfl q)) (PS ?_))));refine CE En (kw (bs.getD (bA ((i:Nat):Int) ((j:Nat):Int)) 0) (List.map (kD (bA ((i:Nat):Int) ((j:Nat):Int))) l)) ID ?_;rw[bM];refine PS ?_;refine ao ?_ ?_<;>intro h23
 · exact absurd (List.eq_nil_of_length_eq_zero (by omega)) hn
 refine nx J6 (CN (qx J5 (ab λ_ J7=>sr λ_ J8=>FA 0 fk aR ?_)));refine LT 3 Y3 (.int .i64 7) ?_ (hc:=by exact cI _ rfl);refine PS ?_;refine nx J8 (CY (ab λ_ J9=>sr λ_ J10=>PS ?_))
 refine hJ (aa rfl) rfl rfl rfl Pl rfl (yy (bs.getD (bA ((i:Nat):Int) ((j:Nat):Int)) 0) (List.map (kD (bA ((i:Nat):Int) ((j:Nat):Int))) l) (by rw[bM];exact h8) (λx hx=>by
        obtain⟨m,_,rfl⟩:=eS.1 hx
        exact vW _ m)) (λ_ s=>s) (λ_ _ _=>trivial) (λvR HR hR=>?_)
 obtain⟨rfl,rfl⟩:=hR;rw[Kk,Kj];refine bc ?_ ?_<;>intro h28;refine PS ?_;refine nx J10 (CN (qx J9 (sr λ_ J11=>PS ?_)));refine nx J11 (ai (ae (aF (H':=[ah c (eL n D M P) 73,eG 135 184 5 n (cY (W.set (bA ((i:Nat):Int) ((j:Nat):Int)) (DM l)))]) (dd _) (λ_ q=>eg (List.Perm.swap _ _ _) (pN (bs:=bs) hv hW (ak [0,0,0,1] rfl q))) (av rfl rfl ?_))));exact⟨by rw[h28];rfl,rfl⟩;refine PS ?_;refine nx J10 (CY (sr λ_ J12=>PS ?_));refine nx J12 (ai (ae (ae (aF (H':=[ah c (eL n D M P) 73,eG 135 184 5 n (cY (W.set (bA ((i:Nat):Int) ((j:Nat):Int)) (DM l)))]) (dd _) (λ_ q=>eg (List.Perm.swap _ _ _) (pN (bs:=bs) hv hW (ak [0,0,0,1] rfl q))) (av rfl rfl ?_)))));exact⟨by rw[h28];rfl,rfl⟩
theorem Fw{i j:Nat}{W:List (List MsgT)}{m:MsgT}{l2:List MsgT}(hv:dK ((i:Nat):Int) ((j:Nat):Int)=true)(hW:W.length=25):(cY (W.set (bA ((i:Nat):Int) ((j:Nat):Int)) (m::l2))).getD (bA ((i:Nat):Int) ((j:Nat):Int)) []=jj ((i:Nat):Int) ((j:Nat):Int) (dQ m)::List.map (kD (bA ((i:Nat):Int) ((j:Nat):Int))) l2:=by
 rw[qD _ (ir hv).1,List.getD_eq_getElem?_getD,List.getElem?_set_self (by rw[hW];exact(ir hv).1),←Bq (sx hv).1 (sx hv).2];rfl
theorem Bw{i j:Nat}{W:List (List MsgT)}{m:MsgT}{l2:List MsgT}(hv:dK ((i:Nat):Int) ((j:Nat):Int)=true)(hW:W.length=25):(cY (W.set (bA ((i:Nat):Int) ((j:Nat):Int)) (m::l2))).set (bA ((i:Nat):Int) ((j:Nat):Int)) (List.map (kD (bA ((i:Nat):Int) ((j:Nat):Int))) l2)=cY (W.set (bA ((i:Nat):Int) ((j:Nat):Int)) l2):=by
 rw[vX _ (ir hv).1 (by rw[cy];exact hW),e6]
theorem sq(c n i:Nat)(D M P:Nat→Value)(hi:i<5)(j:Nat)(hj:j<5)(hv:dK ((i:Nat):Int) ((j:Nat):Int)=true)(W:List (List MsgT))(hW:W.length=25)(l:List MsgT)(hl:W.getD (bA ((i:Nat):Int) ((j:Nat):Int)) []=l)(h8:l.length≤8)(hlen: ∀m∈l,0< (dQ m).length)(o:OpT)(m:MsgT)(l2:List MsgT)(ht:k9 (max o.n 0% ((l.length:Nat):Int)).toNat l=m::l2)(bs:List Nat)(q:Int)(hk5:q=5∨q=6)(hk:q=6∨M j= .pointer none):
    DT 46 #[(.pointer (some ⟨c,0,none⟩)),(.agg (ints (OpT.mk q ((i:Nat):Int) ((j:Nat):Int) o.key o.n o.change o.mask o.torn o.cut).flat).toArray)] T0 [ah n (fa bs) 135,fJ 184 5 bs (cY W),ah c (eL n D M P) 73] (RI (.int .i64 0) [ah c (eL n D M P) 73,eG 135 184 5 n (cY (W.set (bA ((i:Nat):Int) ((j:Nat):Int)) l2))]):=by
 refine BD 91 Tryz.func46 rfl rfl rfl λw0 F hF=>?_
 have hln:0<l.length:=by
     have:=kb (max o.n 0% ((l.length:Nat):Int)).toNat l;rw[ht]at this;rw[←this];exact Nat.succ_pos _
 have hm0:0< (dQ m).length:=hlen m ((oG (max o.n 0% ((l.length:Nat):Int)).toNat l).1 (ht▸ez ..));have hrl:(max o.n 0% ((l.length:Nat):Int))< ((l.length:Nat):Int):=HZ _ (by omega);refine sr λ_ J1=>XY (ints (OpT.mk q ((i:Nat):Int) ((j:Nat):Int) o.key o.n o.change o.mask o.torn o.cut).flat) λb3=>?_
 refine PS ?_;refine nx J1 (ab λ_ J2=>D2 0 3 df ?_);refine PD 0 ?_;refine PD 1 ?_;refine FD 2 0 pI Bx ?_;refine LX 3 Kb (.pointer (some ⟨n,0,none⟩)) ?_ (hc:=by exact Db n D M P);refine FD 4 1 fk aR ?_;refine LX 5 Y3 (.int .i64 (((i:Nat):Int))) ?_ (hc:=by exact bO _ rfl);refine FD 6 2 fk aR ?_;refine LX 7 Y3 (.int .i64 (((j:Nat):Int))) ?_ (hc:=by exact iy _ rfl);refine AL 8 ?_;refine CR Eo (mI n bs ((i:Nat):Int) ((j:Nat):Int)) (SM [1]) λvR HR hR=>?_
 obtain⟨hw,rfl⟩:=hR;obtain⟨_,rfl⟩:dK ((i:Nat):Int) ((j:Nat):Int)=true∧vR= .pointer (some ⟨(bs.getD (bA ((i:Nat):Int) ((j:Nat):Int)) 0),0,none⟩):=hw.resolve_right (λq=>by rw[hv]at q;cases q.1);refine EN (PD 9 ?_);refine DN (ac J2 (ab λ_ J3=>sr λ_ J4=>PS ?_));refine tp (iT rfl Bd rfl rfl) ?_;refine nx J4 (CN (qx J3 (ab λ_ J5=>sr λ_ J6=>ck (H':=[hX 184 5 (bs.getD (bA ((i:Nat):Int) ((j:Nat):Int)) 0) (List.map (kD (bA ((i:Nat):Int) ((j:Nat):Int))) l),gk 184 5 bs (cY W) (bA ((i:Nat):Int) ((j:Nat):Int)),ah n (fa bs) 135,ah b3 (ints (OpT.mk q ((i:Nat):Int) ((j:Nat):Int) o.key o.n o.change o.mask o.torn o.cut).flat) 63,ah c (eL n D M P) 73]) (λ_ q=>hl▸qD W (ir hv).1▸nP hv (aB [2] rfl q)) (PS ?_))));refine CE En (kw (bs.getD (bA ((i:Nat):Int) ((j:Nat):Int)) 0) (List.map (kD (bA ((i:Nat):Int) ((j:Nat):Int))) l)) ID ?_;rw[bM];refine PS ?_;refine ao ?_ ?_<;>intro h23
 · exact absurd h23 (by omega)
 refine nx J6 (CN (qx J5 (ab λ_ J7=>sr λ_ J8=>FA 0 fk aR ?_)));refine LT 3 Y3 (.int .i64 (q)) ?_ (hc:=by exact cI _ rfl);refine PS ?_;refine ao ?_ ?_<;>intro h26
 · exact absurd h26 (by omega)
 refine nx J8 (CN (qx J7 (ab λ_ J9=>ab λ_ J10=>D1 3 df ?_)));refine FD 0 4 fk aR ?_;refine LX 1 Y3 (.int .i64 (o.n)) ?_ (hc:=by exact tm _ rfl);refine ta 2 rfl (yK rfl rfl rfl) ?_;refine PD 3 ?_;refine PD 6 ?_;refine AL 4 ?_;refine CE En (kw (bs.getD (bA ((i:Nat):Int) ((j:Nat):Int)) 0) (List.map (kD (bA ((i:Nat):Int) ((j:Nat):Int))) l)) ID ?_;rw[bM];refine EN (ta 5 rfl (PV.rem (r:=(max o.n 0% ((l.length:Nat):Int))) rfl rfl rfl (by omega) (tn (by omega))) ?_);refine DN (ac J10 (au ?_))
 refine bu (α:=(Nat)) (λk=>((k:Nat):Int)≤(max o.n 0% ((l.length:Nat):Int))) (λk=>[(0,(.pointer (some ⟨c,0,none⟩))),(3,(.pointer (some ⟨b3,0,none⟩))),(4,(.int .i64 0)),(5,(.pointer (some ⟨(bs.getD (bA ((i:Nat):Int) ((j:Nat):Int)) 0),0,none⟩))),(35,(.int .i64 ((max o.n 0% ((l.length:Nat):Int))))),(36,(.int .i64 (((k:Nat):Int))))]) (λk=>[hX 184 5 (bs.getD (bA ((i:Nat):Int) ((j:Nat):Int)) 0) (List.map (kD (bA ((i:Nat):Int) ((j:Nat):Int))) (k9 k l)),gk 184 5 bs (cY W) (bA ((i:Nat):Int) ((j:Nat):Int)),ah n (fa bs) 135,ah b3 (ints (OpT.mk q ((i:Nat):Int) ((j:Nat):Int) o.key o.n o.change o.mask o.torn o.cut).flat) 63,ah c (eL n D M P) 73]) (λk=>(max o.n 0% ((l.length:Nat):Int)).toNat-k) 0
     (zK _ (by omega)) SB
     (λ_ s=>aB [0,0,0,0,0] rfl s) (λk hinv=>?_)
 obtain hk:=hinv;refine sr λ_ J11=>PS ?_
 refine ao ?_ ?_<;>intro h37;refine nx J11 (ab λ_ J12=>CY (qx J12 (ab λ_ J13=>au (ad (PS ?_)))))
 refine hJ (aa rfl) rfl rfl rfl NB rfl (tg (bs.getD (bA ((i:Nat):Int) ((j:Nat):Int)) 0) (List.map (kD (bA ((i:Nat):Int) ((j:Nat):Int))) (k9 k l)) (by rw[bM,kb];exact h8) (λx hx=>by
        obtain⟨m,_,rfl⟩:=eS.1 hx
        exact vW _ m)) (λ_ s=>s) (λ_ _ _=>trivial) (λvR HR hR=>?_)
 obtain rfl:=hR;rw[yX];refine aq (ag (ac J13 (ad (AD ?_))));refine PS ?_;refine aq ?_
 exact aJ ((k+1):(Nat)) (by omega) (by show(max o.n 0% ((l.length:Nat):Int)).toNat- (k+1)< (max o.n 0% ((l.length:Nat):Int)).toNat-k;omega)
   SB
   (λ_ s=>aB [0,0,0,0,0] rfl s)
 have hkr:k=(max o.n 0% ((l.length:Nat):Int)).toNat:=by omega
 refine ck (H':=[hX 184 5 (bs.getD (bA ((i:Nat):Int) ((j:Nat):Int)) 0) (List.map (kD (bA ((i:Nat):Int) ((j:Nat):Int))) (m::l2)),gk 184 5 bs (cY W) (bA ((i:Nat):Int) ((j:Nat):Int)),ah n (fa bs) 135,ah b3 (ints (OpT.mk q ((i:Nat):Int) ((j:Nat):Int) o.key o.n o.change o.mask o.torn o.cut).flat) 63,ah c (eL n D M P) 73]) (λ_ q=>by rw[hkr,ht]at q;exact q) (nx J11 (ab λ_ J14=>CN (aY (aC (aC (bo (ac J9 (ab λ_ J15=>D2 3 4 df ?_))))))));refine PD 0 ?_;refine PD 1 ?_;refine FD 2 0 pI Bx ?_;refine LX 3 Kb (.pointer (some ⟨n,0,none⟩)) ?_ (hc:=by exact Db n D M P);refine FD 4 1 fk aR ?_;refine LX 5 Y3 (.int .i64 (((i:Nat):Int))) ?_ (hc:=by exact bO _ rfl);refine FD 6 2 fk aR ?_;refine LX 7 Y3 (.int .i64 (((j:Nat):Int))) ?_ (hc:=by exact iy _ rfl);refine AL 8 ?_;refine ck (H':=[eG 135 184 5 n (cY (W.set (bA ((i:Nat):Int) ((j:Nat):Int)) (m::l2))),ah b3 (ints (OpT.mk q ((i:Nat):Int) ((j:Nat):Int) o.key o.n o.change o.mask o.torn o.cut).flat) 63,ah c (eL n D M P) 73]) (λ_ q=>pN (bs:=bs) hv hW (aB [0,0,0] rfl q)) (CR NA (qZ n (cY (W.set (bA ((i:Nat):Int) ((j:Nat):Int)) (m::l2))) ((i:Nat):Int) ((j:Nat):Int) (dQ m) (List.map (kD (bA ((i:Nat):Int) ((j:Nat):Int))) l2) hv (pO _) (Fw hv hW) hm0 (by have:=s9 m;omega)) ID λvR HR hR=>?_);obtain⟨uv,rfl,rfl⟩:=hR;rw[Bw hv hW];refine EN (PD 9 ?_);refine PD 10 ?_;refine PD 11 ?_;refine PD 12 ?_;refine PD 13 ?_
 refine DN (ac J15 (ab λ_ J16=>sr λ_ J17=>FA 0 fk aR ?_));refine LT 2 Y3 (.int .i64 (q)) ?_ (hc:=by exact cI _ rfl);refine PS ?_;refine ao ?_ ?_<;>intro h55;refine PS ?_;refine UT ?_;refine UT ?_;refine P2 ?_
 iterate 5 refine UT ?_
 refine PS ?_;refine nx J17 (CY (sr λ_ J18=>PS ?_));exact nx J18 (ai (ae (WK [3,0] (av rfl rfl ⟨rfl,rfl⟩))));refine P2 ?_;refine PS ?_;refine P3 ?_;refine FA 2 fk aR ?_;refine LT 2 Y3 (.int .i64 (((j:Nat):Int))) ?_ (hc:=by exact iy _ rfl);refine CE Ci (sz c n j D M P hj (hk.resolve_left h55)) (SM [3]) ?_;refine PS ?_;refine PS ?_;refine nx J17 (CY (sr λ_ J19=>PS ?_));exact nx J19 (ai (ae (WK [0,0] (av rfl rfl ⟨rfl,rfl⟩))))
theorem zQ(c n i:Nat)(D M P:Nat→Value)(hi:i<5)(j:Nat)(hj:j<5)(hv:dK ((i:Nat):Int) ((j:Nat):Int)=true)(W:List (List MsgT))(hW:W.length=25)(l:List MsgT)(hl:W.getD (bA ((i:Nat):Int) ((j:Nat):Int)) []=l)(h8:l.length≤8)(hlen: ∀m∈l,0< (dQ m).length)(o:OpT)(m:MsgT)(l2:List MsgT)(ht:k9 (max o.n 0% ((l.length:Nat):Int)).toNat l=m::l2)(bs:List Nat)(d r:Nat)(s:MS LD)(hD:D j= .pointer (some ⟨d,0,none⟩))(hM:M j= .pointer (some ⟨r,0,none⟩))(ho:s.o=[])(hs:OkR KD s)(hto:((i:Nat):Int)≠s.id)(hrs:s.replies.length≤1000000):
    DT 46 #[(.pointer (some ⟨c,0,none⟩)),(.agg (ints (OpT.mk 5 ((i:Nat):Int) ((j:Nat):Int) o.key o.n o.change o.mask o.torn o.cut).flat).toArray)] T0 [ah n (fa bs) 135,fJ 184 5 bs (cY W),ah c (eL n D M P) 73,dk d s.e.D,eW s d r] (dh (λv H=>(s.e.D.dn=true∧v= .int .i64 0∧H=[ah c (eL n D M P) 73,dk d s.e.D,eG 135 184 5 n (cY ((W.set (bA ((i:Nat):Int) ((j:Nat):Int)) l2))),eW s d r])∨(s.e.D.dn=false∧(iP (dQ m)).2≠0∧v= .int .i64 (iP (dQ m)).2∧H=[ah c (eL n D M P) 73,dk d s.e.D,eG 135 184 5 n (cY ((W.set (bA ((i:Nat):Int) ((j:Nat):Int)) l2))),eW s d r])∨(s.e.D.dn=false∧(iP (dQ m)).2=0∧v= .int .i64 0∧H=[ah c (eL n D M P) 73,dk d (gg KD s ((i:Nat):Int) (iP (dQ m)).1).hush.e.D,eG 135 184 5 n (cY (gD (W.set (bA ((i:Nat):Int) ((j:Nat):Int)) l2) j (gg KD s ((i:Nat):Int) (iP (dQ m)).1).o)),eW (gg KD s ((i:Nat):Int) (iP (dQ m)).1).hush d r]))):=by
 refine BD 91 Tryz.func46 rfl rfl rfl λw0 F hF=>?_
 have hln:0<l.length:=by
     have:=kb (max o.n 0% ((l.length:Nat):Int)).toNat l;rw[ht]at this;rw[←this];exact Nat.succ_pos _
 have hm0:0< (dQ m).length:=hlen m ((oG (max o.n 0% ((l.length:Nat):Int)).toNat l).1 (ht▸ez ..));have hrl:(max o.n 0% ((l.length:Nat):Int))< ((l.length:Nat):Int):=HZ _ (by omega);refine sr λ_ J1=>XY (ints (OpT.mk 5 ((i:Nat):Int) ((j:Nat):Int) o.key o.n o.change o.mask o.torn o.cut).flat) λb3=>?_
 refine PS ?_;refine nx J1 (ab λ_ J2=>D2 0 3 df ?_);refine PD 0 ?_;refine PD 1 ?_;refine FD 2 0 pI Bx ?_;refine LX 3 Kb (.pointer (some ⟨n,0,none⟩)) ?_ (hc:=by exact Db n D M P);refine FD 4 1 fk aR ?_;refine LX 5 Y3 (.int .i64 (((i:Nat):Int))) ?_ (hc:=by exact bO _ rfl);refine FD 6 2 fk aR ?_;refine LX 7 Y3 (.int .i64 (((j:Nat):Int))) ?_ (hc:=by exact iy _ rfl);refine AL 8 ?_;refine CR Eo (mI n bs ((i:Nat):Int) ((j:Nat):Int)) (SM [1]) λvR HR hR=>?_
 obtain⟨hw,rfl⟩:=hR;obtain⟨_,rfl⟩:dK ((i:Nat):Int) ((j:Nat):Int)=true∧vR= .pointer (some ⟨(bs.getD (bA ((i:Nat):Int) ((j:Nat):Int)) 0),0,none⟩):=hw.resolve_right (λq=>by rw[hv]at q;cases q.1);refine EN (PD 9 ?_);refine DN (ac J2 (ab λ_ J3=>sr λ_ J4=>PS ?_));refine tp (iT rfl Bd rfl rfl) ?_;refine nx J4 (CN (qx J3 (ab λ_ J5=>sr λ_ J6=>ck (H':=[hX 184 5 (bs.getD (bA ((i:Nat):Int) ((j:Nat):Int)) 0) (List.map (kD (bA ((i:Nat):Int) ((j:Nat):Int))) l),gk 184 5 bs (cY W) (bA ((i:Nat):Int) ((j:Nat):Int)),ah n (fa bs) 135,ah b3 (ints (OpT.mk 5 ((i:Nat):Int) ((j:Nat):Int) o.key o.n o.change o.mask o.torn o.cut).flat) 63,ah c (eL n D M P) 73,dk d s.e.D,eW s d r]) (λ_ q=>hl▸qD W (ir hv).1▸nP hv (aB [2] rfl q)) (PS ?_))));refine CE En (kw (bs.getD (bA ((i:Nat):Int) ((j:Nat):Int)) 0) (List.map (kD (bA ((i:Nat):Int) ((j:Nat):Int))) l)) ID ?_;rw[bM];refine PS ?_;refine ao ?_ ?_<;>intro h23
 · exact absurd h23 (by omega)
 refine nx J6 (CN (qx J5 (ab λ_ J7=>sr λ_ J8=>FA 0 fk aR ?_)));refine LT 3 Y3 (.int .i64 5) ?_ (hc:=by exact cI _ rfl);refine PS ?_;refine nx J8 (CN (qx J7 (ab λ_ J9=>ab λ_ J10=>D1 3 df ?_)));refine FD 0 4 fk aR ?_;refine LX 1 Y3 (.int .i64 (o.n)) ?_ (hc:=by exact tm _ rfl);refine ta 2 rfl (yK rfl rfl rfl) ?_;refine PD 3 ?_;refine PD 6 ?_;refine AL 4 ?_;refine CE En (kw (bs.getD (bA ((i:Nat):Int) ((j:Nat):Int)) 0) (List.map (kD (bA ((i:Nat):Int) ((j:Nat):Int))) l)) ID ?_;rw[bM];refine EN (ta 5 rfl (PV.rem (r:=(max o.n 0% ((l.length:Nat):Int))) rfl rfl rfl (by omega) (tn (by omega))) ?_);refine DN (ac J10 (au ?_))
 refine bu (α:=(Nat)) (λk=>((k:Nat):Int)≤(max o.n 0% ((l.length:Nat):Int))) (λk=>[(0,(.pointer (some ⟨c,0,none⟩))),(3,(.pointer (some ⟨b3,0,none⟩))),(4,(.int .i64 0)),(5,(.pointer (some ⟨(bs.getD (bA ((i:Nat):Int) ((j:Nat):Int)) 0),0,none⟩))),(35,(.int .i64 ((max o.n 0% ((l.length:Nat):Int))))),(36,(.int .i64 (((k:Nat):Int))))]) (λk=>[hX 184 5 (bs.getD (bA ((i:Nat):Int) ((j:Nat):Int)) 0) (List.map (kD (bA ((i:Nat):Int) ((j:Nat):Int))) (k9 k l)),gk 184 5 bs (cY W) (bA ((i:Nat):Int) ((j:Nat):Int)),ah n (fa bs) 135,ah b3 (ints (OpT.mk 5 ((i:Nat):Int) ((j:Nat):Int) o.key o.n o.change o.mask o.torn o.cut).flat) 63,ah c (eL n D M P) 73,dk d s.e.D,eW s d r]) (λk=>(max o.n 0% ((l.length:Nat):Int)).toNat-k) 0
     (zK _ (by omega)) SB
     (λ_ s=>aB [0,0,0,0,0,0,0] rfl s) (λk hinv=>?_)
 obtain hk:=hinv;refine sr λ_ J11=>PS ?_
 refine ao ?_ ?_<;>intro h37;refine nx J11 (ab λ_ J12=>CY (qx J12 (ab λ_ J13=>au (ad (PS ?_)))))
 refine hJ (aa rfl) rfl rfl rfl NB rfl (tg (bs.getD (bA ((i:Nat):Int) ((j:Nat):Int)) 0) (List.map (kD (bA ((i:Nat):Int) ((j:Nat):Int))) (k9 k l)) (by rw[bM,kb];exact h8) (λx hx=>by
        obtain⟨m,_,rfl⟩:=eS.1 hx
        exact vW _ m)) (λ_ s=>s) (λ_ _ _=>trivial) (λvR HR hR=>?_)
 obtain rfl:=hR;rw[yX];refine aq (ag (ac J13 (ad (AD ?_))));refine PS ?_;refine aq ?_
 exact aJ ((k+1):(Nat)) (by omega) (by show(max o.n 0% ((l.length:Nat):Int)).toNat- (k+1)< (max o.n 0% ((l.length:Nat):Int)).toNat-k;omega)
   SB
   (λ_ s=>aB [0,0,0,0,0,0,0] rfl s)
 have hkr:k=(max o.n 0% ((l.length:Nat):Int)).toNat:=by omega
 refine ck (H':=[hX 184 5 (bs.getD (bA ((i:Nat):Int) ((j:Nat):Int)) 0) (List.map (kD (bA ((i:Nat):Int) ((j:Nat):Int))) (m::l2)),gk 184 5 bs (cY W) (bA ((i:Nat):Int) ((j:Nat):Int)),ah n (fa bs) 135,ah b3 (ints (OpT.mk 5 ((i:Nat):Int) ((j:Nat):Int) o.key o.n o.change o.mask o.torn o.cut).flat) 63,ah c (eL n D M P) 73,dk d s.e.D,eW s d r]) (λ_ q=>by rw[hkr,ht]at q;exact q) (nx J11 (ab λ_ J14=>CN (aY (aC (aC (bo (ac J9 (ab λ_ J15=>D2 3 4 df ?_))))))));refine PD 0 ?_;refine PD 1 ?_;refine FD 2 0 pI Bx ?_;refine LX 3 Kb (.pointer (some ⟨n,0,none⟩)) ?_ (hc:=by exact Db n D M P);refine FD 4 1 fk aR ?_;refine LX 5 Y3 (.int .i64 (((i:Nat):Int))) ?_ (hc:=by exact bO _ rfl);refine FD 6 2 fk aR ?_;refine LX 7 Y3 (.int .i64 (((j:Nat):Int))) ?_ (hc:=by exact iy _ rfl);refine AL 8 ?_;refine ck (H':=[eG 135 184 5 n (cY (W.set (bA ((i:Nat):Int) ((j:Nat):Int)) (m::l2))),ah b3 (ints (OpT.mk 5 ((i:Nat):Int) ((j:Nat):Int) o.key o.n o.change o.mask o.torn o.cut).flat) 63,ah c (eL n D M P) 73,dk d s.e.D,eW s d r]) (λ_ q=>pN (bs:=bs) hv hW (aB [0,0,0] rfl q)) (CR NA (qZ n (cY (W.set (bA ((i:Nat):Int) ((j:Nat):Int)) (m::l2))) ((i:Nat):Int) ((j:Nat):Int) (dQ m) (List.map (kD (bA ((i:Nat):Int) ((j:Nat):Int))) l2) hv (pO _) (Fw hv hW) hm0 (by have:=s9 m;omega)) ID λvR HR hR=>?_);obtain⟨uv,rfl,rfl⟩:=hR;rw[Bw hv hW];refine EN (PD 9 ?_);refine PD 10 ?_
 refine PD 11 ?_;refine PD 12 ?_;refine PD 13 ?_;refine DN (ac J15 (ab λ_ J16=>sr λ_ J17=>FA 0 fk aR ?_));refine LT 2 Y3 (.int .i64 5) ?_ (hc:=by exact cI _ rfl);refine P3 ?_;refine PS ?_;refine P3 ?_;refine FA 2 fk aR ?_;refine LT 2 Y3 (.int .i64 (((j:Nat):Int))) ?_ (hc:=by exact iy _ rfl);refine CE Ci (sy c n j D M P hj d r s.e.D hD hM) (SM [3,3]) ?_;refine bc ?_ ?_<;>intro h64;refine PS ?_;refine PS ?_;refine nx J17 (CN (qx J16 (sr λ_ J18=>PS ?_)));refine CF Pk (C5 uv (dQ m)) ID (AM 3 rfl rfl) ?_;refine P3 ?_;refine XZ mn (ints MsgT.zero.flat) λb8=>?_
 refine SW 0 cd aG ?_;refine PS ?_;refine nx J18 (ab λ_ J19=>sr λ_ J20=>P2 ?_);refine ao ?_ ?_<;>intro h73;refine nx J20 (CY (ot (λw=>Frm F w∧w.heap[b3]?=some (.cells (ints (OpT.mk 5 ((i:Nat):Int) ((j:Nat):Int) o.key o.n o.change o.mask o.torn o.cut).flat).toArray 63 (0,0))∧w.heap[c]?=some (.cells (eL n D M P).toArray 73 (0,0))∧w.heap[b8]?=some (.cells (ints ((iP (dQ m)).1).flat).toArray 163 (0,0))∧True) df rfl (λ_ s=>⟨ec s,s.block 5 (lb rfl) rfl,s.block 1 (lb rfl) rfl,s.block 0 (lb rfl) rfl,trivial⟩) (PD 0 ?_)));refine FD 1 2 fk aR ?_;refine LX 2 Y3 (.int .i64 (((j:Nat):Int))) ?_ (hc:=by exact iy _ rfl);refine PD 3 ?_;refine FD 4 6 pI pp ?_;refine IY 5 (6+j) vq kc ?_;refine LX 6 ut (.pointer (some ⟨r,0,none⟩)) ?_ (hc:=by exact(xL n D M P hj).trans (congrArg some hM));refine PD 7 ?_;refine FD 8 2 fk aR ?_;refine LX 9 Y3 (.int .i64 (((j:Nat):Int))) ?_ (hc:=by exact iy _ rfl);refine ta 10 rfl (jY (cells:=#[(.pointer (some ⟨c,0,none⟩)),(.int .i64 (((j:Nat):Int)))]) rfl rfl (by as_aux_lemma=>kernel_rfl)) ?_;refine ta 11 rfl (pB rfl Fp rfl rfl) ?_;refine FD 12 1 fk aR ?_;refine LX 13 Y3 (.int .i64 (((i:Nat):Int))) ?_ (hc:=by exact bO _ rfl);refine LY 14 bd cd aG ?_;refine AL 15 ?_
 refine ck (H':=[cF (xA c n d j D M P hj hD (W.set (bA ((i:Nat):Int) ((j:Nat):Int)) l2) (by rw[cy];exact hW)) r s,ah b8 (ints ((iP (dQ m)).1).flat) 163,gC uv (dQ m) 5,ah b3 (ints (OpT.mk 5 ((i:Nat):Int) ((j:Nat):Int) o.key o.n o.change o.mask o.torn o.cut).flat) 63]) (λ_ q=>Et ho (aB [1,1,1,3] rfl q)) (CZ Nz (@Ab _ (xA c n d j D M P hj hD (W.set (bA ((i:Nat):Int) ((j:Nat):Int)) l2) (by rw[cy];exact hW)) r s ((i:Nat):Int) (iP (dQ m)).1 hs (F3 _) hto hrs) ID λvR=>?_);change TL _ _ _ _ _ _ _ _ _ [cF (xA c n d j D M P hj hD (W.set (bA ((i:Nat):Int) ((j:Nat):Int)) l2) (by rw[cy];exact hW)) r (gg KD s ((i:Nat):Int) (iP (dQ m)).1),ah b8 (ints ((iP (dQ m)).1).flat) 163,gC uv (dQ m) 5,ah b3 (ints (OpT.mk 5 ((i:Nat):Int) ((j:Nat):Int) o.key o.n o.change o.mask o.torn o.cut).flat) 63];refine ck (H':=[ah c (eL n D M P) 73,dk d ((gg KD s ((i:Nat):Int) (iP (dQ m)).1).e.D),eG 135 184 5 n (cY (gD (W.set (bA ((i:Nat):Int) ((j:Nat):Int)) l2) j (gg KD s ((i:Nat):Int) (iP (dQ m)).1).o)),eW ((gg KD s ((i:Nat):Int) (iP (dQ m)).1).hush) d r,ah b8 (ints ((iP (dQ m)).1).flat) 163,gC uv (dQ m) 5,ah b3 (ints (OpT.mk 5 ((i:Nat):Int) ((j:Nat):Int) o.key o.n o.change o.mask o.torn o.cut).flat) 63]) (λ_ q=>AF (s:=(gg KD s ((i:Nat):Int) (iP (dQ m)).1)) q) (EN (DN (ac J19 (sr λ_ J21=>P2 ?_))));refine nx J21 (ai (WK [0,0,0,0] (av rfl rfl ?_)))
 exact .inr (.inr ⟨(by simpa using h64),h73,(by rw[h73]),rfl⟩);refine nx J20 (CN (qx J19 (sr λ_ J22=>P2 ?_)));refine nx J22 (ai (WK [1,1,1,3] (av rfl rfl ?_)));exact .inr (.inl ⟨(by simpa using h64),h73,rfl,rfl⟩);refine PS ?_;refine PS ?_;refine nx J17 (CY (sr λ_ J23=>PS ?_));refine nx J23 (ai (ae (WK [0,0,0,2] (av rfl rfl ?_))));exact .inl ⟨(by simpa using h64),rfl,rfl⟩
theorem tO{f:Nat→HP}{k i:Nat}(hi:i<k){H:List HP}{h:Hl}(s:bD (bD ((List.range k).map f)::H) h):bD (f i::bD (((List.range k).map f).eraseIdx i)::H) h:=by
 have s1:bD ((List.range k).map f++H) h:=(bZ _ _).2 s;have e:((List.range k).map f).getD i (λ_=>True)=f i:=by simp[List.getD_eq_getElem?_getD,hi]
 have p:=mU (λ_=>True) ((List.range k).map f) i (by simpa using hi);rw[e]at p;exact cB (eg (p.append_right H) s1) (λ_ a=>a) λ_ b=>(bZ _ _).1 b
theorem tN{f g:Nat→HP}{k i:Nat}(hi:i<k)(hg: ∀j,j≠i→g j=f j){H:List HP}{h:Hl}(s:bD (g i::bD (((List.range k).map f).eraseIdx i)::H) h):bD (bD ((List.range k).map g)::H) h:=by
 have e0:((List.range k).map g).eraseIdx i=((List.range k).map f).eraseIdx i:=by
  refine List.ext_getElem? λj=>?_
  rw[List.getElem?_eraseIdx,List.getElem?_eraseIdx]
  have: ∀m,m≠i→((List.range k).map g)[m]?=((List.range k).map f)[m]?:=λm hm=>by
   rw[List.getElem?_map,List.getElem?_map]
   by_cases hk:m<k
   · simp[hk,hg m hm]
   · simp[hk]
  split
  · exact this j (by omega)
  · exact this (j+1) (by omega)
 have e:((List.range k).map g).getD i (λ_=>True)=g i:=by simp[List.getD_eq_getElem?_getD,hi]
 have p:=mU (λ_=>True) ((List.range k).map g) i (by simpa using hi);rw[e,e0]at p;have s2:bD ((g i::((List.range k).map f).eraseIdx i)++H) h:=cB s (λ_ a=>a) λ_ b=>(bZ _ _).2 b
 exact(bZ _ _).1 (eg (p.symm.append_right H) s2)
section
variable {f:FuncId} {args:Array Value} {Q:Value→Prop} {c i:Nat} {a a':CL}
theorem A0(hi:i<5){Z:Value→CL→Prop}(hne: ∀v a',Z v a'→∀j,j≠i→a'.at' j=a.at' j)
 (core: ∀g:CX,DT f args T0 (ah c (eL g.n (mx g) (jT a g.r) g.p) 73::eG 135 184 5 g.n (cY a.W)::kn (a.at' i) (g.d i) (g.r i) (g.p i))
  (dh λv H=>∃a',Z v a'∧∃g':CX,g'.n=g.n∧(∀j,j≠i→g'.d j=g.d j∧g'.r j=g.r j∧g'.p j=g.p j)∧H=ah c (eL g.n (mx g') (jT a' g'.r) g'.p) 73::eG 135 184 5 g.n (cY a'.W)::kn (a'.at' i) (g'.d i) (g'.r i) (g'.p i))):
 DT f args T0 [gF c a] (dh λv H=>∃a',Z v a'∧H=[gF c a']):=by
 refine Leg.Does.ex (A':=λg:CX=>(ah c (eL g.n (mx g) (jT a g.r) g.p) 73::eG 135 184 5 g.n (cY a.W)::kn (a.at' i) (g.d i) (g.r i) (g.p i))++[bD (((List.range 5).map λi=>lA (a.at' i) (g.d i) (g.r i) (g.p i)).eraseIdx i)]) (λh s=>?_) λg=>?_
 · obtain⟨g,s⟩:=fq s
   have s2:=tO (f:=λi=>lA (a.at' i) (g.d i) (g.r i) (g.p i)) hi (aB [2,0,0] rfl s);have s3:=(bZ (kn (a.at' i) (g.d i) (g.r i) (g.p i)) _).2 s2;exact⟨g,aB [4,4,0,0,0,0] rfl s3⟩
 · refine Leg.Does.withinR (core g) (λ_ _ _ _=>trivial) (λh s=>s) λv H hp=>?_
   obtain⟨a',hz,g',hn,hg,rfl⟩:=hp;refine⟨[gF c a'],λh s=>?_,a',hz,rfl⟩;have s1:=aB [2,2,2,2,0,0] rfl s;have s2:=(bZ (kn (a'.at' i) (g'.d i) (g'.r i) (g'.p i)) _).1 s1
   have s3:=tN (f:=λi=>lA (a.at' i) (g.d i) (g.r i) (g.p i)) (g:=λi=>lA (a'.at' i) (g'.d i) (g'.r i) (g'.p i)) hi (λj hj=>by
    obtain⟨h1,h2,h3⟩:=hg j hj
    rw[hne v a' hz j hj,h1,h2,h3]) s2
   refine bn (p:=ra c a') g' ?_;rw[←hn]at s3;exact aB [1,1,0] rfl s3
theorem xe(hne: ∀j,j≠i→a'.at' j=a.at' j)(r:Nat→Nat)(hi:yp (a'.at' i) (r i)=yp (a.at' i) (r i)):jT a' r=jT a r:=funext λj=>by
 by_cases q:j=i
 · subst q;exact hi
 · show yp (a'.at' j) (r j)=yp (a.at' j) (r j)
   rw[hne j q]
theorem E8(hl:a.ms.length=5)(hi:i<5){s:MS LD}(hs:(a.at' i).run=some s){R:Value→MS LD→List (List MsgT)→Prop}
 (core: ∀g:CX,jT a g.r i= .pointer (some ⟨g.r i,0,none⟩)→DT f args T0 [ah c (eL g.n (mx g) (jT a g.r) g.p) 73,dk (g.d i) s.e.D,eG 135 184 5 g.n (cY a.W),eW s (g.d i) (g.r i)]
  (dh λv H=>∃s' W',R v s' W'∧H=[ah c (eL g.n (mx g) (jT a g.r) g.p) 73,dk (g.d i) s'.e.D,eG 135 184 5 g.n (cY W'),eW s' (g.d i) (g.r i)])):
 DT f args T0 [gF c a] (dh λv H=>∃a',(∃s' W',R v s' W'∧a'=⟨a.ms.set i {a.at' i with run:=some s'},W'⟩)∧H=[gF c a']):=by
 refine A0 hi (λv a' hz j hj=>?_) λg=>?_
 · obtain⟨s',W',_,rfl⟩:=hz
   exact u7 hj
 · have em:jT a g.r i= .pointer (some ⟨g.r i,0,none⟩):=by show yp (a.at' i) _=_;unfold yp;rw[hs]
   have e1:p3 (a.at' i) (g.d i) (g.r i)=eW s (g.d i) (g.r i):=by unfold p3;rw[hs]
   have e2:(a.at' i).dk=s.e.D:=by unfold Slot.dk;rw[hs]
   refine Leg.Does.withinR (B:=[kR (g.p i) (a.at' i).past]) (core g em) (λ_ _ _ _=>trivial) (λh q=>?_) λv H hp=>?_
   · unfold kn at q
     rw[e1,e2]at q;exact aB [0,1,0,1,0] rfl q
   · obtain⟨s',W',hR,rfl⟩:=hp
     have ea:(CL.mk (a.ms.set i {a.at' i with run:=some s'}) W').at' i= {a.at' i with run:=some s'}:=um (by rw[hl];exact hi);have hm:jT ⟨a.ms.set i {a.at' i with run:=some s'},W'⟩ g.r=jT a g.r:=xe (λj hj=>u7 hj) g.r (by rw[ea];unfold yp;rw[hs]);refine⟨_,λh q=>?_,_,⟨s',W',hR,rfl⟩,g,rfl,λ_ _=>⟨rfl,rfl,rfl⟩,rfl⟩;rw[hm,ea];exact aB [0,1,0,1,0] rfl q
theorem AZ(core: ∀g:CX,DT f args T0 [ah c (eL g.n (mx g) (jT a g.r) g.p) 73] (dh λv H=>Q v∧H=[ah c (eL g.n (mx g) (jT a g.r) g.p) 73])):
 DT f args T0 [gF c a] (dh λv H=>Q v∧H=[gF c a]):=by
 refine Leg.Does.ex (A':=λg:CX=>[ah c (eL g.n (mx g) (jT a g.r) g.p) 73]++[eG 135 184 5 g.n (cY a.W),bD ((List.range 5).map λi=>lA (a.at' i) (g.d i) (g.r i) (g.p i))]) (λh s=>fq s) λg=>?_
 refine Leg.Does.withinR (core g) (λ_ _ _ _=>trivial) (λh s=>s) λv H hp=>?_
 obtain⟨hQ,rfl⟩:=hp;exact⟨[gF c a],λh s=>bn (p:=ra c a) g s,hQ,rfl⟩
theorem JB{R:Value→List (List MsgT)→Prop}(core: ∀g:CX,DT f args T0 [ah c (eL g.n (mx g) (jT a g.r) g.p) 73,eG 135 184 5 g.n (cY a.W)] (dh λv H=>∃W',R v W'∧H=[ah c (eL g.n (mx g) (jT a g.r) g.p) 73,eG 135 184 5 g.n (cY W')])):
 DT f args T0 [gF c a] (dh λv H=>∃W',R v W'∧H=[gF c ⟨a.ms,W'⟩]):=by
 refine Leg.Does.ex (A':=λg:CX=>[ah c (eL g.n (mx g) (jT a g.r) g.p) 73,eG 135 184 5 g.n (cY a.W)]++[bD ((List.range 5).map λi=>lA (a.at' i) (g.d i) (g.r i) (g.p i))]) (λh s=>fq s) λg=>?_
 refine Leg.Does.withinR (core g) (λ_ _ _ _=>trivial) (λh s=>s) λv H hp=>?_
 obtain⟨W',hR,rfl⟩:=hp;exact⟨[gF c ⟨a.ms,W'⟩],λh s=>bn (p:=ra c ⟨a.ms,W'⟩) g s,W',hR,rfl⟩
theorem KY(hl:a.ms.length=5)(hi:i<5){x:Slot}(hm: ∀r,yp x r=yp (a.at' i) r)(hr: ∀d r,p3 x d r=p3 (a.at' i) d r)(hp:x.past=(a.at' i).past)
 (core: ∀g:CX,DT f args T0 [ah c (eL g.n (mx g) (jT a g.r) g.p) 73,dk (g.d i) (a.at' i).dk] (dh λv H=>Q v∧H=[ah c (eL g.n (mx g) (jT a g.r) g.p) 73,dk (g.d i) x.dk])):
 DT f args T0 [gF c a] (dh λv H=>∃a',(Q v∧a'=a.set i x)∧H=[gF c a']):=by
 have ea:(a.set i x).at' i=x:=um (by rw[hl];exact hi);refine A0 hi (λv a' hz j hj=>by rw[hz.2];exact u7 hj) λg=>?_
 refine Leg.Does.withinR (B:=[eG 135 184 5 g.n (cY a.W),kR (g.p i) (a.at' i).past,p3 (a.at' i) (g.d i) (g.r i)]) (core g) (λ_ _ _ _=>trivial) (λh q=>aB [0,1,0,0,0] rfl q) λv H hq=>?_
 obtain⟨hQ,rfl⟩:=hq;have hmm:jT (a.set i x) g.r=jT a g.r:=xe (λj hj=>u7 hj) g.r (by rw[show(CL.mk (a.ms.set i x) a.W).at' i=x from ea];exact hm _);refine⟨_,λh q=>?_,_,⟨hQ,rfl⟩,g,rfl,λ_ _=>⟨rfl,rfl,rfl⟩,rfl⟩;rw[hmm,ea];unfold kn;rw[hp,hr];exact aB [0,1,0,0,0] rfl q
end
theorem lc{f:FuncId}{args:Array Value}{R:Hl→Prop}{A:List HP}{p q:Value→List HP→Prop}(d:DT f args R A (dh p))(k: ∀v H,p v H→q v H):DT f args R A (dh q):=
 Leg.Does.fold d λe H hp=>by
  cases e with
  |returned v=>exact⟨H,λ_ s=>s,k v H hp⟩
  |panicked c=>exact hp.elim
  |outgrown=>exact hp.elim
theorem pX{H:List HP}{h:Hl}(s:bD H h):bD ((λ_=>True)::H) h:=⟨em,h,Dw h,(q8 h).symm,trivial,s⟩
theorem wt{α:Type}{l:List α}{k:Nat}{d:α}(h:k<l.length):l.set k (l.getD k d)=l:=by
 refine List.ext_getElem? λj=>?_
 by_cases q:j=k
 · subst q;rw[List.getElem?_set_self h,List.getD_eq_getElem?_getD,List.getElem?_eq_getElem h];rfl
 · rw[List.getElem?_set_ne (λe=>q e.symm)]
section
variable {n c i:Nat} {a:CL} {o:OpT}
theorem BR(h:CLOk n a)(hi:i<5):a.set i (a.at' i)=a:=by
 show CL.mk (a.ms.set i (a.ms.getD i .nil)) a.W=a;rw[wt (by rw[h.ms];exact hi)]
theorem wI(h:CLOk n a)(hi:i<5){s:MS LD}(hs:(a.at' i).run=some s):(CL.mk (a.ms.set i {a.at' i with run:=some s}) a.W)=a:=by
 have e:({a.at' i with run:=some s}:Slot)=a.at' i:=by cases q:a.at' i with|mk r D p=>rw[q]at hs;simp only at hs;rw[hs]
 rw[e];exact BR h hi
theorem oR{k:Int}(hk:o.kind=k)(hi:o.at'=((i:Nat):Int)):OpT.mk k ((i:Nat):Int) o.to' o.key o.n o.change o.mask o.torn o.cut=o:=by subst hk;rw[←hi]
theorem sP{k:Int}{j:Nat}(hk:o.kind=k)(hi:o.at'=((i:Nat):Int))(hj:o.to'=((j:Nat):Int)):OpT.mk k ((i:Nat):Int) ((j:Nat):Int) o.key o.n o.change o.mask o.torn o.cut=o:=by subst hk;rw[←hi,←hj]
theorem sW{g:CX}{s:MS LD}(hs:(a.at' i).run=some s):jT a g.r i= .pointer (some ⟨g.r i,0,none⟩):=by show yp (a.at' i) _=_;unfold yp;rw[hs]
theorem m4{g:CX}(hs:(a.at' i).run=none):jT a g.r i= .pointer none:=by show yp (a.at' i) _=_;unfold yp;rw[hs]
theorem FT{a':CL}{r r':Nat→Nat}{v:Value}(hne: ∀j,j≠i→a'.at' j=a.at' j)(hr: ∀j,j≠i→r' j=r j)(hv:yp (a'.at' i) (r' i)=v):jT a' r'=kZ (jT a r) i v:=funext λj=>by
 by_cases q:j=i
 · subst q;rw[iW];exact hv
 · rw[mL _ _ q]
   show yp (a'.at' j) (r' j)=yp (a.at' j) (r j);rw[hne j q,hr j q]
theorem JE(h:CLOk n a)(hn:n≤100000)(hi:i<5)(hat:o.at'=((i:Nat):Int))(hk:0≤o.kind∧o.kind≤4)(ho:OkOp o):DT 25 #[.pointer (some ⟨c,0,none⟩), .agg (ints o.flat).toArray] T0 [gF c a] (dh λv H=>v= .int .i64 (C9 a i o).2∧H=[gF c (C9 a i o).1]):=by
 have eo:=oR (o:=o) rfl hat;cases hr:(a.at' i).run with
 |none=>
  refine lc (AZ (Q:=λv=>v= .int .i64 4) λg=>?_) λv H hp=>?_
  · have:=C3 c g.n i (mx g) (jT a g.r) g.p hi (m4 hr) o o.kind hk
    rw[eo]at this;exact this
  · unfold C9;rw[hr];exact hp
 |some s=>
  obtain⟨hs,_,hso⟩:=(h.at' i hi).run s hr;have hrep:=(h.at' i hi).reps;unfold Slot.reps at hrep;rw[hr,af]at hrep;simp only at hrep;refine lc (E8 h.ms hi hr (R:=λv s' W'=>(s.e.D.dn=true∧v= .int .i64 4∧s'=s∧W'=a.W)∨(s.e.D.dn=false∧v= .int .i64 (bV KD s o).2∧s'=(bV KD s o).1.hush∧W'=gD a.W i (bV KD s o).1.o)) λg em=>?_) λv H hp=>?_
  · have:=E3 c g.n i (mx g) (jT a g.r) g.p hi (g.d i) (g.r i) s rfl em a.W h.W hso hs o o.kind hk ho.change (by omega)
    rw[eo]at this;refine lc this λv H hp=>?_
    rcases hp with⟨hd,rfl,rfl⟩| ⟨hd,rfl,rfl⟩
    · exact⟨s,a.W, .inl ⟨hd,rfl,rfl,rfl⟩,rfl⟩
    · exact⟨_,_, .inr ⟨hd,rfl,rfl,rfl⟩,rfl⟩
  · obtain⟨a',⟨s',W',hR,rfl⟩,rfl⟩:=hp
    unfold C9;rw[hr];rcases hR with⟨hd,rfl,rfl,rfl⟩| ⟨hd,rfl,rfl,rfl⟩
    · simp only[hd,if_true];exact⟨by first|rfl|trivial,by rw[wI h hi hr]⟩
    · simp only[hd];exact⟨rfl,rfl⟩
theorem Ih(h:CLOk n a)(hi:i<5)(hat:o.at'=((i:Nat):Int))(hk:o.kind=8):DT 25 #[.pointer (some ⟨c,0,none⟩), .agg (ints o.flat).toArray] T0 [gF c a] (dh λv H=>v= .int .i64 (Bv a i).2∧H=[gF c (Bv a i).1]):=by
 have eo:=oR (o:=o) hk hat;cases hr:(a.at' i).run with
 |none=>
  refine lc (AZ (Q:=λv=>v= .int .i64 4) λg=>?_) λv H hp=>?_
  · have:=C1 c g.n i (mx g) (jT a g.r) g.p hi (m4 hr) o
    rw[eo]at this;exact this
  · unfold Bv;rw[hr];exact hp
 |some s=>
  obtain⟨hs,_,hso⟩:=(h.at' i hi).run s hr;refine lc (E8 h.ms hi hr (R:=λv s' W'=>(s.e.D.dn=true∧v= .int .i64 4∧s'=s∧W'=a.W)∨(s.e.D.dn=false∧v= .int .i64 0∧s'=(iu KD s).hush∧W'=gD a.W i (iu KD s).o)) λg em=>?_) λv H hp=>?_
  · have:=EV c g.n i (mx g) (jT a g.r) g.p hi (g.d i) (g.r i) s rfl em a.W h.W hso hs o
    rw[eo]at this;refine lc this λv H hp=>?_
    rcases hp with⟨hd,rfl,rfl⟩| ⟨hd,rfl,rfl⟩
    · exact⟨s,a.W, .inl ⟨hd,rfl,rfl,rfl⟩,rfl⟩
    · exact⟨_,_, .inr ⟨hd,rfl,rfl,rfl⟩,rfl⟩
  · obtain⟨a',⟨s',W',hR,rfl⟩,rfl⟩:=hp
    unfold Bv;rw[hr];rcases hR with⟨hd,rfl,rfl,rfl⟩| ⟨hd,rfl,rfl,rfl⟩
    · simp only[hd,if_true];exact⟨by first|rfl|trivial,by rw[wI h hi hr]⟩
    · simp only[hd];exact⟨rfl,rfl⟩
theorem JN(h:CLOk n a)(hi:i<5)(hat:o.at'=((i:Nat):Int))(hk:o.kind=9):DT 25 #[.pointer (some ⟨c,0,none⟩), .agg (ints o.flat).toArray] T0 [gF c a] (dh λv H=>v= .int .i64 0∧H=[gF c (a.set i (vn (a.at' i) o.n))]):=by
 have eo:=oR (o:=o) hk hat
 have ed:(vn (a.at' i) o.n).dk=(a.at' i).dk.arm o.n:=by
  unfold vn Slot.dk;cases hr:(a.at' i).run with
  |none=>simp only[hr]
  |some s=>rfl
 refine lc (KY (x:=vn (a.at' i) o.n) (Q:=λv=>v= .int .i64 0) h.ms hi (λr=>?_) (λd r=>?_) ?_ λg=>?_) λv H hp=>?_
 · unfold vn yp
   cases hr:(a.at' i).run with
   |none=>simp only[hr]
   |some s=>rfl
 · unfold vn p3
   cases hr:(a.at' i).run with
   |none=>simp only[hr]
   |some s=>rfl
 · unfold vn;split<;>rfl
 · have:=E5 c g.n i (mx g) (jT a g.r) g.p hi (g.d i) rfl (a.at' i).dk o
   rw[eo]at this;rw[ed];exact this
 · obtain⟨a',⟨rfl,rfl⟩,rfl⟩:=hp
   exact⟨rfl,rfl⟩
theorem Fb(h:CLOk n a)(hn:n≤100000)(hi:i<5)(hat:o.at'=((i:Nat):Int))(hk:o.kind=10):DT 25 #[.pointer (some ⟨c,0,none⟩), .agg (ints o.flat).toArray] T0 [gF c a] (dh λv H=>v= .int .i64 0∧H=[gF c (a.set i (nI (a.at' i) o.mask o.torn o.cut))]):=by
 have eo:=oR (o:=o) hk hat;have so:=h.at' i hi;have hrep:=so.reps;unfold Slot.reps at hrep;rw[af]at hrep;have ea:(a.set i (nI (a.at' i) o.mask o.torn o.cut)).at' i=nI (a.at' i) o.mask o.torn o.cut:=um (by rw[h.ms];exact hi);have hne: ∀j,j≠i→(a.set i (nI (a.at' i) o.mask o.torn o.cut)).at' j=a.at' j:=λj hj=>u7 hj
 refine lc (A0 (Z:=λv a'=>v= .int .i64 0∧a'=a.set i (nI (a.at' i) o.mask o.torn o.cut)) hi (λv a' hz j hj=>by rw[hz.2];exact hne j hj) λg=>?_) λv H hp=>by obtain⟨_,⟨rfl,rfl⟩,rfl⟩:=hp;exact⟨rfl,rfl⟩
 have fin: ∀u,u.oneCell'=true→∀h,bD ([ah c (eL g.n (mx g) (kZ (jT a g.r) i (.pointer none)) (kZ g.p i u)) 73,dk (g.d i) ((a.at' i).dk.crash o.mask o.torn o.cut),kR u (a.at' i).reps]++[eG 135 184 5 g.n (cY a.W)]) h→
  bD (ah c (eL g.n (mx {g with p:=kZ g.p i u}) (jT (a.set i (nI (a.at' i) o.mask o.torn o.cut)) g.r) (kZ g.p i u)) 73::eG 135 184 5 g.n (cY (a.set i (nI (a.at' i) o.mask o.torn o.cut)).W)::kn ((a.set i (nI (a.at' i) o.mask o.torn o.cut)).at' i) (g.d i) (g.r i) (kZ g.p i u i)) h:=λu _ hh q=>by
  rw[FT (a:=a) (i:=i) (v:= .pointer none) (r:=g.r) hne (λ_ _=>rfl) (by rw[ea];rfl),ea,iW];have q2:=pX (aB [0,2,0,0] rfl q);exact aB [1,1,1,1,0] rfl q2
 cases hr:(a.at' i).run with
 |none=>
  have er:(a.at' i).reps=(a.at' i).past:=by unfold Slot.reps;rw[hr,aP]
  have:=EZ c g.n i (mx g) (jT a g.r) g.p hi (g.d i) rfl (m4 hr) (a.at' i).past (by omega) (a.at' i).dk so.dk.ok o;rw[eo]at this;refine Leg.Does.withinR (B:=[eG 135 184 5 g.n (cY a.W)]) this (λ_ _ _ _=>trivial) (λhh q=>?_) λv H hp=>?_
  · exact ak [0,1,1,0] rfl q
  · obtain⟨u,hu,rfl,rfl⟩:=hp
    refine⟨_,λhh q=>fin u hu hh ?_,_,⟨rfl,rfl⟩,{g with p:=kZ g.p i u},rfl,λj hj=>⟨rfl,rfl,mL _ _ hj⟩,rfl⟩;rw[er];exact q
 |some s=>
  rw[hr]at hrep;simp only at hrep;have er:(a.at' i).reps=(a.at' i).past++s.replies:=by unfold Slot.reps;rw[hr]
  have e1:p3 (a.at' i) (g.d i) (g.r i)=eW s (g.d i) (g.r i):=by unfold p3;rw[hr]
  have:=EY c g.n i (mx g) (jT a g.r) g.p hi (g.d i) rfl (g.r i) s (sW hr) (a.at' i).past (by omega) (by omega) (a.at' i).dk so.dk.ok o;rw[eo]at this;refine Leg.Does.withinR (B:=[eG 135 184 5 g.n (cY a.W)]) this (λ_ _ _ _=>trivial) (λhh q=>?_) λv H hp=>?_
  · unfold kn at q
    rw[e1]at q;exact aB [0,1,1,1,0] rfl q
  · obtain⟨u,hu,rfl,rfl⟩:=hp
    refine⟨_,λhh q=>fin u hu hh ?_,_,⟨rfl,rfl⟩,{g with p:=kZ g.p i u},rfl,λj hj=>⟨rfl,rfl,mL _ _ hj⟩,rfl⟩;rw[er];exact q
end
section
variable {n c i:Nat} {a:CL} {o:OpT}
theorem BJ{i:Nat}{D:DS}{s:MS LD}(h:(cJ i D).1=some s):(cJ i D).2=0:=by
 obtain⟨h1,h2⟩:=km h;unfold cJ;rw[if_neg (by rw[h1];decide),h2]
theorem BK(h:CLOk n a)(hi:i<5)(hat:o.at'=((i:Nat):Int))(hk:o.kind=11):DT 25 #[.pointer (some ⟨c,0,none⟩), .agg (ints o.flat).toArray] T0 [gF c a] (dh λv H=>v= .int .i64 (gW i (a.at' i)).2∧H=[gF c (a.set i (gW i (a.at' i)).1)]):=by
 have eo:=oR (o:=o) hk hat;have so:=h.at' i hi;cases hr:(a.at' i).run with
 |some s=>
  have e:gW i (a.at' i)=(a.at' i,5):=by unfold gW;rw[hr]
  rw[e,show a.set i (a.at' i,(5:Int)).1=a from BR h hi];refine AZ (Q:=λv=>v= .int .i64 5) λg=>?_
  have:=EW c g.n i (mx g) (jT a g.r) g.p hi (g.r i) (sW hr) o;rw[eo]at this;exact this
 |none=>
  have e:gW i (a.at' i)=({a.at' i with run:=(cJ i (a.at' i).D).1,D:=(bQ (a.at' i).D).D},(cJ i (a.at' i).D).2):=by unfold gW;rw[hr]
  have hD:=so.D hr;have ed:(a.at' i).dk=(a.at' i).D:=by unfold Slot.dk;rw[hr]
  have e1: ∀d r,p3 (a.at' i) d r= λ_=>True:=λd r=>by unfold p3;rw[hr]
  have hst: ∀x:Slot,(a.set i x).at' i=x:=λx=>um (by rw[h.ms];exact hi)
  have hne: ∀x:Slot,∀j,j≠i→(a.set i x).at' j=a.at' j:=λx j hj=>u7 hj
  refine lc (A0 (Z:=λv a'=>v= .int .i64 (gW i (a.at' i)).2∧a'=a.set i (gW i (a.at' i)).1) hi (λv a' hz j hj=>by rw[hz.2];exact hne _ j hj) λg=>?_) λv H hp=>by obtain⟨_,⟨rfl,rfl⟩,rfl⟩:=hp;exact⟨rfl,rfl⟩
  have:=EX c g.n i (mx g) (jT a g.r) g.p hi (g.d i) rfl (m4 hr) (a.at' i).D hD o;rw[eo]at this;refine Leg.Does.withinR (B:=[eG 135 184 5 g.n (cY a.W),kR (g.p i) (a.at' i).past]) this (λ_ _ _ _=>trivial) (λhh q=>?_) λv H hp=>?_
  · unfold kn at q
    rw[ed]at q;exact ak [0,1,0,0] rfl q
  · rcases hp with⟨hn,rfl,rfl⟩| ⟨s,r,hn,rfl,rfl⟩
    · refine⟨_,λhh q=>?_,_,⟨by rw[e],rfl⟩,g,rfl,λj hj=>⟨rfl,rfl,rfl⟩,rfl⟩
      rw[hst,e];have em:jT (a.set i {a.at' i with run:=(cJ i (a.at' i).D).1,D:=(bQ (a.at' i).D).D}) g.r=jT a g.r:=xe (hne _) g.r (by rw[hst];unfold yp;rw[hr];simp only[hn]);rw[em];have q2:=pX (aB [0,1,0,0] rfl q);have q3:=aB [1,1,1,1,0] rfl q2;unfold kn Slot.dk p3;simp only[hn];exact q3
    · refine⟨_,λhh q=>?_,_,⟨by rw[e];simp only[BJ hn],rfl⟩,{g with r:=kZ g.r i r},rfl,λj hj=>⟨rfl,mL _ _ hj,rfl⟩,rfl⟩
      rw[hst,e];have em:jT (a.set i {a.at' i with run:=(cJ i (a.at' i).D).1,D:=(bQ (a.at' i).D).D}) (kZ g.r i r)=kZ (jT a g.r) i (.pointer (some ⟨r,0,none⟩)):=FT (hne _) (λj hj=>mL _ _ hj) (by rw[hst,iW];unfold yp;simp only[hn]);rw[em];have q3:=aB [0,2,1,1,0] rfl q;unfold kn Slot.dk p3;simp only[hn,iW];exact q3
theorem Gj(h:CLOk n a)(hn:n≤100000)(hi:i<5)(hat:o.at'=((i:Nat):Int))(hk:o.kind=5∨o.kind=6∨o.kind=7):DT 46 #[.pointer (some ⟨c,0,none⟩), .agg (ints o.flat).toArray] T0 [gF c a] (dh λv H=>v= .int .i64 (oC a o).2∧H=[gF c (oC a o).1]):=by
 cases hv:dK o.at' o.to' with
 |false=>
  have e:oC a o=(a,5):=by unfold oC;rw[if_pos hv]
  rw[e];have eo:=oR (o:=o) rfl hat;refine lc (JB (R:=λv W'=>v= .int .i64 5∧W'=a.W) λg=>?_) λv H hp=>by obtain⟨_,⟨rfl,rfl⟩,rfl⟩:=hp;exact⟨rfl,rfl⟩
  refine Leg.Does.ex (A':=λbs:List Nat=>[ah c (eL g.n (mx g) (jT a g.r) g.p) 73,ah g.n (fa bs) 135]++[fJ 184 5 bs (cY a.W)]) (λhh q=>?_) λbs=>?_
  · obtain⟨bs,q⟩:=fq (eg (List.Perm.swap _ _ _) q)
    exact⟨bs,aB [2,0,0] rfl q⟩
  · rw[hat]at hv
    have:=Br c g.n i (mx g) (jT a g.r) g.p hi o.to' o.kind o hv bs;rw[eo]at this;refine Leg.Does.withinR this (λ_ _ _ _=>trivial) (λhh q=>q) λv H hp=>?_
    obtain⟨rfl,rfl⟩:=hp;refine⟨_,λhh q=>?_,a.W,⟨rfl,rfl⟩,rfl⟩;exact eg (List.Perm.swap _ _ _) (bn (p:=λbs:List Nat=>[ah g.n (fa bs) 135,fJ 184 5 bs (cY a.W)]) bs (aB [1,1,0] rfl q))
 |true=>
  obtain⟨j,hto⟩: ∃j:Nat,o.to'=((j:Nat):Int):=⟨o.to'.toNat,((lL (sx hv).2).2).symm⟩;have hj:j<5:=by have:=(lL (sx hv).2).1;rw[hto]at this;simpa using this
  have hv2:dK ((i:Nat):Int) ((j:Nat):Int)=true:=by rw[←hat,←hto];exact hv
  have eK:bA o.at' o.to'=bA ((i:Nat):Int) ((j:Nat):Int):=by rw[hat,hto]
  have hij:((i:Nat):Int)≠((j:Nat):Int):=λe=>by
   unfold dK at hv2;rw[decide_eq_true e]at hv2;simp at hv2
  obtain⟨h8,hlen⟩:=h.way (bA ((i:Nat):Int) ((j:Nat):Int));have hkl:bA ((i:Nat):Int) ((j:Nat):Int)<a.W.length:=by rw[h.W];exact(ir hv2).1
  -- the net alone
  have net: ∀{R:Value→List (List MsgT)→Prop},(∀(g:CX) (bs:List Nat),Leg.Does Tryz.prog 46 #[.pointer (some ⟨c,0,none⟩), .agg (ints o.flat).toArray] (λ_=>True) [ah g.n (fa bs) 135,fJ 184 5 bs (cY a.W),ah c (eL g.n (mx g) (jT a g.r) g.p) 73] (dh λv H=>∃W',R v W'∧H=[ah c (eL g.n (mx g) (jT a g.r) g.p) 73,eG 135 184 5 g.n (cY W')]))→
   Leg.Does Tryz.prog 46 #[.pointer (some ⟨c,0,none⟩), .agg (ints o.flat).toArray] (λ_=>True) [gF c a] (dh λv H=>∃W',R v W'∧H=[gF c ⟨a.ms,W'⟩]):=λcore=>JB λg=>Leg.Does.ex (A':=λbs:List Nat=>[ah g.n (fa bs) 135,fJ 184 5 bs (cY a.W),ah c (eL g.n (mx g) (jT a g.r) g.p) 73]) (λhh q=>fq (eg (List.Perm.swap _ _ _) q)) (core g)
  cases hl:a.W.getD (bA ((i:Nat):Int) ((j:Nat):Int)) []with
  |nil=>
   have e:oC a o=(a,10):=by unfold oC;rw[if_neg (by rw[hv];decide),eK,hl]
   rw[e];refine lc (net (R:=λv W'=>v= .int .i64 10∧W'=a.W) λg bs=>?_) λv H hp=>by obtain⟨_,⟨rfl,rfl⟩,rfl⟩:=hp;exact⟨rfl,rfl⟩
   have:=zP c g.n i (mx g) (jT a g.r) g.p hi j hj hv2 a.W h.W _ rfl h8 hlen o o.kind hl bs;rw[sP rfl hat hto,wt hkl]at this;exact lc this λv H hp=>⟨a.W,⟨hp.1,rfl⟩,hp.2⟩
  |cons m0 l0=>
   by_cases h7:o.kind=7
   · have e:oC a o=(a.way (bA ((i:Nat):Int) ((j:Nat):Int)) (DM (m0::l0)),if Ie (m0::l0)then 0 else 3):=by
      unfold oC;rw[if_neg (by rw[hv];decide),eK,hl];simp only[if_pos h7];split
      · rfl
      · rename_i q
        have q2:DM (m0::l0)=m0::l0:=by unfold DM;unfold Ie at q;rw[if_neg (by simpa using q)]
        rw[q2];show(a,(3:Int))=(CL.mk a.ms (a.W.set _ (m0::l0)),3);rw[←hl,wt hkl]
     rw[e];refine lc (net (R:=λv W'=>v= .int .i64 (if Ie (m0::l0)then 0 else 3)∧W'=a.W.set (bA ((i:Nat):Int) ((j:Nat):Int)) (DM (m0::l0))) λg bs=>?_) λv H hp=>by obtain⟨_,⟨rfl,rfl⟩,rfl⟩:=hp;exact⟨rfl,rfl⟩
     have:=yc c g.n i (mx g) (jT a g.r) g.p hi j hj hv2 a.W h.W (m0::l0) hl (by rw[←hl];exact h8) (by rw[←hl];exact hlen) o (by simp) bs;rw[sP h7 hat hto]at this;exact lc this λv H hp=>⟨_,⟨hp.1,rfl⟩,hp.2⟩
   · cases ht:k9 (max o.n 0% ((m0::l0).length:Int)).toNat (m0::l0)with
     |nil=>have:=kb (max o.n 0% ((m0::l0).length:Int)).toNat (m0::l0);rw[ht]at this;simp at this
     |cons m l2=>
      by_cases h6:o.kind=6
      · have e:oC a o=(a.way (bA ((i:Nat):Int) ((j:Nat):Int)) l2,0):=by
         unfold oC;rw[if_neg (by rw[hv];decide),eK,hl];simp only[if_neg h7];rw[ht];simp only[if_pos h6]
        rw[e];refine lc (net (R:=λv W'=>v= .int .i64 0∧W'=a.W.set (bA ((i:Nat):Int) ((j:Nat):Int)) l2) λg bs=>?_) λv H hp=>by obtain⟨_,⟨rfl,rfl⟩,rfl⟩:=hp;exact⟨rfl,rfl⟩
        have:=sq c g.n i (mx g) (jT a g.r) g.p hi j hj hv2 a.W h.W (m0::l0) hl (by rw[←hl];exact h8) (by rw[←hl];exact hlen) o m l2 ht bs 6 (.inr rfl) (.inl rfl);rw[sP h6 hat hto]at this;exact lc this λv H hp=>⟨_,⟨hp.1,rfl⟩,hp.2⟩
      · have h5:o.kind=5:=by omega
        have e:oC a o=tf (a.way (bA ((i:Nat):Int) ((j:Nat):Int)) l2) i j m:=by
         unfold oC;rw[if_neg (by rw[hv];decide),eK,hl];simp only[if_neg h7];rw[ht];simp only[if_neg h6];rw[hat,hto];rfl
        rw[e];have ew:(a.way (bA ((i:Nat):Int) ((j:Nat):Int)) l2).at' j=a.at' j:=rfl;cases hr:(a.at' j).run with
        |none=>
         have e2:tf (a.way (bA ((i:Nat):Int) ((j:Nat):Int)) l2) i j m=(a.way (bA ((i:Nat):Int) ((j:Nat):Int)) l2,0):=by unfold tf;rw[ew,hr]
         rw[e2];refine lc (net (R:=λv W'=>v= .int .i64 0∧W'=a.W.set (bA ((i:Nat):Int) ((j:Nat):Int)) l2) λg bs=>?_) λv H hp=>by obtain⟨_,⟨rfl,rfl⟩,rfl⟩:=hp;exact⟨rfl,rfl⟩
         have:=sq c g.n i (mx g) (jT a g.r) g.p hi j hj hv2 a.W h.W (m0::l0) hl (by rw[←hl];exact h8) (by rw[←hl];exact hlen) o m l2 ht bs 5 (.inl rfl) (.inr (m4 hr));rw[sP h5 hat hto]at this;exact lc this λv H hp=>⟨_,⟨hp.1,rfl⟩,hp.2⟩
        |some s=>
         obtain⟨hs,hid,hso⟩:=(h.at' j hj).run s hr;have hrep:=(h.at' j hj).reps;unfold Slot.reps at hrep;rw[hr,af]at hrep;simp only at hrep;have W2:(a.W.set (bA ((i:Nat):Int) ((j:Nat):Int)) l2).length=25:=by rw[cy];exact h.W
         refine lc (E8 h.ms hj hr (R:=λv s' W'=>(s.e.D.dn=true∧v= .int .i64 0∧s'=s∧W'=a.W.set (bA ((i:Nat):Int) ((j:Nat):Int)) l2)∨(s.e.D.dn=false∧(iP (dQ m)).2≠0∧v= .int .i64 (iP (dQ m)).2∧s'=s∧W'=a.W.set (bA ((i:Nat):Int) ((j:Nat):Int)) l2)∨(s.e.D.dn=false∧(iP (dQ m)).2=0∧v= .int .i64 0∧s'=(gg KD s ((i:Nat):Int) (iP (dQ m)).1).hush∧W'=gD (a.W.set (bA ((i:Nat):Int) ((j:Nat):Int)) l2) j (gg KD s ((i:Nat):Int) (iP (dQ m)).1).o)) λg em=>?_) λv H hp=>?_
         · refine Leg.Does.ex (A':=λbs:List Nat=>[ah g.n (fa bs) 135,fJ 184 5 bs (cY a.W),ah c (eL g.n (mx g) (jT a g.r) g.p) 73,dk (g.d j) s.e.D,eW s (g.d j) (g.r j)]) (λhh q=>fq (aB [2,0,0,0] rfl q)) λbs=>?_
           have:=zQ c g.n i (mx g) (jT a g.r) g.p hi j hj hv2 a.W h.W (m0::l0) hl (by rw[←hl];exact h8) (by rw[←hl];exact hlen) o m l2 ht bs (g.d j) (g.r j) s rfl em hso hs (by rw[hid];exact hij) (by omega);rw[sP h5 hat hto]at this;refine lc this λv H hp=>?_
           rcases hp with⟨hd,rfl,rfl⟩| ⟨hd,h1,rfl,rfl⟩| ⟨hd,h1,rfl,rfl⟩
           · exact⟨_,_, .inl ⟨hd,rfl,rfl,rfl⟩,rfl⟩
           · exact⟨_,_, .inr (.inl ⟨hd,h1,rfl,rfl,rfl⟩),rfl⟩
           · exact⟨_,_, .inr (.inr ⟨hd,h1,rfl,rfl,rfl⟩),rfl⟩
         · obtain⟨a',⟨s',W',hR,rfl⟩,rfl⟩:=hp
           have er: ∀W',CL.mk (a.ms.set j {a.at' j with run:=some s}) W'=CL.mk a.ms W':=λW'=>by
            have:=congrArg CL.ms (wI h hj hr);rw[show a.ms.set j {a.at' j with run:=some s}=a.ms from this]
           unfold tf;rw[ew,hr];rcases hR with⟨hd,rfl,rfl,rfl⟩| ⟨hd,h1,rfl,rfl,rfl⟩| ⟨hd,h1,rfl,rfl,rfl⟩
           · simp only[hd,if_true];exact⟨by first|rfl|trivial,by rw[er];rfl⟩
           · simp only[hd,if_neg h1];exact⟨by first|rfl|trivial,by rw[er];rfl⟩
           · simp only[hd,if_pos h1];exact⟨by first|rfl|trivial,rfl⟩
end
theorem E4(c:Nat)(X:HP)(o:OpT)(hm:gM o.at'=false):
 DT 25 #[(.pointer (some ⟨c,0,none⟩)),(.agg (ints o.flat).toArray)] T0 [X] (RI (.int .i64 5) [X]):=by
 refine BD 114 Tryz.func25 rfl rfl rfl λw0 F hF=>sr λ_ J1=>XY (ints o.flat) λb3=>?_
 refine PS ?_;refine nx J1 (ab λ_ J2=>sr λ_ J3=>PS ?_);refine FA 1 fk aR ?_;refine LU 0 Y3 (bO o rfl) ?_;refine CE qa (wV c o.at') ID ?_;rw[hm];refine PS ?_;refine nx J3 (CY (sr λ_ J4=>PS ?_));exact nx J4 (ai (ae (WK [1] (av rfl rfl ⟨rfl,rfl⟩))))
theorem EU(c i:Nat)(hi:i<5)(X:HP)(o:OpT)(k:Int)(hk:k=5∨k=6∨k=7)(p:Int→HP→Prop)(hw:DT 46 #[(.pointer (some ⟨c,0,none⟩)),(.agg (ints (OpT.mk k ((i:Nat):Int) o.to' o.key o.n o.change o.mask o.torn o.cut).flat).toArray)] T0 [X] (dh (λv H=>∃e X',v= .int .i64 e∧H=[X']∧p e X'))):
 DT 25 #[(.pointer (some ⟨c,0,none⟩)),(.agg (ints (OpT.mk k ((i:Nat):Int) o.to' o.key o.n o.change o.mask o.torn o.cut).flat).toArray)] T0 [X] (dh (λv H=>∃e X',v= .int .i64 e∧H=[X']∧p e X')):=by
 refine BD 114 Tryz.func25 rfl rfl rfl λw0 F hF=>sr λ_ J1=>XY (ints (OpT.mk k ((i:Nat):Int) o.to' o.key o.n o.change o.mask o.torn o.cut).flat) λb3=>?_
 refine PS ?_;refine nx J1 (ab λ_ J2=>sr λ_ J3=>PS ?_);refine FA 1 fk aR ?_;refine LT 0 Y3 (.int .i64 (((i:Nat):Int))) ?_ (hc:=by exact bO _ rfl);refine CE qa (dS c i hi) ID ?_;refine PS ?_;refine nx J3 (CN (qx J2 (ab λ_ J4=>sr λ_ J5=>FA 0 fk aR ?_)));refine LT 0 Y3 (.int .i64 (k)) ?_ (hc:=by exact cI _ rfl);refine nx J5 (au (ab λ_ J6=>sr λ_ J7=>P2 ?_));refine ao ?_ ?_<;>intro h12
 · exact absurd h12 (by omega)
 refine nx J7 (CN (sr λ_ J8=>P2 ?_));refine ao ?_ ?_<;>intro h12
 · exact absurd h12 (by omega)
 refine nx J8 (CN (sr λ_ J9=>P2 ?_));refine ao ?_ ?_<;>intro h12
 · exact absurd h12 (by omega)
 refine nx J9 (CN (sr λ_ J10=>P2 ?_));refine ao ?_ ?_<;>intro h12
 · exact absurd h12 (by omega)
 refine nx J10 (CN (ad (PS ?_)));refine ao ?_ ?_<;>intro h17
 · exact absurd h17 (by omega)
 refine PS ?_;refine nx J6 (CN (ab λ_ J11=>e4 (α:=Unit) (λ_u=>True) (λ_u=>[(0,(.pointer (some ⟨c,0,none⟩))),(3,(.pointer (some ⟨b3,0,none⟩))),(4,(.int .i64 0)),(11,(.int .i64 (k))),(37,(.bool true))]) (λ_u=>[ah b3 (ints (OpT.mk k ((i:Nat):Int) o.to' o.key o.n o.change o.mask o.torn o.cut).flat) 63,X]) (λ_u hinv=>?_) (λtl11=>?_)));have _:=hinv;refine ac J11 (CY (sr λ_ J12=>PS ?_));refine LW 0 fk vf hY ?_;refine CR Pw (hw) (SM [1]) λvR HR hR=>?_
 obtain⟨e,X',rfl,rfl,hp⟩:=hR;refine PS ?_;exact nx J12 (ai (aH (ae (WK [0] (av rfl rfl ⟨e,X',rfl,rfl,hp⟩)))));refine sr λ_ J13=>P2 ?_
 refine ao ?_ ?_<;>intro h37;refine nx J13 (CY (aT ?_))
 exact aF
  SB
  (λ_ s=>ak [0,0] rfl s)
  (tl11 (():Unit) trivial)
 refine nx J13 (CN (sr λ_ J14=>P2 ?_));refine ao ?_ ?_<;>intro h37;refine nx J14 (CY (aT ?_))
 exact aF
  SB
  (λ_ s=>ak [0,0] rfl s)
  (tl11 (():Unit) trivial)
 refine nx J14 (CN (ad (PS ?_)));refine ao ?_ ?_<;>intro h40;refine PS ?_;refine aq ?_
 exact aF
  SB
  (λ_ s=>ak [0,0] rfl s)
  (tl11 (():Unit) trivial)
 · exact absurd h40 (by omega)
theorem C2(c i:Nat)(hi:i<5)(X:HP)(o:OpT)(k:Int)(hk:k<0∨11<k):
 DT 25 #[(.pointer (some ⟨c,0,none⟩)),(.agg (ints (OpT.mk k ((i:Nat):Int) o.to' o.key o.n o.change o.mask o.torn o.cut).flat).toArray)] T0 [X] (RI (.int .i64 5) [X]):=by
 refine BD 114 Tryz.func25 rfl rfl rfl λw0 F hF=>sr λ_ J1=>XY (ints (OpT.mk k ((i:Nat):Int) o.to' o.key o.n o.change o.mask o.torn o.cut).flat) λb3=>?_
 refine PS ?_;refine nx J1 (ab λ_ J2=>sr λ_ J3=>PS ?_);refine FA 1 fk aR ?_;refine LT 0 Y3 (.int .i64 (((i:Nat):Int))) ?_ (hc:=by exact bO _ rfl);refine CE qa (dS c i hi) ID ?_;refine PS ?_;refine nx J3 (CN (qx J2 (ab λ_ J4=>sr λ_ J5=>FA 0 fk aR ?_)));refine LT 0 Y3 (.int .i64 (k)) ?_ (hc:=by exact cI _ rfl);refine nx J5 (au (ab λ_ J6=>sr λ_ J7=>P2 ?_));refine ao ?_ ?_<;>intro h12
 · exact absurd h12 (by omega)
 refine nx J7 (CN (sr λ_ J8=>P2 ?_));refine ao ?_ ?_<;>intro h12
 · exact absurd h12 (by omega)
 refine nx J8 (CN (sr λ_ J9=>P2 ?_));refine ao ?_ ?_<;>intro h12
 · exact absurd h12 (by omega)
 refine nx J9 (CN (sr λ_ J10=>P2 ?_));refine ao ?_ ?_<;>intro h12
 · exact absurd h12 (by omega)
 refine nx J10 (CN (ad (PS ?_)));refine ao ?_ ?_<;>intro h17
 · exact absurd h17 (by omega)
 refine PS ?_;refine nx J6 (CN (ab λ_ J11=>sr λ_ J12=>P2 ?_));refine ao ?_ ?_<;>intro h37
 · exact absurd h37 (by omega)
 refine nx J12 (CN (sr λ_ J13=>P2 ?_));refine ao ?_ ?_<;>intro h37
 · exact absurd h37 (by omega)
 refine nx J13 (CN (ad (PS ?_)));refine ao ?_ ?_<;>intro h40
 · exact absurd h40 (by omega)
 refine PS ?_;refine nx J11 (CN (sr λ_ J14=>PS ?_));refine ao ?_ ?_<;>intro h45
 · exact absurd h45 (by omega)
 refine PS ?_;refine nx J14 (CN (sr λ_ J15=>PS ?_));refine ao ?_ ?_<;>intro h65
 · exact absurd h65 (by omega)
 refine PS ?_;refine nx J15 (CN (sr λ_ J16=>PS ?_));refine ao ?_ ?_<;>intro h77
 · exact absurd h77 (by omega)
 refine PS ?_;refine nx J16 (CN (sr λ_ J17=>PS ?_));refine ao ?_ ?_<;>intro h109
 · exact absurd h109 (by omega)
 refine PS ?_;refine nx J17 (CN (sr λ_ J18=>PS ?_));exact nx J18 (ai (aH (ae (WK [1] (av rfl rfl ⟨rfl,rfl⟩)))))
section
variable {n c:Nat} {a:CL} {o:OpT}
theorem Jw(h:CLOk n a)(hn:n≤100000)(ho:OkOp o):DT 25 #[.pointer (some ⟨c,0,none⟩), .agg (ints o.flat).toArray] T0 [gF c a] (dh λv H=>v= .int .i64 (zu a o).2∧H=[gF c (zu a o).1]):=by
 unfold zu
 by_cases hm:gM o.at'=false
 · rw[if_pos hm]
   exact E4 c (gF c a) o hm
 · rw[if_neg hm]
   have hm:gM o.at'=true:=by simpa using hm
   obtain⟨hi,hat⟩:=lL hm
   by_cases h1:0≤o.kind∧o.kind≤4
   · rw[if_pos h1];exact JE h hn hi hat.symm h1 ho
   rw[if_neg h1]
   by_cases h2:o.kind=5∨o.kind=6∨o.kind=7
   · rw[if_pos h2]
     have:=EU c _ hi (gF c a) o o.kind h2 (λe X=>e=(oC a o).2∧X=gF c (oC a o).1) (by
      rw[oR rfl hat.symm]
      exact lc (Gj h hn hi hat.symm h2) λv H hp=>⟨_,_,hp.1,hp.2,rfl,rfl⟩)
     rw[oR rfl hat.symm]at this
     exact lc this λv H hp=>by
      obtain⟨e,X,rfl,rfl,rfl,rfl⟩:=hp;exact⟨rfl,rfl⟩
   rw[if_neg h2]
   by_cases h3:o.kind=8
   · rw[if_pos h3];exact Ih h hi hat.symm h3
   rw[if_neg h3]
   by_cases h4:o.kind=9
   · rw[if_pos h4];exact JN h hi hat.symm h4
   rw[if_neg h4]
   by_cases h5:o.kind=10
   · rw[if_pos h5];exact Fb h hn hi hat.symm h5
   rw[if_neg h5]
   by_cases h6:o.kind=11
   · rw[if_pos h6];exact BK h hi hat.symm h6
   rw[if_neg h6];have:=C2 c _ hi (gF c a) o o.kind (by omega);rw[oR rfl hat.symm]at this;exact this
end
theorem wo(i:Nat):(cJ i .new).1≠none:=by
 obtain⟨D',e,_⟩:=LogD.new.open rfl rfl;unfold cJ;rw[e];simp[lE]
theorem uK{i:Nat}{s:MS LD}(h:(cJ i .new).1=some s):mu i=⟨some s,(bQ .new).D,[]⟩:=by
 show(gW i .nil).1=_;unfold gW;show Slot.mk (cJ i DS.new).1 _ _=_;rw[h];rfl
def dJ(i:Nat)(d:Nat→Nat):Nat→Value:=λj=>if j<i then .pointer (some ⟨d j,0,none⟩)else .pointer none
def IS:Nat→Value:=λ_=> .slice none 0 0
theorem JA(i:Nat)(d:Nat→Nat)(x:Nat):kZ (dJ i d) i (.pointer (some ⟨x,0,none⟩))=dJ (i+1) (kZ d i x):=funext λj=>by
 unfold dJ kZ
 by_cases hj:j=i
 · subst hj;simp
 · rw[if_neg hj,if_neg hj]
   show(if j<i then _ else _)=_
   by_cases h:j<i
   · rw[if_pos h,if_pos (by omega)]
   · rw[if_neg h,if_neg (by omega)]
theorem HL{n:Nat}{D M P D' M' P':Nat→Value}(h1: ∀i,i<5→D i=D' i)(h2: ∀i,i<5→M i=M' i)(h3: ∀i,i<5→P i=P' i):eL n D M P=eL n D' M' P':=by
 unfold eL;rw[eM (λi hi=>h1 i (dX.1 hi)),eM (λi hi=>h2 i (dX.1 hi)),eM (λi hi=>h3 i (dX.1 hi))]
theorem wS{f g:Nat→HP}{i:Nat}(hg: ∀j,j<i→g j=f j){H:List HP}{h:Hl}(s:bD (g i::bD ((List.range i).map f)::H) h):bD (bD ((List.range (i+1)).map g)::H) h:=by
 have e:(List.range (i+1)).map g=(List.range i).map f++[g i]:=by
  rw[cV,dB,eM (λj hj=>hg j (dX.1 hj))];rfl
 rw[e];obtain⟨h1,h2,d,rfl,a,b⟩:=s;have s2:bD ((g i::(List.range i).map f)++H) (jn h1 h2):=⟨h1,h2,d,rfl,a,(bZ _ _).2 b⟩;exact(bZ _ _).1 (eg ((List.perm_append_comm (l₁:=[g i])).append_right H) s2)
abbrev w6(d r:Nat→Nat)(j:Nat):HP:=lA (mu j) (d j) (r j) (.slice none 0 0)
theorem Je{d r:Nat→Nat}{i x y:Nat}{s:MS LD}(hs:(cJ i .new).1=some s){X Y:HP}{h:Hl}(q:bD [eW s x y,dk x s.e.D,X,Y,bD ((List.range i).map (w6 d r))] h):bD [X,Y,bD ((List.range (i+1)).map (w6 (kZ d i x) (kZ r i y)))] h:=by
 have q2:=fP 47 3 q
 have e:w6 (kZ d i x) (kZ r i y) i=bD [dk x s.e.D,kR (.slice none 0 0) [],eW s x y]:=by
  unfold w6 lA kn Slot.dk p3;rw[iW,iW,uK hs]
 have q4:=(bZ [dk x s.e.D,kR (.slice none 0 0) [],eW s x y] [bD ((List.range i).map (w6 d r)),X,Y]).1 (aB [2,0,0,2,0,0] rfl q2);have q5:=wS (i:=i) (f:=w6 d r) (g:=w6 (kZ d i x) (kZ r i y)) (H:=[X,Y]) (λj hj=>by unfold w6;rw[mL d x (show j≠i by omega),mL r y (show j≠i by omega)]) (by rw[e];exact q4);exact aB [1,1,0] rfl q5
theorem Jc(i:Nat)(hi:i<5):CL.new.at' i=mu i:=by simp[CL.new,CL.at',List.getD_eq_getElem?_getD,hi]
theorem Jd{c n:Nat}{d r:Nat→Nat}{h:Hl}(s:bD [ah c (eL n (dJ 5 d) (dJ 5 r) IS) 73,eG 135 184 5 n (List.replicate 25 []),bD ((List.range 5).map (w6 d r))] h):bD [gF c .new] h:=by
 have e1:eL n (mx ⟨n,d,r,IS⟩) (jT .new r) IS=eL n (dJ 5 d) (dJ 5 r) IS:=HL (λi hi=>by unfold dJ;rw[if_pos hi]) (λi hi=>by
  unfold dJ;rw[if_pos hi];show yp (CL.new.at' i) (r i)=_;rw[Jc i hi];cases hs:(cJ i .new).1 with
  |none=>exact absurd hs (wo i)
  |some s=>rw[uK hs];rfl) (λ_ _=>rfl)
 have e2:(List.range 5).map (λi=>lA (CL.new.at' i) (d i) (r i) (IS i))=(List.range 5).map (w6 d r):=eM λi hi=>by
  rw[Jc i (dX.1 hi)];rfl
 have e3:cY CL.new.W=List.replicate 25 []:=rfl;refine bn (p:=ra c .new) (H:=[]) ⟨n,d,r,IS⟩ ?_;unfold ra;rw[e1,e2,e3];exact s
theorem zh:
 DT 20 #[] T0 [] (dh (λv H=>∃c,v= .pointer (some ⟨c,0,none⟩)∧H=[gF c .new])):=by
 refine BD 33 Tryz.func20 rfl rfl rfl λw0 F hF=>sr λ_ J1=>PS ?_
 refine nx J1 (sr λ_ J2=>CR Py (Cn) ID λvR HR hR=>?_);obtain⟨n,rfl,rfl⟩:=hR;refine BV #[(.pointer (some ⟨n,0,none⟩)),(.pointer none),(.pointer none),(.pointer none),(.pointer none),(.pointer none),(.pointer none),(.pointer none),(.pointer none),(.pointer none),(.pointer none),(.slice none 0 0),(.slice none 0 0),(.slice none 0 0),(.slice none 0 0),(.slice none 0 0)] ?_;refine XB λb5=>?_
 refine PS ?_;refine nx J2 (ab λ_ J3=>sr λ_ J4=>PS ?_);refine nx J4 (au ?_)
 refine bu (α:=(Nat)×(Nat→Nat)×(Nat→Nat)) (λ⟨i,d,r⟩=>i≤5) (λ⟨i,d,r⟩=>[(0,(.pointer none)),(1,(.pointer (some ⟨b5,0,none⟩))),(6,(.int .i64 (((i:Nat):Int))))]) (λ⟨i,d,r⟩=>[ah b5 (eL n (dJ i d) (dJ i r) IS) 73,eG 135 184 5 n (List.replicate 25 []),bD ((List.range i).map (w6 d r))]) (λ⟨i,d,r⟩=>5-i) (0,λ_=>0,λ_=>0)
  (aN _) SB
  (λ_ s=>aB [1,1,0] rfl (pX s)) (λ⟨i,d,r⟩ hinv=>?_)
 obtain hi:=hinv;refine sr λ_ J5=>PS ?_
 refine ao ?_ ?_<;>intro h7;have hlt:i<5:=by omega
 refine nx J5 (ab λ_ J6=>CY (qx J6 (ab λ_ J7=>au (sr λ_ J8=>P2 ?_))));refine nx J8 (ab λ_ J9=>D0 df ?_);refine PD 0 ?_;refine PD 1 ?_;refine PD 3 ?_;refine FD 4 1 pI Ac ?_;refine AL 2 ?_;refine CR NJ (Jx) ID λvR HR hR=>?_
 obtain⟨dn,rfl,rfl⟩:=hR;refine EN (IY 5 (1+i) Lj ve ?_);refine AL 6 ?_;refine bw (i:=1) (aa rfl) rfl rfl rfl rfl rfl ve rfl rfl (by rw[rT];omega) (Lc n (dJ i d) (dJ i r) IS (.pointer (some ⟨dn,0,none⟩)) hlt) rfl (EN (DN (ac J9 (D0 df ?_))));refine PD 0 ?_;refine PD 1 ?_;refine PD 2 ?_;refine PD 3 ?_;refine PD 4 ?_;refine PD 5 ?_;refine FD 6 1 pI Ac ?_;refine IY 7 (1+i) Lj ve ?_;refine PD 13 ?_;refine FD 14 6 pI pp ?_;refine AL 8 ?_;refine LT 1 HT (.pointer (some ⟨dn,0,none⟩)) ?_ (hc:=by exact(Dc n (kZ (dJ i d) i (.pointer (some ⟨dn,0,none⟩))) (dJ i r) IS hlt).trans (congrArg some (iW (dJ i d) i _)));refine EN (AL 9 ?_);refine CR MN (pW i dn .new DkOk.new) ID λvR HR hR=>?_
 rcases hR with⟨hn,_⟩| ⟨s,rn,hs,rfl,rfl⟩
 · exact absurd hn (wo i)
 refine EN (PD 10 ?_);refine PD 11 ?_;refine PD 12 ?_;refine IY 15 (6+i) vq kc ?_;refine AL 16 ?_;refine bw (i:=2) (aa rfl) rfl rfl rfl rfl rfl kc rfl rfl (by rw[rT];omega) (vL n (kZ (dJ i d) i (.pointer (some ⟨dn,0,none⟩))) (dJ i r) IS (.pointer (some ⟨rn,0,none⟩)) hlt) rfl (EN (DN (ag (ac J7 (ad (AD ?_))))));refine PS ?_;refine aq ?_
 exact aJ ((i+1,kZ d i dn,kZ r i rn):(Nat)×(Nat→Nat)×(Nat→Nat)) (by omega) (by show 5- (i+1)<5-i;omega)
  SB
  (λ_ q=>by
   show bD [ah b5 (eL n (dJ (i+1) (kZ d i dn)) (dJ (i+1) (kZ r i rn)) IS) 73,_,_] _;rw[←JA,←JA]
   exact Je hs (aB [0,0,0,0,0] rfl q))
 refine nx J5 (ab λ_ J10=>CN (aY (aC (aC (bo (ac J3 (sr λ_ J11=>P2 ?_)))))));exact nx J11 (ai (aF (H':=[gF b5 .new]) (dd _) (λ_ s=>by have h5:i=5:=(by omega);subst h5;exact Jd s) (av rfl rfl ⟨b5,rfl,rfl⟩)))
theorem Cr(c n i:Nat)(D M P:Nat→Value)(hi:i<5)(hM:M i= .pointer none):
 DT 11 #[(.pointer (some ⟨c,0,none⟩)),(.int .i64 (((i:Nat):Int)))] T0 [ah c (eL n D M P) 73] (RI (.pointer none) [ah c (eL n D M P) 73]):=by
 refine BD 15 Tryz.func11 rfl rfl rfl λw0 F hF=>sr λ_ J1=>PS ?_
 refine nx J1 (ab λ_ J2=>sr λ_ J3=>P2 ?_);refine CE Ci (sz c n i D M P hi hM) ID ?_;refine PS ?_;refine nx J3 (CY (sr λ_ J4=>PS ?_));exact nx J4 (ai (ae (WK [0] (av rfl rfl ⟨rfl,rfl⟩))))
theorem Cq(c n i:Nat)(D M P:Nat→Value)(hi:i<5)(d r:Nat)(e:DS)(hD:D i= .pointer (some ⟨d,0,none⟩))(hM:M i= .pointer (some ⟨r,0,none⟩)):
 DT 11 #[(.pointer (some ⟨c,0,none⟩)),(.int .i64 (((i:Nat):Int)))] T0 [ah c (eL n D M P) 73,dk d e] (dh (λv H=>((e.dn=false∧v= .pointer (some ⟨r,0,none⟩))∨(e.dn=true∧v= .pointer none))∧H=[ah c (eL n D M P) 73,dk d e])):=by
 refine BD 15 Tryz.func11 rfl rfl rfl λw0 F hF=>sr λ_ J1=>PS ?_
 refine nx J1 (ab λ_ J2=>sr λ_ J3=>P2 ?_);refine CE Ci (sy c n i D M P hi d r e hD hM) ID ?_;refine bc ?_ ?_<;>intro h7;refine PS ?_;refine nx J3 (CN (qx J2 (sr λ_ J4=>P3 ?_)));refine FA 6 pI pp ?_;refine IX (6+i) vq kc ?_;refine LT 0 ut (.pointer (some ⟨r,0,none⟩)) ?_ (hc:=by exact(xL n D M P hi).trans (congrArg some hM));refine PS ?_;refine nx J4 (ai (WK [0,0] (av rfl rfl ?_)));exact⟨.inl ⟨(by simpa using h7),rfl⟩,rfl⟩;refine PS ?_;refine nx J3 (CY (sr λ_ J5=>PS ?_));refine nx J5 (ai (ae (WK [0,0] (av rfl rfl ?_))));exact⟨.inr ⟨(by simpa using h7),rfl⟩,rfl⟩
theorem E6(c n i:Nat)(D M P:Nat→Value)(hi:i<5)(d:Nat)(hD:D i= .pointer (some ⟨d,0,none⟩)):
 DT 54 #[(.pointer (some ⟨c,0,none⟩)),(.int .i64 (((i:Nat):Int)))] T0 [ah c (eL n D M P) 73] (RI (.pointer (some ⟨d,0,none⟩)) [ah c (eL n D M P) 73]):=by
 refine BD 15 Tryz.func54 rfl rfl rfl λw0 F hF=>sr λ_ J1=>PS ?_
 refine nx J1 (ab λ_ J2=>sr λ_ J3=>P2 ?_);refine CE qa (dS c i hi) ID ?_;refine PS ?_;refine nx J3 (CN (qx J2 (sr λ_ J4=>P3 ?_)));refine FA 1 pI Ac ?_;refine IX (1+i) Lj ve ?_;refine LT 0 HT (.pointer (some ⟨d,0,none⟩)) ?_ (hc:=by exact(Dc n D M P hi).trans (congrArg some hD));refine PS ?_;exact nx J4 (ai (WK [0] (av rfl rfl ⟨rfl,rfl⟩)))
abbrev Ai(c:Nat)(a:CL)(i:Nat)(g:CX):List HP:=ah c (eL g.n (mx g) (jT a g.r) g.p) 73::eG 135 184 5 g.n (cY a.W)::kn (a.at' i) (g.d i) (g.r i) (g.p i)
def br(c:Nat)(a:CL)(g:CX):HP:=bD (ra c a g)
theorem G1{α:Type}(A B C:List α):((A++B)++C).Perm ((A++C)++B):=by
 rw[aS,aS];exact List.Perm.append_left _ List.perm_append_comm
section
variable {f:FuncId} {args:Array Value} {c i:Nat} {a:CL} {g:CX}
theorem JC{h:Hl}(s:bD [gF c a] h): ∃g,bD [br c a g] h:=by
 obtain⟨g,s⟩:=fq s;exact⟨g,(bZ (ra c a g) []).1 s⟩
theorem HJ{H:List HP}{h:Hl}(s:bD (br c a g::H) h):bD (gF c a::H) h:=cB s (λ_ t=>⟨g,t⟩) λ_ t=>t
theorem GE(hi:i<5){h:Hl}(s:bD [br c a g] h):bD (Ai c a i g++[bD (((List.range 5).map λi=>lA (a.at' i) (g.d i) (g.r i) (g.p i)).eraseIdx i)]) h:=by
 have s0:bD (ra c a g++[]) h:=(bZ _ _).2 s;have s2:=tO (f:=λi=>lA (a.at' i) (g.d i) (g.r i) (g.p i)) hi (aB [2,0,0] rfl s0);have s3:=(bZ (kn (a.at' i) (g.d i) (g.r i) (g.p i)) _).2 s2;exact aB [4,4,0,0,0,0] rfl s3
theorem GD(hi:i<5){h:Hl}(s:bD (Ai c a i g++[bD (((List.range 5).map λi=>lA (a.at' i) (g.d i) (g.r i) (g.p i)).eraseIdx i)]) h):bD [br c a g] h:=by
 have s1:=aB [2,2,2,2,0,0] rfl s;have s2:=(bZ (kn (a.at' i) (g.d i) (g.r i) (g.p i)) _).1 s1;have s3:=tN (f:=λi=>lA (a.at' i) (g.d i) (g.r i) (g.p i)) (g:=λi=>lA (a.at' i) (g.d i) (g.r i) (g.p i)) hi (λ_ _=>rfl) s2;exact(bZ (ra c a g) []).1 (aB [1,1,0] rfl s3)
theorem AY{Q:Value→List HP→Prop}(hi:i<5)(core:DT f args T0 (Ai c a i g) (dh λv H=>∃X,Q v X∧H=Ai c a i g++X)):
 DT f args T0 [br c a g] (dh λv H=>∃X,Q v X∧H=br c a g::X):=by
 refine Leg.Does.withinR (B:=[bD (((List.range 5).map λi=>lA (a.at' i) (g.d i) (g.r i) (g.p i)).eraseIdx i)]) core (λ_ _ _ _=>trivial) (λh s=>GE hi s) λv H hp=>?_
 obtain⟨X,hQ,rfl⟩:=hp;refine⟨_,λh s=>?_,X,hQ,rfl⟩;have s1:=(bZ _ X).1 (eg (G1 (Ai c a i g) X [bD (((List.range 5).map λi=>lA (a.at' i) (g.d i) (g.r i) (g.p i)).eraseIdx i)]) s);exact(bZ [br c a g] X).2 (cB s1 (λh t=>GD hi t) λ_ t=>t)
theorem E7{Q:Value→Prop}(hi:i<5)(core:DT f args T0 (Ai c a i g) (dh λv H=>Q v∧H=Ai c a i g)):
 DT f args T0 [br c a g] (dh λv H=>Q v∧H=[br c a g]):=
 lc (AY (Q:=λv X=>Q v∧X=[]) hi (lc core λv H hp=>by
  obtain⟨h1,rfl⟩:=hp
  exact⟨[],⟨h1,rfl⟩,(aP _).symm⟩)) λv H hp=>by
  obtain⟨X,⟨h1,rfl⟩,rfl⟩:=hp;exact⟨h1,rfl⟩
theorem Kh{x:Slot}{s:MS LD}(h:x.run=some s):x.up= !s.e.D.dn:=by unfold Slot.up;rw[h]
theorem Ft{x:Slot}(h:x.run=none):x.up=false:=by unfold Slot.up;rw[h]
theorem tK{s:MS LD}(hs:(a.at' i).run=some s):Ai c a i g=[ah c (eL g.n (mx g) (jT a g.r) g.p) 73,eG 135 184 5 g.n (cY a.W),dk (g.d i) s.e.D,kR (g.p i) (a.at' i).past,eW s (g.d i) (g.r i)]:=by
 unfold Ai kn Slot.dk p3;rw[hs]
def FS(a:CL)(g:CX)(i:Nat):Value:=if(a.at' i).up then .pointer (some ⟨g.r i,0,none⟩)else .pointer none
theorem Ey(hi:i<5):DT 11 #[.pointer (some ⟨c,0,none⟩), .int .i64 ((i:Nat):Int)] T0 [br c a g] (dh λv H=>v=FS a g i∧H=[br c a g]):=by
 refine E7 (Q:=λv=>v=FS a g i) hi ?_;unfold FS;cases hr:(a.at' i).run with
 |none=>
  rw[Ft hr];refine Leg.Does.withinR (A:=[ah c (eL g.n (mx g) (jT a g.r) g.p) 73]) (B:=eG 135 184 5 g.n (cY a.W)::kn (a.at' i) (g.d i) (g.r i) (g.p i)) (Cr c g.n i (mx g) (jT a g.r) g.p hi (m4 hr)) (λ_ _ _ _=>trivial) (λh s=>s) λv H hp=>?_
  obtain⟨rfl,rfl⟩:=hp;exact⟨_,λh s=>s,rfl,rfl⟩
 |some s=>
  rw[Kh hr,tK hr];refine Leg.Does.withinR (B:=[eG 135 184 5 g.n (cY a.W),kR (g.p i) (a.at' i).past,eW s (g.d i) (g.r i)]) (Cq c g.n i (mx g) (jT a g.r) g.p hi (g.d i) (g.r i) s.e.D rfl (sW hr)) (λ_ _ _ _=>trivial) (λh s=>aB [0,1,0,0,0] rfl s) λv H hp=>?_
  obtain⟨hv,rfl⟩:=hp;refine⟨_,λh s=>aB [0,1,0,0,0] rfl s,?_,rfl⟩;rcases hv with⟨h1,rfl⟩| ⟨h1,rfl⟩<;>rw[h1]<;>rfl
theorem xI(hi:i<5):DT 54 #[.pointer (some ⟨c,0,none⟩), .int .i64 ((i:Nat):Int)] T0 [br c a g] (dh λv H=>v= .pointer (some ⟨g.d i,0,none⟩)∧H=[br c a g]):=by
 refine E7 (Q:=λv=>v= .pointer (some ⟨g.d i,0,none⟩)) hi ?_;refine Leg.Does.withinR (A:=[ah c (eL g.n (mx g) (jT a g.r) g.p) 73]) (B:=eG 135 184 5 g.n (cY a.W)::kn (a.at' i) (g.d i) (g.r i) (g.p i)) (E6 c g.n i (mx g) (jT a g.r) g.p hi (g.d i) rfl) (λ_ _ _ _=>trivial) (λh s=>s) λv H hp=>?_
 obtain⟨rfl,rfl⟩:=hp;exact⟨_,λh s=>s,rfl,rfl⟩
theorem rF{n:Nat}(h:CLOk n a)(hn:n≤100000)(hi:i<5):DT 15 #[.pointer (some ⟨c,0,none⟩), .int .i64 ((i:Nat):Int)] T0 [br c a g] (dh λv H=>∃u,u.oneCell'=true∧v=u∧H=[br c a g,kR u (a.at' i).reps]):=by
 refine lc (AY (Q:=λv X=>v.oneCell'=true∧X=[kR v (a.at' i).reps]) hi ?_) λv H hp=>by
  obtain⟨X,⟨h1,rfl⟩,rfl⟩:=hp;exact⟨v,h1,rfl,rfl⟩
 have hl:=(h.at' i hi).reps;unfold Slot.reps at hl ⊢;cases hr:(a.at' i).run with
 |none=>
  rw[hr]at hl;simp only[aP]at hl ⊢;refine Leg.Does.withinR (A:=[ah c (eL g.n (mx g) (jT a g.r) g.p) 73,kR (g.p i) (a.at' i).past]) (B:=[eG 135 184 5 g.n (cY a.W),dk (g.d i) (a.at' i).dk,p3 (a.at' i) (g.d i) (g.r i)]) (wN c g.n i (mx g) (jT a g.r) g.p hi (m4 hr) (a.at' i).past (by omega)) (λ_ _ _ _=>trivial) (λh s=>aB [0,2,0,0,0] rfl s) λv H hp=>?_
  obtain⟨u,hu,rfl,rfl⟩:=hp;exact⟨_,λh s=>aB [0,2,2,0,1,0] rfl s,[kR v (a.at' i).past],⟨hu,rfl⟩,rfl⟩
 |some s=>
  rw[hr]at hl;simp only[af]at hl;rw[tK hr];refine Leg.Does.withinR (B:=[eG 135 184 5 g.n (cY a.W),dk (g.d i) s.e.D]) (wM c g.n i (mx g) (jT a g.r) g.p hi (g.d i) (g.r i) s (sW hr) (a.at' i).past (by omega) (by omega)) (λ_ _ _ _=>trivial) (λh s=>aB [0,2,2,0,0] rfl s) λv H hp=>?_
  obtain⟨u,hu,rfl,rfl⟩:=hp;exact⟨_,λh s=>aB [0,3,3,0,0,0] rfl s,[kR v ((a.at' i).past++s.replies)],⟨hu,rfl⟩,rfl⟩
theorem Jg{s:MS LD}{Q:Value→Prop}(hi:i<5)(hs:(a.at' i).run=some s)(hf:DT f args T0 [eW s (g.d i) (g.r i)] (dh λv H=>Q v∧H=[eW s (g.d i) (g.r i)])):DT f args T0 [br c a g] (dh λv H=>Q v∧H=[br c a g]):=by
 refine E7 hi ?_;rw[tK hs];refine Leg.Does.withinR (B:=[ah c (eL g.n (mx g) (jT a g.r) g.p) 73,eG 135 184 5 g.n (cY a.W),dk (g.d i) s.e.D,kR (g.p i) (a.at' i).past]) hf (λ_ _ _ _=>trivial) (λh q=>aB [4,0,0,0,0] rfl q) λv H hp=>?_
 obtain⟨hQ,rfl⟩:=hp;exact⟨_,λh q=>aB [1,1,1,1,0] rfl q,hQ,rfl⟩
theorem wJ{s:MS LD}{d r:Nat}{v0:RepT→Value}(hf: ∀x,DT f args T0 [ah r (RepT.cells x) 87] (dh λv H=>v=v0 x∧H=[ah r (RepT.cells x) 87])){w:Value}(hv: ∀a,v0 (s.rep a)=w):DT f args T0 [eW s d r] (dh λv H=>v=w∧H=[eW s d r]):=
 Leg.Does.pack (B:=[]) λx=>Leg.Does.withinR (A:=[ah r (RepT.cells (s.rep x)) 87]) (B:=[FW x.lg d ((s.e.cnt:Nat):Int) s.e.used,kR x.rs s.replies,Fs x.vo s.vote]) (hf (s.rep x)) (λ_ _ _ _=>trivial) (λ_ q=>q) λv H hp=>by
  obtain⟨rfl,rfl⟩:=hp;exact⟨[eW s d r],λ_ q=>bn (p:=GJ s d r) (H:=[]) x q,hv x,rfl⟩
theorem oE(s:MS LD)(d r:Nat):DT 12 #[.pointer (some ⟨r,0,none⟩)] T0 [eW s d r] (dh λv H=>v= .agg (ints s.view.flat).toArray∧H=[eW s d r]):=wJ (λx=>Ef r x) λ_=>rfl
theorem G4(s:MS LD)(d r:Nat):DT 13 #[.pointer (some ⟨r,0,none⟩)] T0 [eW s d r] (dh λv H=>v= .agg (ints s.own.flat).toArray∧H=[eW s d r]):=wJ (λx=>GS r x) λ_=>rfl
theorem Hh(s:MS LD)(d r:Nat)(who:Int):DT 33 #[.pointer (some ⟨r,0,none⟩), .int .i64 who] T0 [eW s d r] (dh λv H=>v= .tuple #[.agg (ints (dp s.mirror who).flat).toArray, .bool (fc s.mirror who)]∧H=[eW s d r]):=wJ (λx=>wT r x who) λ_=>rfl
theorem xd(hi:i<5):DT 11 #[.pointer (some ⟨c,0,none⟩), .int .i64 ((i:Nat):Int)] T0 [br c a g] (dh λv H=>((a.at' i).up=false∧v= .pointer none∧H=[br c a g])∨∃s,(a.at' i).run=some s∧(a.at' i).up=true∧v= .pointer (some ⟨g.r i,0,none⟩)∧H=[br c a g]):=
 lc (Ey hi) λv H hp=>by
  obtain⟨rfl,rfl⟩:=hp;unfold FS;cases hu:(a.at' i).up with
  |false=>exact .inl ⟨rfl,rfl,rfl⟩
  |true=>
   cases hs:(a.at' i).run with
   |none=>rw[Ft hs]at hu;cases hu
   |some s=>exact .inr ⟨s,rfl,rfl,rfl,rfl⟩
end
theorem kI{D:DS}(hD:Whole D.s): ∀k,k≤2048→Wrote .new k (0,kJ D k)∧(kJ D k).ar=false∧(kJ D k).dn=false
 |0,_=>⟨Wrote.none DkOk.new.ok DkOk.new.inn,rfl,rfl⟩
 |k+1,hk=>by
  obtain⟨h,ha,hd⟩:=kI hD k (by omega);rw[kJ];split
  · exact⟨h.more (by omega),ha,hd⟩
  · have h1:0≤((k:Nat):Int)∧((k:Nat):Int)<2048:=by omega
    have h2:(iY D.s ((k:Nat):Int)).length≤64:=by rw[cw hD];exact aK _
    have w:=ri h1 h2 hd (.inl ha);have o:=Wrote.one h.1 h.2.1 h1 h2;rw[w]at o ⊢;exact⟨h.then rfl o,by show(Av _ _ _).ar=false;unfold Av;exact ha,rfl⟩
theorem BA{D:DS}(hD:Whole D.s):DkOk (nq D):=by
 obtain⟨h,_⟩:=kI hD 2048 (aK _);exact(DkOk.wrote DkOk.new h (aK _)).2
theorem DY{D:DS}(hD:Whole D.s)(k:Nat)(hk:k≤2048):(kJ D k).ws.length≤2048:=by
 obtain⟨⟨_,_,h⟩,_,hd⟩:=kI hD k hk;rcases h with⟨h,_⟩| ⟨_,h,_⟩
 · cases h
 · have:(DS.new).ws.length=0:=rfl
   have h:(kJ D k).ws.length≤(DS.new).ws.length+k:=h;omega
theorem Fm(i d:Nat)(D:DS)(hok:DkOk D):
 DT 55 #[(.int .i64 (((i:Nat):Int))),(.pointer (some ⟨d,0,none⟩))] T0 [dk d D] (dh (λv H=>((cJ i (nq D)).1=none∧v= .pointer none∧H=[dk d D])∨∃s r dn,(cJ i (nq D)).1=some s∧v= .pointer (some ⟨r,0,none⟩)∧H=[dk d D,eW s dn r])):=by
 refine BD 36 Tryz.func55 rfl rfl rfl λw0 F hF=>sr λ_ J1=>PS ?_
 refine nx J1 (sr λ_ J2=>CR NJ (Jx) ID λvR HR hR=>?_);obtain⟨dn,rfl,rfl⟩:=hR;refine PS ?_;refine nx J2 (ab λ_ J3=>sr λ_ J4=>PS ?_);refine nx J4 (au ?_)
 refine bu (α:=(Nat)) (λk=>k≤2048) (λk=>[(0,(.int .i64 (((i:Nat):Int)))),(1,(.pointer (some ⟨d,0,none⟩))),(4,(.pointer none)),(5,(.pointer (some ⟨dn,0,none⟩))),(11,(.int .i64 (((k:Nat):Int))))]) (λk=>[dk d D,dk dn (kJ D k)]) (λk=>2048-k) 0
  (aN _) SB
  (λ_ s=>aB [1,0] rfl s) (λk hinv=>?_)
 obtain hk:=hinv;refine sr λ_ J5=>PS ?_
 refine ao ?_ ?_<;>intro h12;refine nx J5 (ab λ_ J6=>CY (qx J6 (ab λ_ J7=>au (sr λ_ J8=>P2 ?_))));refine nx J8 (sr λ_ J9=>P2 ?_);refine CE Pj (KU d D ((k:Nat):Int) hok.ok) ID ?_;refine XA z173 λb7=>?_
 refine bP (vs:=dG (iY D.s ((k:Nat):Int))) (i:=0) (aa rfl) rfl rfl rfl rfl rfl (by rw[aX,cw hok.ok.s];exact jA) (eU _) rfl rfl (by rw[aX,cw hok.ok.s];exact aK _) (gd (by rw[aX,cw hok.ok.s];rfl)) rfl (nx J9 (sr λ_ J10=>tp (aM (vs:=dG (iY D.s ((k:Nat):Int))) rfl py rfl jA rfl (RO 0) (by rw[aX];exact cw hok.ok.s _) (by rw[aV,az (by rw[aX,cw hok.ok.s];exact aK _)])) ?_));refine BV ((dG zs).toArray) ?_;refine tp (PV.neqB (a:=(iY D.s ((k:Nat):Int))) (b:=zs) (m:=2) Lw Lv rfl Lx Lz Ly (cw hok.ok.s _) (by simp[zs]) rfl rfl rfl) ?_;refine ao ?_ ?_<;>intro h19;refine nx J10 (CY (ad (P2 ?_)));refine tp (lT rfl py jF rfl) ?_;refine CF MB (xH dn (kJ D k) ((k:Nat):Int) (.slice (some ⟨b7,0,none⟩) (64) (64)) ((iY D.s ((k:Nat):Int))) (kI hok.ok.s k (by omega)).1.1 (by have:=DY hok.ok.s k (by omega);omega)) (SM [2]) (λg d s=>Gc (Cy 0 64 (cw hok.ok.s _) (by decide) rfl rfl g d s)) ?_;refine aq (ag (ac J7 (ad (AD ?_))));refine PS ?_;refine aq ?_
 exact aJ ((k+1):(Nat)) (by omega) (by show 2048- (k+1)<2048-k;omega)
  SB
  (λ_ s=>by rw[kJ,if_neg h19];exact ak [2,0] rfl s)
 refine nx J10 (CN (aT (ag (ac J7 (ad (AD ?_))))));refine PS ?_;refine aq ?_
 exact aJ ((k+1):(Nat)) (by omega) (by show 2048- (k+1)<2048-k;omega)
  SB
  (λ_ s=>by rw[kJ,if_pos (Decidable.not_not.1 h19)];exact ak [1,1] rfl s)
 refine nx J5 (ab λ_ J11=>CN (aY (aC (aC (bo (ac J3 (sr λ_ J12=>?_)))))));obtain rfl:k=2048:=by omega
 refine PS ?_;refine CE MA (AW dn (kJ D 2048) (kI hok.ok.s 2048 (by omega)).1.1) (SM [1]) ?_;refine nx J12 (sr λ_ J13=>P2 ?_);refine CR MN (pW i dn (nq D) (BA hok.ok.s)) ID λvR HR hR=>?_
 rcases hR with⟨hn,h0,rfl,rfl⟩| ⟨s,r,hn,rfl,rfl⟩
 refine P4 ?_;refine PS ?_;refine nx J13 (ab λ_ J14=>sr λ_ J15=>P2 ?_);refine ao ?_ ?_<;>intro h34;refine nx J15 (CY (sr λ_ J16=>PS ?_));exact nx J16 (ai (ae (WK [1] (av rfl rfl (.inl ⟨hn,rfl,rfl⟩)))))
 · exact absurd h34 (by simpa using h0)
 refine P4 ?_;refine PS ?_;refine nx J13 (ab λ_ J17=>sr λ_ J18=>P2 ?_);refine nx J18 (CN (qx J17 (sr λ_ J19=>P2 ?_)));exact nx J19 (ai (WK [2,0] (av rfl rfl (.inr ⟨s,r,dn,hn,rfl,rfl⟩))))
def O6(a:CL)(i:Nat)(d r:Nat):HP:=match M7 a i with
 |some s=>eW s d r
 |none=>λ_=>True
abbrev vp(a:CL)(d r:Nat→Nat)(j:Nat):HP:=O6 a j (d j) (r j)
def nM(a:CL)(d r:Nat→Nat):HP:=bD ((List.range 5).map (vp a d r))
def sH(a:CL)(g:CX)(r:Nat→Nat)(i:Nat):Nat:=if(a.at' i).up then g.r i else r i
def lC(a:CL)(g:CX)(r:Nat→Nat)(i:Nat):Value:=match iZ a i with
 |some _=> .pointer (some ⟨sH a g r i,0,none⟩)
 |none=> .pointer none
def kU(a:CL)(g:CX)(r:Nat→Nat)(i:Nat):List Value:=(List.range 5).map λj=>if j<i then lC a g r j else .pointer none
section
variable {a:CL} {g:CX} {r d:Nat→Nat} {i x y:Nat}
theorem jf:(kU a g r i).length=5:=by simp[kU]
theorem Jf: ∀u∈kU a g r i,u.oneCell'=true:=λu hu=>by
 unfold kU at hu;obtain⟨j,_,rfl⟩:=eS.1 hu;unfold lC
 repeat' split
 all_goals rfl
theorem xf{v:Value}(hi:i<5){r':Nat→Nat}(hr: ∀j,j<i→lC a g r' j=lC a g r j)(hv:v=lC a g r' i):(kU a g r i).set i v=kU a g r' (i+1):=by
 refine List.ext_getElem? λj=>?_
 unfold kU
 by_cases hj:j=i
 · subst hj
   rw[List.getElem?_set_self (by simp;omega),List.getElem?_map,List.getElem?_range hi];simp[hv]
 · rw[List.getElem?_set_ne (λe=>hj e.symm),List.getElem?_map,List.getElem?_map]
   by_cases h5:j<5
   · rw[List.getElem?_range h5]
     simp only[Option.map_some]
     by_cases h:j<i
     · rw[if_pos h,if_pos (by omega),hr j h]
     · rw[if_neg h,if_neg (by omega)]
   · rw[List.getElem?_eq_none (by rw[jo];omega)];rfl
theorem FU{v:Value}(hi:i<5):((kU a g r i).set i v)[i]?=some v:=List.getElem?_set_self (by rw[jf];exact hi)
theorem Cs{j:Nat}(hj:j<5):(kU a g r 5)[j]?=some (lC a g r j):=by
 unfold kU;rw[List.getElem?_map,List.getElem?_range hj];simp[hj]
theorem IA{s:MS LD}(hu:(a.at' i).up=true)(hs:(a.at' i).run=some s):iZ a i=some s:=by unfold iZ;rw[if_pos hu];exact hs
theorem wF(hu:(a.at' i).up=false):iZ a i=(cJ i (nq (a.at' i).dk)).1:=by unfold iZ;rw[if_neg (by rw[hu];decide)]
theorem Fo(hu:(a.at' i).up=false):M7 a i=(cJ i (nq (a.at' i).dk)).1:=by unfold M7;rw[if_neg (by rw[hu];decide)]
theorem la{s:MS LD}(hs:iZ a i=some s):lC a g r i= .pointer (some ⟨sH a g r i,0,none⟩):=by unfold lC;rw[hs]
theorem rC(hs:iZ a i=none):lC a g r i= .pointer none:=by unfold lC;rw[hs]
theorem GC{j:Nat}(hj:j<i):lC a g (kZ r i y) j=lC a g r j:=by
 unfold lC sH;rw[mL r y (show j≠i by omega)]
theorem KN{s:MS LD}(hi:i<5)(hu:(a.at' i).up=true)(hs:(a.at' i).run=some s):(kU a g r i).set i (.pointer (some ⟨g.r i,0,none⟩))=kU a g r (i+1):=
 xf hi (λ_ _=>rfl) (by rw[la (IA hu hs)];unfold sH;rw[if_pos hu])
theorem Hk(hi:i<5)(hu:(a.at' i).up=false)(hn:(cJ i (nq (a.at' i).dk)).1=none):((kU a g r i).set i (.pointer none)).set i (.pointer none)=kU a g r (i+1):=by
 rw[e6];exact xf hi (λ_ _=>rfl) (by rw[rC ((wF hu).trans hn)])
theorem Hj{s:MS LD}(hi:i<5)(hu:(a.at' i).up=false)(hn:(cJ i (nq (a.at' i).dk)).1=some s):((kU a g r i).set i (.pointer none)).set i (.pointer (some ⟨y,0,none⟩))=kU a g (kZ r i y) (i+1):=by
 rw[e6];refine xf hi (λj hj=>GC hj) ?_;rw[la ((wF hu).trans hn)];unfold sH;rw[if_neg (by rw[hu];decide),iW]
theorem Do{H:List HP}{h:Hl}(hn:M7 a i=none)(s:bD (bD ((List.range i).map (vp a d r))::H) h):bD (bD ((List.range (i+1)).map (vp a d r))::H) h:=by
 refine wS (f:=vp a d r) (g:=vp a d r) (λ_ _=>rfl) ?_;have e:vp a d r i= λ_=>True:=by unfold vp O6;rw[hn]
 rw[e];exact pX s
theorem JP{s:MS LD}{H:List HP}{h:Hl}(hn:M7 a i=some s)(q:bD (eW s x y::bD ((List.range i).map (vp a d r))::H) h):bD (bD ((List.range (i+1)).map (vp a (kZ d i x) (kZ r i y)))::H) h:=by
 refine wS (f:=vp a d r) (g:=vp a (kZ d i x) (kZ r i y)) (λj hj=>by unfold vp;rw[mL d x (show j≠i by omega),mL r y (show j≠i by omega)]) ?_;have e:vp a (kZ d i x) (kZ r i y) i=eW s x y:=by unfold vp O6;rw[hn,iW,iW]
 rw[e];exact q
theorem vO{f:FuncId}{args:Nat→Array Value}{Q:Value→Prop}{c:Nat}{s:MS LD}(hi:i<5)(hs:iZ a i=some s)(hf: ∀d r,DT f (args r) T0 [eW s d r] (dh λv H=>Q v∧H=[eW s d r])):
 DT f (args (sH a g r i)) T0 [br c a g,nM a d r] (dh λv H=>Q v∧H=[br c a g,nM a d r]):=by
 cases hu:(a.at' i).up with
 |true=>
  have hr:(a.at' i).run=some s:=by unfold iZ at hs;rw[if_pos hu]at hs;exact hs
  unfold sH;rw[if_pos hu];refine Leg.Does.withinR (B:=[nM a d r]) (Jg hi hr (hf (g.d i) (g.r i))) (λ_ _ _ _=>trivial) (λh q=>q) λv H hp=>?_
  obtain⟨hQ,rfl⟩:=hp;exact⟨_,λ_ q=>q,hQ,rfl⟩
 |false=>
  have ha:M7 a i=some s:=by rw[Fo hu,←wF hu];exact hs
  unfold sH;rw[if_neg (by rw[hu];decide)];have e:vp a d r i=eW s (d i) (r i):=by unfold vp O6;rw[ha]
  refine Leg.Does.withinR (B:=[bD (((List.range 5).map (vp a d r)).eraseIdx i),br c a g]) (hf (d i) (r i)) (λ_ _ _ _=>trivial) (λh q=>?_) λv H hp=>?_
  · have q2:=tO (f:=vp a d r) hi (aB [1,0] rfl q)
    rw[e]at q2;exact q2
  · obtain⟨hQ,rfl⟩:=hp
    refine⟨[br c a g,nM a d r],λh q=>?_,hQ,rfl⟩;refine aB [1,0] rfl (tN (H:=[br c a g]) (f:=vp a d r) (g:=vp a d r) hi (λ_ _=>rfl) ?_);rw[e];exact q
end
theorem Dn(c i:Nat)(a:CL)(g:CX)(hi:i<5)(hok:DkOk (a.at' i).dk):DT 55 #[.int .i64 ((i:Nat):Int), .pointer (some ⟨g.d i,0,none⟩)] T0 [br c a g] (dh (λv H=>((cJ i (nq (a.at' i).dk)).1=none∧v= .pointer none∧H=[br c a g])∨∃s r dn,(cJ i (nq (a.at' i).dk)).1=some s∧v= .pointer (some ⟨r,0,none⟩)∧H=[br c a g,eW s dn r])):=by
 refine lc (AY (Q:=λv X=>((cJ i (nq (a.at' i).dk)).1=none∧v= .pointer none∧X=[])∨∃s r dn,(cJ i (nq (a.at' i).dk)).1=some s∧v= .pointer (some ⟨r,0,none⟩)∧X=[eW s dn r]) hi ?_) λv H hp=>?_
 · refine Leg.Does.withinR (B:=[ah c (eL g.n (mx g) (jT a g.r) g.p) 73,eG 135 184 5 g.n (cY a.W),kR (g.p i) (a.at' i).past,p3 (a.at' i) (g.d i) (g.r i)]) (Fm i (g.d i) (a.at' i).dk hok) (λ_ _ _ _=>trivial) (λh q=>aB [2,0,0,0,0] rfl q) λv H hp=>?_
   rcases hp with⟨hn,rfl,rfl⟩| ⟨s,r,dn,hn,rfl,rfl⟩
   · exact⟨_,λh q=>aB [1,1,0,0,0] rfl q,[], .inl ⟨hn,rfl,rfl⟩,(aP _).symm⟩
   · exact⟨_,λh q=>aB [2,2,0,1,1,0] rfl q,[eW s dn r], .inr ⟨s,r,dn,hn,rfl,rfl⟩,rfl⟩
 · obtain⟨X,hq,rfl⟩:=hp
   rcases hq with⟨hn,rfl,rfl⟩| ⟨s,r,dn,hn,rfl,rfl⟩
   · exact .inl ⟨hn,rfl,rfl⟩
   · exact .inr ⟨s,r,dn,hn,rfl,rfl⟩
theorem qd(c n:Nat)(a:CL)(g:CX)(h:CLOk n a):
 DT 32 #[(.pointer (some ⟨c,0,none⟩))] T0 [br c a g] (dh (λv H=>∃r d:Nat→Nat,v= .agg (kU a g r 5).toArray∧H=[br c a g,nM a d r])):=by
 refine BD 32 Tryz.func32 rfl rfl rfl λw0 F hF=>sr λ_ J1=>XA P8 λb2=>?_
 refine nx J1 (sr λ_ J2=>XA P8 λb3=>?_);refine nx J2 (ab λ_ J3=>sr λ_ J4=>PS ?_);refine nx J4 (au ?_)
 refine bu (α:=(Nat)×(Nat→Nat)×(Nat→Nat)) (λ⟨i,d,r⟩=>i≤5) (λ⟨i,d,r⟩=>[(0,(.pointer (some ⟨c,0,none⟩))),(2,(.pointer (some ⟨b2,0,none⟩))),(3,(.pointer (some ⟨b3,0,none⟩))),(5,(.int .i64 (((i:Nat):Int))))]) (λ⟨i,d,r⟩=>[br c a g,ah b3 (kU a g r i) 70,bD ((List.range i).map (vp a d r)),ah b2 [(.pointer none),(.pointer none),(.pointer none),(.pointer none),(.pointer none)] 70]) (λ⟨i,d,r⟩=>5-i) (0,λ_=>0,λ_=>0)
  (aN _) SB
  (λ_ q=>aB [1,1,0,0] rfl (pX (ak [2,0,0] rfl q))) (λ⟨i,d,r⟩ hinv=>?_)
 obtain hi:=hinv;refine sr λ_ J5=>PS ?_
 refine ao ?_ ?_<;>intro h6;refine nx J5 (ab λ_ J6=>CY (qx J6 (ab λ_ J7=>au (sr λ_ J8=>P2 ?_))));refine nx J8 (sr λ_ J9=>P3 ?_);refine CR Ou (xd (i:=i) (by omega)) ID λvR HR hR=>?_
 rcases hR with⟨hup,rfl,rfl⟩| ⟨s,hrun,hup,rfl,rfl⟩
 refine IX i vq kc ?_;refine bw (i:=1) (aa rfl) rfl rfl rfl rfl rfl kc rfl rfl (by simp only[cy,jf];omega) rfl rfl (nx J9 (sr λ_ J10=>PS ?_));refine IX i vq kc ?_;refine LT 1 ut (.pointer none) ?_ (hc:=by exact FU (by omega));refine tp (sa rfl ut rfl rfl) ?_;refine P3 ?_;refine CE NF (xI (i:=i) (by omega)) ID ?_;refine tq (jm rfl HT rfl rfl) ?_;refine PS ?_;refine nx J10 (CY (ad (P4 ?_)));refine CE NF (xI (i:=i) (by omega)) ID ?_;refine CR Pt (Dn c i a g (by omega) (h.at' i (by omega)).dk) ID λvR HR hR=>?_
 rcases hR with⟨hn,rfl,rfl⟩| ⟨s,rn,dn,hn,rfl,rfl⟩
 refine IX i vq kc ?_;refine bw (i:=1) (aa rfl) rfl rfl rfl rfl rfl kc rfl rfl (by simp only[cy,jf];omega) rfl rfl (aq (ag (ac J7 (ad (AD ?_)))));refine PS ?_;refine aq ?_
 exact aJ ((i+1,d,r):(Nat)×(Nat→Nat)×(Nat→Nat)) (by omega) (by show 5- (i+1)<5-i;omega)
  SB
  (λ_ q=>by show bD [br c a g,ah b3 (kU a g r (i+1)) 70,bD ((List.range (i+1)).map (vp a d r)),ah b2 [(.pointer none),(.pointer none),(.pointer none),(.pointer none),(.pointer none)] 70] _;rw[←Hk (by omega) hup hn];exact aB [1,1,0,0] rfl (Do ((Fo hup).trans hn) (ak [2,0,0,0] rfl q)))
 refine IX i vq kc ?_;refine bw (i:=2) (aa rfl) rfl rfl rfl rfl rfl kc rfl rfl (by simp only[cy,jf];omega) rfl rfl (aq (ag (ac J7 (ad (AD ?_)))));refine PS ?_;refine aq ?_
 exact aJ ((i+1,kZ d i dn,kZ r i rn):(Nat)×(Nat→Nat)×(Nat→Nat)) (by omega) (by show 5- (i+1)<5-i;omega)
  SB
  (λ_ q=>by show bD [br c a g,ah b3 (kU a g (kZ r i rn) (i+1)) 70,bD ((List.range (i+1)).map (vp a (kZ d i dn) (kZ r i rn))),ah b2 [(.pointer none),(.pointer none),(.pointer none),(.pointer none),(.pointer none)] 70] _;rw[←Hj (by omega) hup hn];exact aB [1,1,0,0] rfl (JP ((Fo hup).trans hn) (ak [1,2,0,0,0] rfl q)))
 refine IX i vq kc ?_;refine bw (i:=1) (aa rfl) rfl rfl rfl rfl rfl kc rfl rfl (by simp only[cy,jf];omega) rfl rfl (nx J9 (sr λ_ J11=>PS ?_));refine IX i vq kc ?_;refine LT 1 ut (.pointer (some ⟨(g.r i),0,none⟩)) ?_ (hc:=by exact FU (by omega));refine tp (iT rfl ut rfl rfl) ?_;refine PS ?_
 iterate 4 refine UF ?_
 refine PS ?_;refine nx J11 (CN (aT (ag (ac J7 (ad (AD ?_))))));refine PS ?_;refine aq ?_
 exact aJ ((i+1,d,r):(Nat)×(Nat→Nat)×(Nat→Nat)) (by omega) (by show 5- (i+1)<5-i;omega)
  SB
  (λ_ q=>by show bD [br c a g,ah b3 (kU a g r (i+1)) 70,bD ((List.range (i+1)).map (vp a d r)),ah b2 [(.pointer none),(.pointer none),(.pointer none),(.pointer none),(.pointer none)] 70] _;rw[←KN (by omega) hup hrun];exact aB [1,1,0,0] rfl (Do (by unfold M7;rw[if_pos hup]) (ak [2,0,0,0] rfl q)))
 refine nx J5 (ab λ_ J12=>CN (aY (aC (aC (bo (ac J3 (sr λ_ J13=>?_)))))));obtain rfl:i=5:=by omega
 refine tp (aM (vs:=kU a g r 5) rfl vq rfl pp rfl (RO 1) jf (by rw[aV,az (cQ jf)])) ?_;exact bP (vs:=kU a g r 5) (i:=3) (aa rfl) rfl rfl rfl rfl rfl (by rw[jf];exact pp) Jf rfl rfl (by rw[jf];exact aK _) (gd (Eq.trans (rfl:_=5) (by rw[jf]:(kU a g r 5).length=5).symm)) rfl (nx J13 (ai (yD (H':=[br c a g,bD ((List.range 5).map (vp a d r))]) rfl rfl vq rfl pp (RO 3) (by rw[jf]) (λ_ s=>ak [0,1] rfl s) ⟨r,d,rfl,rfl⟩)))
section
variable {P:Program} {n:Nat} {D:List Deferred} {L:List (Nat×Value)} {S:World→Prop} {o:Oper} {t t':TypeId} {x y:Operand} {a:CL} {g:CX} {r:Nat→Nat} {j:Nat}
theorem PV.seenNil(ho:o.op= .binOp .eql t x y t')(hu:P.underlying t=some (.pointer (P.pointee t)))(hx:cA L x=some (lC a g r j))(hy:cA L y=some (.pointer none)):PV P n D L S o (.bool (!(iZ a j).isSome)):=by
 cases hs:iZ a j with
 |none=>rw[rC hs]at hx;exact sa ho hu hx hy
 |some s=>rw[la hs]at hx;exact iT ho hu hx hy
theorem PV.seenNot(ho:o.op= .binOp .neq t x y t')(hu:P.underlying t=some (.pointer (P.pointee t)))(hx:cA L x=some (lC a g r j))(hy:cA L y=some (.pointer none)):PV P n D L S o (.bool (iZ a j).isSome):=by
 cases hs:iZ a j with
 |none=>rw[rC hs]at hx;exact iU ho hu hx hy
 |some s=>rw[la hs]at hx;exact jm ho hu hx hy
end
theorem wE{n:Nat}{a:CL}(h:CLOk n a){j:Nat}(hj:j<5){s:MS LD}(hs:iZ a j=some s):OkR KD s:=by
 unfold iZ at hs;split at hs
 · exact((h.at' j hj).run s hs).1
 · exact(tI hj (BA (h.at' j hj).dk.ok.s) hs).1
theorem Oz{s:MS LD}(h:OkR KD s)(w:Int):WF (dp s.mirror w).flat:=by
 unfold dp;split
 · exact(h.mir _ _).wf
 · exact JT OkRow.zero
theorem Qd:(Tryz.prog.info? 85).map (·.zero)=some (some (.agg (ints BookT.zero.flat).toArray)):=by kernel_rfl
theorem uy(c n:Nat)(a:CL)(g:CX)(h:CLOk n a):
 DT 16 #[(.pointer (some ⟨c,0,none⟩))] T0 [br c a g] (dh (λv H=>∃(b:Nat) (d r:Nat→Nat),v= .pointer (some ⟨b,0,none⟩)∧H=[br c a g,nM a d r,ah b (ints (bh a).flat) 85])):=by
 refine BD 33 Tryz.func16 rfl rfl rfl λw0 F hF=>sr λ_ J1=>PS ?_
 refine nx J1 (sr λ_ J2=>XZ Qd (ints BookT.zero.flat) λb9=>?_);refine PS ?_;refine nx J2 (ab λ_ J3=>sr λ_ J4=>PS ?_);refine CR NK (qd c n a g h) (SM [1]) λvR HR hR=>?_
 obtain⟨r,d,rfl,rfl⟩:=hR;refine PS ?_;refine nx J4 (au ?_)
 refine bu (α:=(Nat)) (λj=>j≤5) (λj=>[(2,(.pointer none)),(3,(.pointer (some ⟨b9,0,none⟩))),(11,(.agg (kU a g r 5).toArray)),(12,(.int .i64 (((j:Nat):Int))))]) (λj=>[br c a g,nM a d r,ah b9 (ints (iG a j).flat) 85]) (λj=>5-j) 0
  (aN _) SB
  (λ_ q=>aB [0,0,0] rfl q) (λj hinv=>?_)
 obtain hj:=hinv;refine sr λ_ J5=>PS ?_
 refine ao ?_ ?_<;>intro h13;refine nx J5 (ab λ_ J6=>CY (qx J6 (ab λ_ J7=>au (sr λ_ J8=>tp (nB (cs:=kU a g r 5) (v:=(lC a g r j)) (r:=j) rfl vq ut rfl kc rfl rfl (by omega) (by omega) (by omega) (Cs (by omega))) ?_))));refine PS ?_;refine nx J8 (ab λ_ J9=>sr λ_ J10=>PS ?_);refine tp (PV.seenNil rfl ut rfl rfl) ?_;refine bc ?_ ?_<;>intro h16;refine nx J10 (CY (aY (aC (bo (ac J7 (ad (AD ?_)))))));refine PS ?_;refine aq ?_
 exact aJ ((j+1):(Nat)) (by omega) (by show 5- (j+1)<5-j;omega)
  SB
  (λ_ q=>by show bD [br c a g,nM a d r,ah b9 (ints (iG a (j+1)).flat) 85] _;rw[zY (by simpa using h16)];exact q)
 obtain⟨s,hs⟩:=Option.isSome_iff_exists.1 (by simpa using h16);have hsk:=wE h (by omega) hs;rw[la hs];refine nx J10 (CN (qx J9 (sr λ_ J11=>PS ?_)));refine nx J11 (au ?_)
 refine bu (α:=(Nat)) (λi=>i≤5) (λi=>[(2,(.pointer none)),(3,(.pointer (some ⟨b9,0,none⟩))),(5,(.pointer (some ⟨(sH a g r j),0,none⟩))),(11,(.agg (kU a g r 5).toArray)),(12,(.int .i64 (((j:Nat):Int)))),(17,(.int .i64 (((i:Nat):Int))))]) (λi=>[br c a g,nM a d r,ah b9 (ints (sV s (iG a j) i).flat) 85]) (λi=>5-i) 0
  (aN _) SB
  (λ_ s=>s) (λi hinv=>?_)
 obtain hi:=hinv;refine sr λ_ J12=>PS ?_
 refine ao ?_ ?_<;>intro h18;refine nx J12 (ab λ_ J13=>CY (qx J13 (ab λ_ J14=>au (sr λ_ J15=>P2 ?_))));refine nx J15 (sr λ_ J16=>P2 ?_);refine CE PE (vO (i:=j) (args:=λr=>#[.pointer (some ⟨r,0,none⟩), .int .i64 ((i:Nat):Int)]) (Q:=λv=>v= .tuple #[.agg (ints (dp s.mirror ((i:Nat):Int)).flat).toArray, .bool (fc s.mirror ((i:Nat):Int))]) (by omega) hs (λd r=>Hh s d r ((i:Nat):Int))) ID ?_;refine P3 ?_;refine XZ uu (ints RowT.zero.flat) λb7=>?_
 refine SW 0 ba aj ?_;refine PS ?_;refine nx J16 (ad (P2 ?_));refine LW 0 dU ba aj ?_;refine CE KI (kV b9 0 85 (λx=>ints x.flat) Arnd.whole (sV s (iG a j) i) ((i:Nat):Int) (dp s.mirror ((i:Nat):Int)) (Oz hsk _)) (SM [3]) ?_;refine aq (ag (ac J14 (ad (AD ?_))));refine PS ?_;refine aq ?_
 exact aJ ((i+1):(Nat)) (by omega) (by show 5- (i+1)<5-i;omega)
  SB
  (λ_ q=>ak [2,2,0] rfl q)
 refine nx J12 (ab λ_ J17=>CN (aY (aC (aC (bo (ag (ac J7 (ad (AD ?_)))))))));refine PS ?_;refine aq ?_
 exact aJ ((j+1):(Nat)) (by omega) (by show 5- (j+1)<5-j;omega)
  SB
  (λ_ q=>by show bD [br c a g,nM a d r,ah b9 (ints (iG a (j+1)).flat) 85] _;rw[zX hs,show 5=i by omega];exact q)
 refine nx J5 (ab λ_ J18=>CN (aY (aC (aC (bo (ac J3 (sr λ_ J19=>P2 ?_)))))));exact nx J19 (ai (aF (H':=[br c a g,nM a d r,ah b9 (ints (bh a).flat) 85]) (dd _) (λ_ q=>by rw[show j=5 by omega]at q;exact q) (av rfl rfl ⟨b9,d,r,rfl,rfl⟩)))
theorem EG(c n:Nat)(a:CL)(g:CX)(h:CLOk n a):
 DT 37 #[(.pointer (some ⟨c,0,none⟩))] T0 [br c a g] (dh (λv H=>∃d r:Nat→Nat,v= .agg (ints (fI a).flat).toArray∧H=[br c a g,nM a d r])):=by
 refine BD 31 Tryz.func37 rfl rfl rfl λw0 F hF=>sr λ_ J1=>XZ se (ints ViewT.zero.flat) λb2=>?_
 refine nx J1 (sr λ_ J2=>CE NE (xz) ID ?_);refine XZ se (ints ViewT.zero.flat) λb3=>?_
 refine SW 0 bf am ?_;refine PS ?_;refine nx J2 (ab λ_ J3=>sr λ_ J4=>PS ?_);refine CR NK (qd c n a g h) (SM [2]) λvR HR hR=>?_
 obtain⟨r,d,rfl,rfl⟩:=hR;refine PS ?_;refine nx J4 (au ?_)
 refine bu (α:=(Nat)) (λj=>j≤5) (λj=>[(2,(.pointer (some ⟨b2,0,none⟩))),(3,(.pointer (some ⟨b3,0,none⟩))),(4,(.bool ((fQ a j).2))),(9,(.agg (kU a g r 5).toArray)),(10,(.int .i64 (((j:Nat):Int))))]) (λj=>[br c a g,nM a d r,ah b3 (ints ((fQ a j).1).flat) 32,ah b2 (ints ViewT.zero.flat) 32]) (λj=>5-j) 0
  (aN _) SB
  (λ_ s=>s) (λj hinv=>?_)
 obtain hj:=hinv;refine sr λ_ J5=>PS ?_
 refine ao ?_ ?_<;>intro h11;refine nx J5 (ab λ_ J6=>CY (qx J6 (ab λ_ J7=>au (sr λ_ J8=>tp (nB (cs:=kU a g r 5) (v:=(lC a g r j)) (r:=j) rfl vq ut rfl kc rfl rfl (by omega) (by omega) (by omega) (Cs (by omega))) ?_))));refine PS ?_;refine nx J8 (ab λ_ J9=>D1 2 df ?_);refine PD 0 ?_;refine ta 1 rfl (PV.seenNot rfl ut rfl rfl) ?_;refine oq ?_ ?_<;>intro h14;obtain⟨s,hs⟩:=Option.isSome_iff_exists.1 h14;have hsk:=wE h (by omega) hs;rw[la hs];refine PD 2 ?_;refine PD 3 ?_;refine oq ?_ ?_<;>intro h16;refine PD 4 ?_;refine PD 5 ?_;refine PD 6 ?_;refine FD 9 0 eE aR ?_;refine LX 10 Y3 (.int .i64 (((fQ a j).1).epoch)) ?_ (hc:=by exact bb _ rfl);refine AL 7 ?_;refine CE KK (vO (i:=j) (args:=λr=>#[.pointer (some ⟨r,0,none⟩)]) (Q:=λv=>v= .agg (ints s.view.flat).toArray) (by omega) hs (λd r=>oE s d r)) ID ?_;refine EN (tb 8 rfl (Qc (cs:=ints s.view.flat) (v:=Value.int .i64 s.view.epoch) rfl eE rfl Y3 rfl rfl (bb s.view rfl)) ?_);refine PD 11 ?_;refine iR ?_ ?_<;>intro h24;refine PD 12 ?_;refine PD 13 ?_;refine DN (ac J9 (CY (ad (PS ?_))));refine CE KK (vO (i:=j) (args:=λr=>#[.pointer (some ⟨r,0,none⟩)]) (Q:=λv=>v= .agg (ints s.view.flat).toArray) (by omega) hs (λd r=>oE s d r)) ID ?_;refine SW 2 bf am ?_;refine PS ?_;refine aq (ag (ac J7 (ad (AD ?_))));refine PS ?_;refine aq ?_
 exact aJ ((j+1):(Nat)) (by omega) (by show 5- (j+1)<5-j;omega)
  (aL (aL (bJ rfl (by rw[kq hs,if_pos (.inr h24)]) SB)))
  (λ_ q=>by show bD [br c a g,nM a d r,ah b3 (ints (fQ a (j+1)).1.flat) 32,ah b2 (ints ViewT.zero.flat) 32] _;rw[kq hs,if_pos (.inr h24)];exact ak [0,0,0,0] rfl q)
 refine PD 12 ?_;refine PD 13 ?_;refine DN (ac J9 (CN (aT (ag (ac J7 (ad (AD ?_)))))));refine PS ?_;refine aq ?_
 exact aJ ((j+1):(Nat)) (by omega) (by show 5- (j+1)<5-j;omega)
  (aL (aL (bJ rfl (by rw[uR hs (by simpa using h16) h24]) SB)))
  (λ_ q=>by show bD [br c a g,nM a d r,ah b3 (ints (fQ a (j+1)).1.flat) 32,ah b2 (ints ViewT.zero.flat) 32] _;rw[uR hs (by simpa using h16) h24];exact ak [0,0,0,0] rfl q)
 refine PD 4 ?_;refine PD 5 ?_;refine NT 6 ?_;refine NT 7 ?_;refine NT 8 ?_;refine NT 9 ?_;refine NT 10 ?_;refine NT 11 ?_;refine PD 12 ?_;refine PD 13 ?_;refine DN (ac J9 (CY (ad (PS ?_))));refine CE KK (vO (i:=j) (args:=λr=>#[.pointer (some ⟨r,0,none⟩)]) (Q:=λv=>v= .agg (ints s.view.flat).toArray) (by omega) hs (λd r=>oE s d r)) ID ?_;refine SW 2 bf am ?_;refine PS ?_;refine aq (ag (ac J7 (ad (AD ?_))));refine PS ?_;refine aq ?_
 exact aJ ((j+1):(Nat)) (by omega) (by show 5- (j+1)<5-j;omega)
  (aL (aL (bJ rfl (by rw[kq hs,if_pos (.inl (by simpa using h16))]) SB)))
  (λ_ q=>by show bD [br c a g,nM a d r,ah b3 (ints (fQ a (j+1)).1.flat) 32,ah b2 (ints ViewT.zero.flat) 32] _;rw[kq hs,if_pos (.inl (by simpa using h16))];exact ak [0,0,0,0] rfl q)
 refine PD 2 ?_;refine NT 3 ?_;refine NT 4 ?_;refine NT 5 ?_;refine va (i:=6) (b:=false) rfl (by kernel_rfl) (by kernel_rfl) (by kernel_rfl) (λ_ _ _ _ h=>h) rfl rfl rfl rfl rfl (va (i:=7) (b:=false) rfl (by kernel_rfl) (by kernel_rfl) (by kernel_rfl) (λ_ _ _ _ h=>h) rfl rfl rfl rfl rfl (va (i:=8) (b:=false) rfl (by kernel_rfl) (by kernel_rfl) (by kernel_rfl) (λ_ _ _ _ h=>h) rfl rfl rfl rfl rfl (va (i:=9) (b:=false) rfl (by kernel_rfl) (by kernel_rfl) (by kernel_rfl) (λ_ _ _ _ h=>h) rfl rfl rfl rfl rfl (va (i:=10) (b:=false) rfl (by kernel_rfl) (by kernel_rfl) (by kernel_rfl) (λ_ _ _ _ h=>h) rfl rfl rfl rfl rfl (va (i:=11) (b:=false) rfl (by kernel_rfl) (by kernel_rfl) (by kernel_rfl) (λ_ _ _ _ h=>h) rfl rfl rfl rfl rfl (NT 12 ?_))))));refine PD 13 ?_;refine DN (ac J9 (CN (aT (ag (ac J7 (ad (AD ?_)))))));refine PS ?_;refine aq ?_
 exact aJ ((j+1):(Nat)) (by omega) (by show 5- (j+1)<5-j;omega)
  (aL (aL (bJ rfl (by rw[qf (by simpa using h14)]) SB)))
  (λ_ q=>by show bD [br c a g,nM a d r,ah b3 (ints (fQ a (j+1)).1.flat) 32,ah b2 (ints ViewT.zero.flat) 32] _;rw[qf (by simpa using h14)];exact ak [0,0,0,0] rfl q)
 refine nx J5 (ab λ_ J10=>CN (aY (aC (aC (bo (ac J3 (sr λ_ J11=>LW 2 eE bf am ?_)))))));refine SW 3 bf am ?_;refine nx J11 (ai (RC 3 [0,0] eE bf (am _) ?_));exact⟨d,r,by rw[show j=5 by omega];rfl,rfl⟩
def n7(v:ViewT)(k:Nat):List Int:=(List.range 5).map λj=>if j<k then tQ v j else 0
theorem lI(v:ViewT)(k:Nat):(ints (n7 v k)).length=5:=by simp[n7,ints]
theorem Cg{v:ViewT}{i:Nat}(hi:i<5):(ints (n7 v i)).set i (.int .i64 (tQ v i))=ints (n7 v (i+1)):=by
 refine List.ext_getElem? λj=>?_
 unfold n7 ints
 by_cases hj:j=i
 · subst hj
   rw[List.getElem?_set_self (by simp;omega),List.getElem?_map,List.getElem?_map,List.getElem?_range hi];simp
 · rw[List.getElem?_set_ne (λe=>hj e.symm),List.getElem?_map,List.getElem?_map,List.getElem?_map,List.getElem?_map]
   by_cases h5:j<5
   · rw[List.getElem?_range h5]
     simp only[Option.map_some]
     by_cases h:j<i
     · rw[if_pos h,if_pos (by omega)]
     · rw[if_neg h,if_neg (by omega)]
   · rw[List.getElem?_eq_none (by rw[jo];omega)];rfl
theorem IQ{v:ViewT}{j:Nat}(hj:j<5):(ints (n7 v 5))[j]?=some (.int .i64 (tQ v j)):=by
 unfold n7 ints;rw[List.getElem?_map,List.getElem?_map,List.getElem?_range hj];simp[hj]
theorem Hb{v:ViewT}{i:Nat}(hi:i<5)(h: ¬(jE v ((i:Nat):Int)).isSome=true):(ints (n7 v i)).set i (.int .i64 ((i:Nat):Int))=ints (n7 v (i+1)):=by
 rw[←Cg hi];unfold tQ;rw[show jE v ((i:Nat):Int)=none by simpa using h];rfl
theorem Ha{v:ViewT}{i:Nat}(hi:i<5)(h:(jE v ((i:Nat):Int)).isSome=true):((ints (n7 v i)).set i (.int .i64 ((i:Nat):Int))).set i (.int .i64 ((jE v ((i:Nat):Int)).getD 0))=ints (n7 v (i+1)):=by
 rw[←Cg hi,e6];unfold tQ;obtain⟨x,hx⟩:=Option.isSome_iff_exists.1 h;rw[hx];rfl
theorem Az(v:ViewT)(hh:Rng v):
 DT 36 #[(.agg (ints v.flat).toArray)] T0 [] (RI (.agg (ints (n7 v 5)).toArray) []):=by
 refine BD 25 Tryz.func36 rfl rfl rfl λw0 F hF=>sr λ_ J1=>XY (ints v.flat) λb1=>?_
 refine XZ Nl (ints (#v[0,0,0,0,0]).toList) λb2=>?_
 refine nx J1 (sr λ_ J2=>XZ Nl (ints (#v[0,0,0,0,0]).toList) λb3=>?_);refine nx J2 (ab λ_ J3=>sr λ_ J4=>PS ?_);refine nx J4 (au ?_)
 refine bu (α:=(Nat)) (λi=>i≤5) (λi=>[(1,(.pointer (some ⟨b1,0,none⟩))),(2,(.pointer (some ⟨b2,0,none⟩))),(3,(.pointer (some ⟨b3,0,none⟩))),(7,(.int .i64 (((i:Nat):Int))))]) (λi=>[ah b3 (ints (n7 v i)) 30,ah b1 (ints v.flat) 32,ah b2 (ints (#v[0,0,0,0,0]).toList) 30]) (λi=>5-i) 0
  (aN _) SB
  (λ_ s=>ak [0,1,0] rfl s) (λi hinv=>?_)
 obtain hi:=hinv;refine sr λ_ J5=>PS ?_
 refine ao ?_ ?_<;>intro h8;refine nx J5 (ab λ_ J6=>CY (qx J6 (ab λ_ J7=>au (sr λ_ J8=>P2 ?_))));refine nx J8 (sr λ_ J9=>P2 ?_);refine IX i jK aR ?_;refine bw (i:=0) (aa rfl) rfl rfl rfl rfl rfl aR rfl rfl (by simp only[cy,lI];omega) rfl rfl (nx J9 (sr λ_ J10=>LW 1 eE bf am ?_));refine PS ?_;refine CE KH (qM v ((i:Nat):Int) hh) ID ?_;refine P3 ?_;refine bc ?_ ?_<;>intro h18;refine P2 ?_;refine nx J10 (sr λ_ J11=>PS ?_);refine nx J11 (CY (ad (P2 ?_)));refine IX i jK aR ?_;refine bw (i:=0) (aa rfl) rfl rfl rfl rfl rfl aR rfl rfl (by simp only[cy,lI];omega) rfl rfl (aq (ag (ac J7 (ad (AD ?_)))));refine PS ?_;refine aq ?_
 exact aJ ((i+1):(Nat)) (by omega) (by show 5- (i+1)<5-i;omega)
  SB
  (λ_ q=>by show bD [ah b3 (ints (n7 v (i+1))) 30,ah b1 (ints v.flat) 32,ah b2 (ints (#v[0,0,0,0,0]).toList) 30] _;rw[←Ha (by omega) h18];exact ak [0,0,0] rfl q)
 refine P2 ?_;refine nx J10 (sr λ_ J12=>PS ?_);refine nx J12 (CN (aT (ag (ac J7 (ad (AD ?_))))));refine PS ?_;refine aq ?_
 exact aJ ((i+1):(Nat)) (by omega) (by show 5- (i+1)<5-i;omega)
  SB
  (λ_ q=>by show bD [ah b3 (ints (n7 v (i+1))) 30,ah b1 (ints v.flat) 32,ah b2 (ints (#v[0,0,0,0,0]).toList) 30] _;rw[←Hb (by omega) (by simpa using h18)];exact ak [0,0,0] rfl q)
 refine nx J5 (ab λ_ J13=>CN (aY (aC (aC (bo (ac J3 (sr λ_ J14=>?_)))))));obtain rfl:i=5:=by omega
 refine tp (aM (vs:=ints (n7 v 5)) rfl jK rfl eV rfl (RO 0) (lI _ _) (by rw[aV,az (cQ (lI _ _))])) ?_;exact bP (vs:=ints (n7 v 5)) (i:=2) (aa rfl) rfl rfl rfl rfl rfl (by rw[lI];exact eV) (bj _) rfl rfl (by rw[lI];exact aK _) (gd (by rw[lI];rfl)) rfl (nx J14 (ai (yD (H':=[]) rfl rfl jK rfl eV (RO 2) (by rw[lI _ _]) (λ_ s=>ak [] rfl s) ⟨rfl,rfl⟩)))
theorem Me{S:List Int}{o k:Nat}(ho:o=k)(h:k<S.length):(ints S)[o]?=some (.int .i64 (S.getD k 0)):=by
 subst ho;simp[ints,List.getD_eq_getElem?_getD,h]
theorem Jo{S:List Int}{o k:Nat}{x:Int}(ho:o=k):(ints S).set o (.int .i64 x)=ints (S.set k x):=by
 subst ho;simp[ints,yO]
theorem JI{B:BookT}{key:Int}{i o:Nat}(k:Nat)(hi:i<5)(ho:o=i*7+k)(hk:k<7){r:Option Value}(hr:(ints (iw B key i).flat)[k]?=r):(ints ((ki B key 5).toList.flatMap CellT.flat))[o]?=r:=
 nQ bv (ki B key 5) k hi ho hk (by rw[JH hi];exact hr)
theorem Df{B:BookT}{key:Int}{i j o:Nat}(hi:i<5)(hj:j<5)(ho:o=i*7+(2+j)):(ints ((ki B key 5).toList.flatMap CellT.flat))[o]?=some (.int .i64 ((iw B key i).given.toList.getD j 0)):=
 JI (2+j) hi ho (by omega) (by simp[CellT.flat,ints,List.getElem?_cons_succ,show 2+j=j+1+1 by omega,List.getD_eq_getElem?_getD,hj])
theorem OH{B:BookT}{key:Int}{i o:Nat}(hi:i<5)(ho:o=i*7):wr (ints ((ki B key i).toList.flatMap CellT.flat)) o (ints (iw B key i).flat)=ints ((ki B key (i+1)).toList.flatMap CellT.flat):=by
 have h:=ux bv (ki B key i) (i:=i) (o:=o) 0 (vs:=ints (iw B key i).flat) (u':=iw B key i) hi (by omega) (by rw[bg,bm];exact aK _) (cr ((bm _).trans (bm _).symm))
 rwa [JG hi]at h
theorem M3{B:BookT}{key:Int}{k:Nat}:(ints ((ki B key k).toList.flatMap CellT.flat)).length=35:=by
 rw[xw bv,aA]
theorem xj{n:Nat}{a:CL}(h:CLOk n a): ∀j,j≤5→Rng (fQ a j).1
 |0,_=>Rng.first
 |j+1,hj=>by
  have ih:=xj h j (by omega);rcases hs:iZ a j with _|s
  · rw[qf hs];exact ih
  · have hk:=wE h (by omega) hs
    rw[kq hs];split
    · exact hk.view.rng
    · exact ih
theorem Hq{n:Nat}{a:CL}(h:CLOk n a):Rng (fI a):=xj h 5 (aK _)
theorem Ag(c n:Nat)(a:CL)(g:CX)(h:CLOk n a)(key:Int):
 DT 18 #[(.pointer (some ⟨c,0,none⟩)),(.int .i64 (key))] T0 [br c a g] (dh (λv H=>(¬(0≤key∧key<4)∧v= .agg (ints (List.replicate 5 0)).toArray∧H=[br c a g])∨((0≤key∧key<4)∧∃d r:Nat→Nat,v= .agg (ints (qG (bh a) key (fI a) 5)).toArray∧H=[br c a g,nM a d r]))):=by
 refine Leg.Does.body (vs:=[(.pointer (some ⟨c,0,none⟩)),(.int .i64 (key))]) (n:=82) Tryz.func18 rfl rfl rfl (λw0 F hF=>?_);refine ab (λK1 hK1=>?_);refine ad ?_;refine lQ (aa rfl) rfl rfl rfl Nl (λb4=>?_);change TL _ _ _ _ _ _ _ _ _ [ah b4 (ints (#v[0,0,0,0,0]).toList) 30,br c a g];refine aq ?_;refine ac hK1 ?_;clear hK1;refine ab (λK2 hK2=>?_);refine ad ?_;refine lQ (aa rfl) rfl rfl rfl Nl (λb5=>?_);change TL _ _ _ _ _ _ _ _ _ [ah b5 (ints (#v[0,0,0,0,0]).toList) 30,ah b4 (ints (#v[0,0,0,0,0]).toList) 30,br c a g];refine aq ?_;refine ac hK2 ?_;clear hK2;refine ab (λK3 hK3=>?_);refine ab (λK4 hK4=>?_);refine ad ?_;refine dz (aa rfl) rfl rfl (cp rfl rfl) ?_;refine dz (aa rfl) rfl rfl (Lr rfl rfl rfl) ?_;refine ao (λh13=>?_) (λh13=>?_)
 · skip
   refine dz (aa rfl) rfl rfl (cp rfl rfl) ?_;refine kW (b:=true) rfl rfl rfl rfl (lb rfl) ?_;refine kW (b:=true) rfl rfl rfl rfl (lb rfl) ?_;refine dz (aa rfl) rfl rfl (l8 rfl rfl rfl) ?_;refine aq ?_;refine ac hK4 ?_;clear hK4;refine iS rfl ?_;refine ab (λK5 hK5=>?_);refine ad ?_;refine dz (aa rfl) rfl rfl (aM (vs:=ints (#v[0,0,0,0,0]).toList) rfl jK rfl eV rfl (dR 0 rfl rfl) (di (#v[0,0,0,0,0])) (whole (di (#v[0,0,0,0,0])))) ?_;refine bP (vs:=ints (#v[0,0,0,0,0]).toList) (i:=1) (H':=[ah b5 (ints (#v[0,0,0,0,0]).toList) 30,ah b4 (ints (#v[0,0,0,0,0]).toList) 30,br c a g]) (aa rfl) rfl rfl rfl rfl rfl (by rw[(di (#v[0,0,0,0,0]))];exact eV) (bj _) rfl rfl (by have h0:=(di (#v[0,0,0,0,0]));have h1:=(di (#v[0,0,0,0,0]));omega) (cr ((di (#v[0,0,0,0,0])).trans (di (#v[0,0,0,0,0])).symm)) rfl ?_;refine aq ?_;refine ac hK5 ?_;clear hK5;refine ai ?_;refine ae ?_;clear hK3;refine yD (H':=[br c a g]) rfl rfl jK rfl eV (dR 1 rfl rfl) (di (#v[0,0,0,0,0])) (λ_ s=>ak [2] rfl s) ?_;exact .inl ⟨by omega,rfl,rfl⟩
 · skip
   refine dz (aa rfl) rfl rfl (cp rfl rfl) ?_;refine dz (bS rfl rfl rfl) rfl rfl (cp rfl rfl) ?_;refine dz (bS rfl rfl rfl) rfl rfl (PV.geq rfl rfl rfl) ?_;refine ao (λh16=>?_) (λh16=>?_)
   · skip
     refine dz (aa rfl) rfl rfl (l8 rfl rfl rfl) ?_;refine aq ?_;refine ac hK4 ?_;clear hK4;refine iS rfl ?_;refine ab (λK6 hK6=>?_);refine ad ?_;refine dz (aa rfl) rfl rfl (aM (vs:=ints (#v[0,0,0,0,0]).toList) rfl jK rfl eV rfl (dR 0 rfl rfl) (di (#v[0,0,0,0,0])) (whole (di (#v[0,0,0,0,0])))) ?_;refine bP (vs:=ints (#v[0,0,0,0,0]).toList) (i:=1) (H':=[ah b5 (ints (#v[0,0,0,0,0]).toList) 30,ah b4 (ints (#v[0,0,0,0,0]).toList) 30,br c a g]) (aa rfl) rfl rfl rfl rfl rfl (by rw[(di (#v[0,0,0,0,0]))];exact eV) (bj _) rfl rfl (by have h0:=(di (#v[0,0,0,0,0]));have h1:=(di (#v[0,0,0,0,0]));omega) (cr ((di (#v[0,0,0,0,0])).trans (di (#v[0,0,0,0,0])).symm)) rfl ?_;refine aq ?_;refine ac hK6 ?_;clear hK6;refine ai ?_;refine ae ?_;clear hK3;refine yD (H':=[br c a g]) rfl rfl jK rfl eV (dR 1 rfl rfl) (di (#v[0,0,0,0,0])) (λ_ s=>ak [2] rfl s) ?_;exact .inl ⟨by omega,rfl,rfl⟩
   · skip
     refine dz (aa rfl) rfl rfl (l8 rfl rfl rfl) ?_;refine aq ?_;refine ac hK4 ?_;clear hK4;refine tl rfl ?_;refine aT ?_;refine ac hK3 ?_;clear hK3;refine ab (λK7 hK7=>?_);refine ad ?_;refine dz (aa rfl) rfl rfl (cp rfl rfl) ?_;refine hJ (A:=[br c a g]) (B:=[ah b5 (ints (#v[0,0,0,0,0]).toList) 30,ah b4 (ints (#v[0,0,0,0,0]).toList) 30]) (aa rfl) rfl rfl rfl N6 rfl (uy c n a g h) (λ_ s=>aB [2] rfl s) (λ_ _ _=>trivial) (λvR HR hR=>?_);obtain⟨bt,d,r,rfl,rfl⟩:=hR;change TL _ _ _ _ _ _ _ _ _ [br c a g,nM a d r,ah bt (ints (bh a).flat) 85,ah b5 (ints (#v[0,0,0,0,0]).toList) 30,ah b4 (ints (#v[0,0,0,0,0]).toList) 30];refine dz (aa rfl) rfl rfl (pC rfl rfl) ?_;refine aq ?_;refine ac hK7 ?_;clear hK7;refine ab (λK8 hK8=>?_);refine ad ?_;refine lQ (aa rfl) rfl rfl rfl P7 (λb7=>?_);change TL _ _ _ _ _ _ _ _ _ [ah b7 (ints ((#v[CellT.zero,CellT.zero,CellT.zero,CellT.zero,CellT.zero]).toList.flatMap CellT.flat)) 94,br c a g,nM a d r,ah bt (ints (bh a).flat) 85,ah b5 (ints (#v[0,0,0,0,0]).toList) 30,ah b4 (ints (#v[0,0,0,0,0]).toList) 30];refine aq ?_;refine ac hK8 ?_;clear hK8;refine ab (λK9 hK9=>?_);refine ab (λK10 hK10=>?_);refine ad ?_;refine dz (aa rfl) rfl rfl (cp rfl rfl) ?_;refine aq ?_;refine ac hK10 ?_;clear hK10;refine au ?_
     refine bu (α:=(Nat)) (λi=>i≤5) (λi=>[(0,(.pointer (some ⟨c,0,none⟩))),(1,(.int .i64 (key))),(4,(.pointer (some ⟨b4,0,none⟩))),(5,(.pointer (some ⟨b5,0,none⟩))),(6,(.pointer (some ⟨bt,0,none⟩))),(7,(.pointer (some ⟨b7,0,none⟩))),(21,(.int .i64 (((i:Nat):Int))))]) (λi=>[br c a g,nM a d r,ah bt (ints (bh a).flat) 85,ah b7 (ints ((ki (bh a) key i).toList.flatMap CellT.flat)) 94,ah b5 (ints (#v[0,0,0,0,0]).toList) 30,ah b4 (ints (#v[0,0,0,0,0]).toList) 30]) (λi=>5-i) 0
      (aN _) (aL (aL (aL (aL (aL (aL (bJ rfl (by congr 1) (ng _))))))))
      (λ_ s=>ak [1,1,1,0,0,0] rfl s) (λi hinv=>?_)
     obtain hi:=hinv;refine ab (λK11 hK11=>?_);refine ad ?_;refine dz (aa rfl) rfl rfl (Lr rfl rfl rfl) ?_;refine ao (λh22=>?_) (λh22=>?_)
     · skip
       refine aq ?_;refine ac hK11 ?_;clear hK11;refine ab (λK12 hK12=>?_);refine iS rfl ?_;refine aT ?_;refine ac hK12 ?_;clear hK12;refine ab (λK13 hK13=>?_);refine au ?_;refine ab (λK14 hK14=>?_);refine ad ?_;refine dz (aa rfl) rfl rfl (cp rfl rfl) ?_;refine dz (aa rfl) rfl rfl (pC rfl rfl) ?_;refine aq ?_;refine ac hK14 ?_;clear hK14;refine ad ?_;refine dz (aa rfl) rfl rfl (cp rfl rfl) ?_;refine dz (aa rfl) rfl rfl (cp rfl rfl) ?_;refine dz (aa rfl) rfl rfl (cp rfl rfl) ?_;refine dz (aa rfl) rfl rfl (cp rfl rfl) ?_;refine hJ (A:=[ah bt (ints (bh a).flat) 85]) (B:=[br c a g,nM a d r,ah b7 (ints ((ki (bh a) key i).toList.flatMap CellT.flat)) 94,ah b5 (ints (#v[0,0,0,0,0]).toList) 30,ah b4 (ints (#v[0,0,0,0,0]).toList) 30]) (aa rfl) rfl rfl rfl MO rfl (nJ bt 0 85 (λx=>ints x.flat) Arnd.whole (bh a) ((i:Nat):Int) key) (λ_ s=>aB [2] rfl s) (λ_ _ _=>trivial) (λvR HR hR=>?_);obtain⟨rfl,rfl⟩:=hR;change TL _ _ _ _ _ _ _ _ _ [ah bt (ints (bh a).flat) 85,br c a g,nM a d r,ah b7 (ints ((ki (bh a) key i).toList.flatMap CellT.flat)) 94,ah b5 (ints (#v[0,0,0,0,0]).toList) 30,ah b4 (ints (#v[0,0,0,0,0]).toList) 30];refine dz (aa rfl) rfl rfl (el (r:=i*7) rfl Ka fx rfl rfl (by omega) (by omega) (by omega)) ?_
       refine bP (vs:=ints (iw (bh a) key i).flat) (i:=3) (H':=[ah bt (ints (bh a).flat) 85,br c a g,nM a d r,ah b7 (ints ((ki (bh a) key (i+1)).toList.flatMap CellT.flat)) 94,ah b5 (ints (#v[0,0,0,0,0]).toList) 30,ah b4 (ints (#v[0,0,0,0,0]).toList) 30]) (aa rfl) rfl rfl rfl rfl rfl (by rw[bm];exact fx) (bj _) rfl rfl (by rw[M3,bm];omega) (OH (by omega) (by omega)) rfl ?_;refine aq ?_;refine ag ?_;refine ac hK13 ?_;clear hK13;refine ad ?_;refine dz (aa rfl) rfl rfl (cq rfl rfl rfl (bF (by omega) (by omega))) ?_;refine dz (aa rfl) rfl rfl (cp rfl rfl) ?_;refine aq ?_
       exact aJ ((i+1):(Nat)) (by omega) (by show 5- (i+1)<5-i;omega)
        (aL (aL (aL (aL (aL (aL (bJ rfl (by simp) (ng _))))))))
        (λ_ s=>ak [1,1,0,0,0,0] rfl s)
     · skip
       refine aq ?_;refine ac hK11 ?_;clear hK11;refine ab (λK15 hK15=>?_);refine tl rfl ?_;refine aY ?_;refine aC ?_;clear hK15;refine aC ?_;refine bo ?_;refine ac hK9 ?_;clear hK9;refine ab (λK16 hK16=>?_);refine ab (λK17 hK17=>?_);refine ad ?_;obtain rfl:i=5:=by omega
       change TL _ _ _ _ _ _ _ _ _ [br c a g,nM a d r,ah bt (ints (bh a).flat) 85,ah b7 (ints ((ki (bh a) key 5).toList.flatMap CellT.flat)) 94,ah b5 (ints (qG (bh a) key (fI a) 0)) 30,ah b4 (ints (#v[0,0,0,0,0]).toList) 30];refine dz (aa rfl) rfl rfl (cp rfl rfl) ?_;refine hJ (A:=[br c a g]) (B:=[nM a d r,ah bt (ints (bh a).flat) 85,ah b7 (ints ((ki (bh a) key 5).toList.flatMap CellT.flat)) 94,ah b5 (ints (qG (bh a) key (fI a) 0)) 30,ah b4 (ints (#v[0,0,0,0,0]).toList) 30]) (aa rfl) rfl rfl rfl PB rfl (EG c n a g h) (λ_ s=>s) (λ_ _ _=>trivial) (λvR HR hR=>?_);obtain⟨d2,r2,rfl,rfl⟩:=hR;change TL _ _ _ _ _ _ _ _ _ [br c a g,nM a d2 r2,nM a d r,ah bt (ints (bh a).flat) 85,ah b7 (ints ((ki (bh a) key 5).toList.flatMap CellT.flat)) 94,ah b5 (ints (qG (bh a) key (fI a) 0)) 30,ah b4 (ints (#v[0,0,0,0,0]).toList) 30];refine hJ (A:=[]) (B:=[br c a g,nM a d2 r2,nM a d r,ah bt (ints (bh a).flat) 85,ah b7 (ints ((ki (bh a) key 5).toList.flatMap CellT.flat)) 94,ah b5 (ints (qG (bh a) key (fI a) 0)) 30,ah b4 (ints (#v[0,0,0,0,0]).toList) 30]) (aa rfl) rfl rfl rfl PC rfl (Az (fI a) (Hq h)) (λ_ s=>s) (λ_ _ _=>trivial) (λvR HR hR=>?_);obtain⟨rfl,rfl⟩:=hR;change TL _ _ _ _ _ _ _ _ _ [br c a g,nM a d2 r2,nM a d r,ah bt (ints (bh a).flat) 85,ah b7 (ints ((ki (bh a) key 5).toList.flatMap CellT.flat)) 94,ah b5 (ints (qG (bh a) key (fI a) 0)) 30,ah b4 (ints (#v[0,0,0,0,0]).toList) 30]
       refine dz (aa rfl) rfl rfl (cp rfl rfl) ?_;refine aq ?_;refine ac hK17 ?_;clear hK17;refine au ?_
       refine bu (α:=(Nat)) (λi=>i≤5) (λi=>[(4,(.pointer (some ⟨b4,0,none⟩))),(5,(.pointer (some ⟨b5,0,none⟩))),(7,(.pointer (some ⟨b7,0,none⟩))),(33,(.agg (ints (n7 (fI a) 5)).toArray)),(34,(.int .i64 (((i:Nat):Int))))]) (λi=>[br c a g,nM a d2 r2,ah b7 (ints ((ki (bh a) key 5).toList.flatMap CellT.flat)) 94,ah b5 (ints (qG (bh a) key (fI a) i)) 30,ah b4 (ints (#v[0,0,0,0,0]).toList) 30]) (λi=>5-i) 0
        (aN _) (aL (aL (aL (aL (bJ rfl (by congr 1) (ng _))))))
        (λ_ s=>ak [0,0,2,2,2] rfl s) (λi hinv=>?_)
       obtain hi:=hinv;refine ab (λK18 hK18=>?_);refine ad ?_;refine dz (aa rfl) rfl rfl (Lr rfl rfl rfl) ?_;refine ao (λh35=>?_) (λh35=>?_)
       · skip
         refine aq ?_;refine ac hK18 ?_;clear hK18;refine ab (λK19 hK19=>?_);refine iS rfl ?_;refine aT ?_;refine ac hK19 ?_;clear hK19;refine ab (λK20 hK20=>?_);refine au ?_;refine ab (λK21 hK21=>?_);refine ad ?_;refine dz (aa rfl) rfl rfl (cp rfl rfl) ?_;refine dz (aa rfl) rfl rfl (nB (cs:=ints (n7 (fI a) 5)) (v:=(.int .i64 (tQ (fI a) i))) (r:=i) rfl jK Y3 rfl aR rfl rfl (by omega) (by omega) (by omega) (IQ (by omega))) ?_;refine dz (aa rfl) rfl rfl (pC rfl rfl) ?_;refine dz (aa rfl) rfl rfl (pC rfl rfl) ?_;refine aq ?_;refine ac hK21 ?_;clear hK21;refine ab (λK22 hK22=>?_);refine ab (λK23 hK23=>?_);refine ad ?_;refine dz (aa rfl) rfl rfl (cp rfl rfl) ?_;refine dz (aa rfl) rfl rfl (Lr rfl rfl rfl) ?_;refine ao (λh39=>?_) (λh39=>?_)
         · skip
           refine dz (aa rfl) rfl rfl (cp rfl rfl) ?_;refine kW (b:=true) rfl rfl rfl rfl (lb rfl) ?_;refine kW (b:=true) rfl rfl rfl rfl (lb rfl) ?_;refine dz (aa rfl) rfl rfl (l8 rfl rfl rfl) ?_;refine aq ?_;refine ac hK23 ?_;clear hK23;refine iS rfl ?_;refine aY ?_;refine aC ?_;clear hK22;refine bo ?_;refine ac hK20 ?_;clear hK20;refine ad ?_;refine dz (aa rfl) rfl rfl (cq rfl rfl rfl (bF (by omega) (by omega))) ?_;refine dz (aa rfl) rfl rfl (cp rfl rfl) ?_;refine aq ?_
           exact aJ ((i+1):(Nat)) (by omega) (by show 5- (i+1)<5-i;omega)
            (aL (aL (aL (aL (bJ rfl (by simp) (ng _))))))
            (λ_ q=>by show bD [br c a g,nM a d2 r2,ah b7 (ints ((ki (bh a) key 5).toList.flatMap CellT.flat)) 94,ah b5 (ints (qG (bh a) key (fI a) (i+1))) 30,ah b4 (ints (#v[0,0,0,0,0]).toList) 30] _;rw[qG,if_neg (by omega)];exact ak [0,0,0,0,0] rfl q)
         · skip
           refine dz (aa rfl) rfl rfl (cp rfl rfl) ?_;refine dz (bS rfl rfl rfl) rfl rfl (cp rfl rfl) ?_;refine dz (bS rfl rfl rfl) rfl rfl (PV.geq rfl rfl rfl) ?_;refine ao (λh42=>?_) (λh42=>?_)
           · skip
             refine dz (aa rfl) rfl rfl (l8 rfl rfl rfl) ?_;refine aq ?_;refine ac hK23 ?_;clear hK23;refine iS rfl ?_;refine aY ?_;refine aC ?_;clear hK22;refine bo ?_;refine ac hK20 ?_;clear hK20;refine ad ?_;refine dz (aa rfl) rfl rfl (cq rfl rfl rfl (bF (by omega) (by omega))) ?_;refine dz (aa rfl) rfl rfl (cp rfl rfl) ?_;refine aq ?_
             exact aJ ((i+1):(Nat)) (by omega) (by show 5- (i+1)<5-i;omega)
              (aL (aL (aL (aL (bJ rfl (by simp) (ng _))))))
              (λ_ q=>by show bD [br c a g,nM a d2 r2,ah b7 (ints ((ki (bh a) key 5).toList.flatMap CellT.flat)) 94,ah b5 (ints (qG (bh a) key (fI a) (i+1))) 30,ah b4 (ints (#v[0,0,0,0,0]).toList) 30] _;rw[qG,if_neg (by omega)];exact ak [0,0,0,0,0] rfl q)
           · skip
             obtain⟨ow,how,hw5⟩: ∃ow:Nat,tQ (fI a) i=((ow:Nat):Int)∧ow<5:=⟨(tQ (fI a) i).toNat,by omega,by omega⟩;rw[how];refine dz (aa rfl) rfl rfl (l8 rfl rfl rfl) ?_;refine aq ?_;refine ac hK23 ?_;clear hK23;refine tl rfl ?_;refine aT ?_;refine ac hK22 ?_;clear hK22;refine ab (λK24 hK24=>?_);refine ot (λw=>Frm F w∧w.heap[b7]?=some (.cells (ints ((ki (bh a) key 5).toList.flatMap CellT.flat)).toArray 94 (0,0))∧True) df rfl (λ_ s=>⟨ec s,s.block 2 (lb rfl) rfl,trivial⟩) ?_;refine dE (i:=0) rfl (by kernel_rfl) (by kernel_rfl) (by kernel_rfl) (λ_ _ _ _ h=>h) (aa rfl) rfl rfl (cp rfl rfl) ?_;refine dE (i:=1) rfl (by kernel_rfl) (by kernel_rfl) (by kernel_rfl) (λ_ _ _ _ h=>h) (aa rfl) rfl rfl (el (r:=ow) rfl jK aR rfl rfl (by omega) (by omega) (by omega)) ?_;refine dE (i:=3) rfl (by kernel_rfl) (by kernel_rfl) (by kernel_rfl) (λ_ _ _ _ h=>h) (aa rfl) rfl rfl (cp rfl rfl) ?_;refine dE (i:=4) rfl (by kernel_rfl) (by kernel_rfl) (by kernel_rfl) (λ_ _ _ _ h=>h) (aa rfl) rfl rfl (el (r:=i*7) rfl Ka fx rfl rfl (by omega) (by omega) (by omega)) ?_;refine dE (i:=5) rfl (by kernel_rfl) (by kernel_rfl) (by kernel_rfl) (λ_ _ _ _ h=>h) (aa rfl) rfl rfl (aZ (r:=i*7) rfl mH rfl aR rfl rfl) ?_
             refine dE (i:=6) rfl (by kernel_rfl) (by kernel_rfl) (by kernel_rfl) (λ_ _ _ _ h=>h) (aa rfl) rfl rfl (eZ (v:=(.int .i64 ((iw (bh a) key i).inn))) rfl Y3 rfl rfl (λ_ h=>h.2.1) (JI 0 (by omega) (by omega) (by decide) (sd _ rfl))) ?_;refine dE (i:=7) rfl (by kernel_rfl) (by kernel_rfl) (by kernel_rfl) (λ_ _ _ _ h=>h) (aa rfl) rfl rfl (cp rfl rfl) ?_;refine dE (i:=8) rfl (by kernel_rfl) (by kernel_rfl) (by kernel_rfl) (λ_ _ _ _ h=>h) (aa rfl) rfl rfl (el (r:=i*7) rfl Ka fx rfl rfl (by omega) (by omega) (by omega)) ?_;refine dE (i:=9) rfl (by kernel_rfl) (by kernel_rfl) (by kernel_rfl) (λ_ _ _ _ h=>h) (aa rfl) rfl rfl (aZ (r:=i*7+1) rfl mH rfl aR rfl rfl) ?_;refine dE (i:=10) rfl (by kernel_rfl) (by kernel_rfl) (by kernel_rfl) (λ_ _ _ _ h=>h) (aa rfl) rfl rfl (eZ (v:=(.int .i64 ((iw (bh a) key i).out))) rfl Y3 rfl rfl (λ_ h=>h.2.1) (JI 1 (by omega) (by omega) (by decide) (sc _ rfl))) ?_;refine dE (i:=11) rfl (by kernel_rfl) (by kernel_rfl) (by kernel_rfl) (λ_ _ _ _ h=>h) (aa rfl) rfl rfl (ix (r:=(fO ((iw (bh a) key i).inn- (iw (bh a) key i).out))) rfl rfl rfl rfl) ?_;refine cC [2] (by kernel_rfl) rfl ?_;refine aE rfl ?_ ?_
             · skip
               refine dz (aa rfl) rfl rfl (eZ (v:=(.int .i64 ((qG (bh a) key (fI a) i).getD ow 0))) rfl Y3 rfl rfl (dR 3 rfl rfl) (Me (by omega) (by simp only[Iw,Mu,cy,qH,iH,iE];omega))) ?_;refine aq ?_;refine nf (λ_ s=>⟨ec s,s.block 2 (lb rfl) rfl,trivial⟩) ?_;refine dE (i:=12) rfl (by kernel_rfl) (by kernel_rfl) (by kernel_rfl) (λ_ _ _ _ h=>h) (aa rfl) rfl rfl (cq (r:=(fO ((qG (bh a) key (fI a) i).getD ow 0+fO ((iw (bh a) key i).inn- (iw (bh a) key i).out)))) rfl rfl rfl rfl) ?_;refine dE (i:=13) rfl (by kernel_rfl) (by kernel_rfl) (by kernel_rfl) (λ_ _ _ _ h=>h) (aa rfl) rfl rfl (el (r:=ow) rfl jK aR rfl rfl (by omega) (by omega) (by omega)) ?_;refine cC [14] (by kernel_rfl) rfl ?_;refine aE rfl ?_ ?_
               · skip
                 refine bw (i:=3) (H':=[br c a g,nM a d2 r2,ah b7 (ints ((ki (bh a) key 5).toList.flatMap CellT.flat)) 94,ah b5 (ints (Iw (bh a) key i ow (qG (bh a) key (fI a) i))) 30,ah b4 (ints (#v[0,0,0,0,0]).toList) 30]) (aa rfl) rfl rfl rfl rfl rfl aR rfl rfl (by simp only[ints_length,Iw,Mu,cy,qH,iH,iE];omega) (Jo (by omega)) rfl ?_;refine aq ?_;refine nf (λ_ s=>⟨ec s,s.block 2 (lb rfl) rfl,trivial⟩) ?_;refine Qf (by kernel_rfl) ?_;refine ac hK24 ?_;clear hK24;refine ab (λK25 hK25=>?_);refine ad ?_;refine dz (aa rfl) rfl rfl (cp rfl rfl) ?_;refine aq ?_;refine ac hK25 ?_;clear hK25;refine au ?_
                 refine bu (α:=(Nat)) (λj=>j≤5) (λj=>[(4,(.pointer (some ⟨b4,0,none⟩))),(5,(.pointer (some ⟨b5,0,none⟩))),(7,(.pointer (some ⟨b7,0,none⟩))),(9,(.int .i64 (((i:Nat):Int)))),(10,(.int .i64 (((ow:Nat):Int)))),(33,(.agg (ints (n7 (fI a) 5)).toArray)),(34,(.int .i64 (((i:Nat):Int)))),(58,(.int .i64 (((j:Nat):Int))))]) (λj=>[br c a g,nM a d2 r2,ah b7 (ints ((ki (bh a) key 5).toList.flatMap CellT.flat)) 94,ah b5 (ints (Kn (bh a) key i ow (Iw (bh a) key i ow (qG (bh a) key (fI a) i)) j)) 30,ah b4 (ints (#v[0,0,0,0,0]).toList) 30]) (λj=>5-j) 0
                  (aN _) (aL (aL (aL (aL (aL (aL (aL (bJ rfl (by congr 1) (ng _)))))))))
                  (λ_ s=>s) (λj hinv=>?_)
                 obtain hj:=hinv;refine ab (λK26 hK26=>?_);refine ad ?_;refine dz (aa rfl) rfl rfl (Lr rfl rfl rfl) ?_;refine ao (λh59=>?_) (λh59=>?_)
                 · skip
                   refine aq ?_;refine ac hK26 ?_;clear hK26;refine ab (λK27 hK27=>?_);refine iS rfl ?_;refine aT ?_;refine ac hK27 ?_;clear hK27;refine ab (λK28 hK28=>?_);refine au ?_;refine ab (λK29 hK29=>?_);refine ad ?_;refine dz (aa rfl) rfl rfl (cp rfl rfl) ?_;refine dz (aa rfl) rfl rfl (pC rfl rfl) ?_;refine aq ?_;refine ac hK29 ?_;clear hK29;refine ot (λw=>Frm F w∧w.heap[b7]?=some (.cells (ints ((ki (bh a) key 5).toList.flatMap CellT.flat)).toArray 94 (0,0))∧True) df rfl (λ_ s=>⟨ec s,s.block 2 (lb rfl) rfl,trivial⟩) ?_;refine dE (i:=0) rfl (by kernel_rfl) (by kernel_rfl) (by kernel_rfl) (λ_ _ _ _ h=>h) (aa rfl) rfl rfl (cp rfl rfl) ?_;refine dE (i:=1) rfl (by kernel_rfl) (by kernel_rfl) (by kernel_rfl) (λ_ _ _ _ h=>h) (aa rfl) rfl rfl (el (r:=ow) rfl jK aR rfl rfl (by omega) (by omega) (by omega)) ?_;refine dE (i:=3) rfl (by kernel_rfl) (by kernel_rfl) (by kernel_rfl) (λ_ _ _ _ h=>h) (aa rfl) rfl rfl (cp rfl rfl) ?_;refine dE (i:=4) rfl (by kernel_rfl) (by kernel_rfl) (by kernel_rfl) (λ_ _ _ _ h=>h) (aa rfl) rfl rfl (cp rfl rfl) ?_;refine dE (i:=5) rfl (by kernel_rfl) (by kernel_rfl) (by kernel_rfl) (λ_ _ _ _ h=>h) (aa rfl) rfl rfl (el (r:=j*7) rfl Ka fx rfl rfl (by omega) (by omega) (by omega)) ?_;refine dE (i:=6) rfl (by kernel_rfl) (by kernel_rfl) (by kernel_rfl) (λ_ _ _ _ h=>h) (aa rfl) rfl rfl (aZ (r:=j*7+2) rfl mH rfl eV rfl rfl) ?_
                   refine dE (i:=7) rfl (by kernel_rfl) (by kernel_rfl) (by kernel_rfl) (λ_ _ _ _ h=>h) (aa rfl) rfl rfl (el (r:=j*7+2+i) rfl jK aR rfl rfl (by omega) (by omega) (by omega)) ?_;refine dE (i:=8) rfl (by kernel_rfl) (by kernel_rfl) (by kernel_rfl) (λ_ _ _ _ h=>h) (aa rfl) rfl rfl (eZ (v:=(.int .i64 ((iw (bh a) key j).given.toList.getD i 0))) rfl Y3 rfl rfl (λ_ h=>h.2.1) (Df (by omega) (by omega) (by omega))) ?_;refine dE (i:=9) rfl (by kernel_rfl) (by kernel_rfl) (by kernel_rfl) (λ_ _ _ _ h=>h) (aa rfl) rfl rfl (cp rfl rfl) ?_;refine dE (i:=10) rfl (by kernel_rfl) (by kernel_rfl) (by kernel_rfl) (λ_ _ _ _ h=>h) (aa rfl) rfl rfl (cp rfl rfl) ?_;refine dE (i:=11) rfl (by kernel_rfl) (by kernel_rfl) (by kernel_rfl) (λ_ _ _ _ h=>h) (aa rfl) rfl rfl (el (r:=i*7) rfl Ka fx rfl rfl (by omega) (by omega) (by omega)) ?_;refine dE (i:=12) rfl (by kernel_rfl) (by kernel_rfl) (by kernel_rfl) (λ_ _ _ _ h=>h) (aa rfl) rfl rfl (aZ (r:=i*7+2) rfl mH rfl eV rfl rfl) ?_;refine dE (i:=13) rfl (by kernel_rfl) (by kernel_rfl) (by kernel_rfl) (λ_ _ _ _ h=>h) (aa rfl) rfl rfl (el (r:=i*7+2+j) rfl jK aR rfl rfl (by omega) (by omega) (by omega)) ?_
                   refine dE (i:=14) rfl (by kernel_rfl) (by kernel_rfl) (by kernel_rfl) (λ_ _ _ _ h=>h) (aa rfl) rfl rfl (eZ (v:=(.int .i64 ((iw (bh a) key i).given.toList.getD j 0))) rfl Y3 rfl rfl (λ_ h=>h.2.1) (Df (by omega) (by omega) (by omega))) ?_;refine dE (i:=15) rfl (by kernel_rfl) (by kernel_rfl) (by kernel_rfl) (λ_ _ _ _ h=>h) (aa rfl) rfl rfl (ix (r:=(fO ((iw (bh a) key j).given.toList.getD i 0- (iw (bh a) key i).given.toList.getD j 0))) rfl rfl rfl rfl) ?_;refine cC [2] (by kernel_rfl) rfl ?_;refine aE rfl ?_ ?_
                   · skip
                     refine dz (aa rfl) rfl rfl (eZ (v:=(.int .i64 ((Kn (bh a) key i ow (Iw (bh a) key i ow (qG (bh a) key (fI a) i)) j).getD ow 0))) rfl Y3 rfl rfl (dR 3 rfl rfl) (Me (by omega) (by simp only[Iw,Mu,cy,qH,iH,iE];omega))) ?_;refine aq ?_;refine nf (λ_ s=>⟨ec s,s.block 2 (lb rfl) rfl,trivial⟩) ?_;refine dE (i:=16) rfl (by kernel_rfl) (by kernel_rfl) (by kernel_rfl) (λ_ _ _ _ h=>h) (aa rfl) rfl rfl (cq (r:=(fO ((Kn (bh a) key i ow (Iw (bh a) key i ow (qG (bh a) key (fI a) i)) j).getD ow 0+fO ((iw (bh a) key j).given.toList.getD i 0- (iw (bh a) key i).given.toList.getD j 0)))) rfl rfl rfl rfl) ?_;refine dE (i:=17) rfl (by kernel_rfl) (by kernel_rfl) (by kernel_rfl) (λ_ _ _ _ h=>h) (aa rfl) rfl rfl (el (r:=ow) rfl jK aR rfl rfl (by omega) (by omega) (by omega)) ?_;refine cC [18] (by kernel_rfl) rfl ?_;refine aE rfl ?_ ?_
                     · skip
                       refine bw (i:=3) (H':=[br c a g,nM a d2 r2,ah b7 (ints ((ki (bh a) key 5).toList.flatMap CellT.flat)) 94,ah b5 (ints (Mu (bh a) key i ow j (Kn (bh a) key i ow (Iw (bh a) key i ow (qG (bh a) key (fI a) i)) j))) 30,ah b4 (ints (#v[0,0,0,0,0]).toList) 30]) (aa rfl) rfl rfl rfl rfl rfl aR rfl rfl (by simp only[ints_length,Iw,Mu,cy,qH,iH,iE];omega) (Jo (by omega)) rfl ?_;refine aq ?_;refine nf (λ_ s=>⟨ec s,s.block 2 (lb rfl) rfl,trivial⟩) ?_;refine Qf (by kernel_rfl) ?_;refine ag ?_;refine ac hK28 ?_;clear hK28;refine ad ?_;refine dz (aa rfl) rfl rfl (cq rfl rfl rfl (bF (by omega) (by omega))) ?_;refine dz (aa rfl) rfl rfl (cp rfl rfl) ?_;refine aq ?_
                       exact aJ ((j+1):(Nat)) (by omega) (by show 5- (j+1)<5-j;omega)
                        (aL (aL (aL (aL (aL (aL (aL (bJ rfl (by simp) (ng _)))))))))
                        (λ_ s=>s)
                     exact bz
                   exact bz
                 · skip
                   refine aq ?_;refine ac hK26 ?_;clear hK26;refine ab (λK30 hK30=>?_);refine tl rfl ?_;refine aY ?_;refine aC ?_;clear hK30;refine aC ?_;refine bo ?_;refine ag ?_;refine ac hK20 ?_;clear hK20;refine ad ?_;refine dz (aa rfl) rfl rfl (cq rfl rfl rfl (bF (by omega) (by omega))) ?_;refine dz (aa rfl) rfl rfl (cp rfl rfl) ?_;refine aq ?_
                   exact aJ ((i+1):(Nat)) (by omega) (by show 5- (i+1)<5-i;omega)
                    (aL (aL (aL (aL (bJ rfl (by simp) (ng _))))))
                    (λ_ q=>by show bD [br c a g,nM a d2 r2,ah b7 (ints ((ki (bh a) key 5).toList.flatMap CellT.flat)) 94,ah b5 (ints (qG (bh a) key (fI a) (i+1))) 30,ah b4 (ints (#v[0,0,0,0,0]).toList) 30] _;rw[qG,if_pos (by omega),show(tQ (fI a) i).toNat=ow by omega];rw[show j=5 by omega]at q;exact ak [0,0,0,0,0] rfl q)
               exact bz
             exact bz
       · skip
         refine aq ?_;refine ac hK18 ?_;clear hK18;refine ab (λK31 hK31=>?_);refine tl rfl ?_;refine aY ?_;refine aC ?_;clear hK31;refine aC ?_;refine bo ?_;refine ac hK16 ?_;clear hK16;refine ab (λK32 hK32=>?_);refine ad ?_;obtain rfl:i=5:=by omega
         refine dz (aa rfl) rfl rfl (aM (vs:=ints (qG (bh a) key (fI a) 5)) rfl jK rfl eV rfl (dR 3 rfl rfl) (by simp only[ints_length,iH]) (by rw[aV,az (by simp only[ints_length,iH];exact aK _)])) ?_;refine bP (vs:=ints (qG (bh a) key (fI a) 5)) (i:=4) (H':=[br c a g,nM a d2 r2,ah b7 (ints ((ki (bh a) key 5).toList.flatMap CellT.flat)) 94,ah b5 (ints (qG (bh a) key (fI a) 5)) 30,ah b4 (ints (qG (bh a) key (fI a) 5)) 30]) (aa rfl) rfl rfl rfl rfl rfl (by simp only[ints_length,iH];exact eV) (bj _) rfl rfl (by simp only[ints_length,iH];exact aK _) (gd (by simp only[ints_length,iH];rfl)) rfl ?_;refine aq ?_;refine ac hK32 ?_;clear hK32;refine ai ?_;refine yD (H':=[br c a g,nM a d2 r2]) rfl rfl jK rfl eV (dR 4 rfl rfl) (by rw[ints_length,iH]) (λ_ s=>ak [0,0] rfl s) ?_;exact .inr ⟨by omega,d2,r2,rfl,rfl⟩
theorem Ex{a:CL}{i:Nat}(h:(a.at' i).up=false):mj a i=ET i++fU (a.at' i).reps:=by
 unfold mj CC;split
 · rw[h];rfl
 · rfl
theorem xc{a:CL}{i:Nat}{s:MS LD}(hs:(a.at' i).run=some s)(h:(a.at' i).up=true):mj a i=vd i s++fU (a.at' i).reps:=by
 unfold mj CC;rw[hs,h];rfl
theorem Bu(t c:Nat)(A v:Value)(bs:List UInt8)(a:CL)(g:CX)(i:Nat)(hi:i<5)(hA:A= .pointer none∨A= .pointer (some ⟨t,1,none⟩))(hv:v.oneCell'=true)(hb:bs.length≤500000)(n:Nat)(h:TOk n a)(hn:n≤1200):
 DT 38 #[(.pointer (some ⟨t,0,none⟩)),(.int .i64 (((i:Nat):Int)))] (TabR) [ah t [(.pointer (some ⟨c,0,none⟩)),A,v] 102,ce v (bs) 5,br c a g] (dh (λ_ H=>∃v',v'.oneCell'=true∧H=[ah t [(.pointer (some ⟨c,0,none⟩)),(.pointer (some ⟨t,1,none⟩)),v'] 102,ce v' (bs++mj a i) 5,br c a g])):=by
 refine Leg.Does.body (vs:=[(.pointer (some ⟨t,0,none⟩)),(.int .i64 (((i:Nat):Int)))]) (n:=63) Tryz.func38 rfl rfl rfl (λw0 F hF=>?_);refine sr λ_ J1=>?_
 refine mv ?_;refine hJ (aa rfl) rfl rfl rfl ND rfl (xm ((i:Nat):Int) (kf (by omega))) (λ_ s=>s) (λ_ d _=>gO hF d) (λvR HR hR=>?_);obtain⟨rfl,rfl⟩:=hR;have hit:=vI (n:=((i:Nat):Int)) (kf (by omega));refine tp (Lo (a:=[109,97,99,104,105,110,101,32]) (b:=Lib.itoa ((i:Nat):Int)) rfl rfl rfl (by simp only[an,aw];omega)) ?_;refine pG ?_;refine nx J1 ?_;refine ab λ_ J2=>?_
 refine sr λ_ J3=>?_
 refine mv ?_;refine tp (fZ rfl rfl) ?_;refine tp (aZ (r:=0) rfl Dq rfl Gt rfl rfl) ?_;refine tp (eZ (v:=(.pointer (some ⟨c,0,none⟩))) rfl M9 rfl rfl (dR 0 rfl rfl) rfl) ?_;refine mv ?_;refine hJ (aa rfl) rfl rfl rfl Ou rfl (xd (i:=i) hi) (λ_ s=>aB [2] rfl s) (λ_ _ _=>trivial) (λvR HR hR=>?_);rcases hR with⟨hup,rfl,rfl⟩| ⟨sm,hrun,hup,rfl,rfl⟩
 refine pG ?_;refine nx J3 ?_;refine sr λ_ J4=>?_
 refine mv ?_;refine tp (sa rfl ut rfl rfl) ?_;refine nx J4 ?_;refine iS rfl ?_;refine ad ?_;refine mv ?_;refine mv ?_;refine tp (Lo (a:=[109,97,99,104,105,110,101,32]++Lib.itoa ((i:Nat):Int)) (b:=[32,100,111,119,110]) rfl rfl rfl (by simp only[af,an,aw];omega)) ?_;refine hJ (aa rfl) rfl rfl rfl Ep rfl (ke t c A v (.slice none 0 0) (bs) ([109,97,99,104,105,110,101,32]++Lib.itoa ((i:Nat):Int)++[32,100,111,119,110]) [] hA hv zG (by simp only[af,an,aw];omega)) (λ_ s=>aB [1,1] rfl s) (λ_ d _=>⟨Or.inl ⟨rfl,rfl⟩,gO hF d⟩) (λvR HR hR=>?_);obtain⟨w1,hw1,rfl⟩:=hR;refine nx J2 ?_;refine sr λ_ J5=>?_
 refine mv ?_;refine tp (fZ rfl rfl) ?_;refine tp (aZ (r:=0) rfl Dq rfl Gt rfl rfl) ?_;refine tp (eZ (v:=(.pointer (some ⟨c,0,none⟩))) rfl M9 rfl rfl (dR 0 rfl rfl) rfl) ?_;refine mv ?_;refine hJ (aa rfl) rfl rfl rfl I2 rfl (rF (i:=i) h.ok (by omega) hi) (λ_ s=>aB [2] rfl s) (λ_ _ _=>trivial) (λvR HR hR=>?_);obtain⟨_,h1ur,rfl,rfl⟩:=hR;revert vR;intro ur h1ur;refine im 1 rfl rfl (λhlr _=>?_);have hrn:=h.reps hi;refine tp (dq rfl Dy rfl hlr) ?_;refine mv ?_;refine nx J5 ?_;refine au ?_
 refine bu (α:=(Nat)×(Value)) (λ⟨k,v2⟩=>k≤(a.at' i).reps.length∧v2.oneCell'=true) (λ⟨k,v2⟩=>[(0,(.pointer (some ⟨t,0,none⟩))),(47,ur),(48,(.int .i64 ((((a.at' i).reps.length:Nat):Int)))),(49,(.int .i64 (((k:Nat):Int))))]) (λ⟨k,v2⟩=>[ah t [(.pointer (some ⟨c,0,none⟩)),(.pointer (some ⟨t,1,none⟩)),v2] 102,ce v2 (bs++ET i++fU ((a.at' i).reps.take k)) 5,br c a g,own ur (((a.at' i).reps).length) (ints (List.flatMap ReplyT.flat ((a.at' i).reps))) 47 3]) (λ⟨k,v2⟩=>(a.at' i).reps.length-k) (0,w1)
  ⟨aN _,hw1⟩ (aL (aL (aL (bJ rfl (by congr 1) (ng _)))))
  (λ_ s=>by show bD [ah t [(.pointer (some ⟨c,0,none⟩)),(.pointer (some ⟨t,1,none⟩)),w1] 102,ce w1 (bs++ET i++fU ((a.at' i).reps.take 0)) 5,br c a g,own ur (((a.at' i).reps).length) (ints (List.flatMap ReplyT.flat ((a.at' i).reps))) 47 3] _;rw[show bs++ET i++fU ((a.at' i).reps.take 0)=bs++ET i from aP _];exact ak [2,2,0,0] rfl s) (λ⟨k,v2⟩ hinv=>?_)
 obtain⟨hk,hv2⟩:=hinv;have hrl:=nY (l:=(a.at' i).reps.take k) (λr hr=>h.rws i r (en hr));rw[bk]at hrl;have hhd:(ET i).length≤200:=AR hi;refine sr λ_ J6=>?_
 refine tp (Lr rfl rfl rfl) ?_;refine ao (λh50=>?_) (λh50=>?_);have hkr:k< (a.at' i).reps.length:=by omega
 obtain⟨r,hr⟩: ∃r,r=(a.at' i).reps[k]:=⟨_,rfl⟩;have hrm:r∈(a.at' i).reps:=by rw[hr];exact cR hkr
 have hfr:=s4 HX (a.at' i).reps hkr;rw[←hr]at hfr;refine g9 3 rfl rfl (by omega) (λgr capr hvr hcapr=>?_);refine nx J6 ?_;refine ab λ_ J7=>?_
 refine iS rfl ?_;refine aT ?_;refine ac J7 ?_;refine ab λ_ J8=>?_
 refine au ?_;refine sr λ_ J9=>?_
 refine tp (be (r:=k*3) hvr rfl Dy Ad rfl rfl (by omega) (by omega) (by omega)) ?_;refine tp (xY (vs:=ints r.flat) rfl HU rfl Ad rfl (fD 3 rfl hvr rfl) (pA _) hfr) ?_;refine lQ (aa rfl) rfl rfl rfl O8 (λb9=>?_);change TL _ _ _ _ _ _ _ _ _ [ah b9 (ints ReplyT.zero.flat) 47,ah t [(.pointer (some ⟨c,0,none⟩)),(.pointer (some ⟨t,1,none⟩)),v2] 102,ce v2 (bs++ET i++fU ((a.at' i).reps.take k)) 5,br c a g,own ur (((a.at' i).reps).length) (ints (List.flatMap ReplyT.flat ((a.at' i).reps))) 47 3];refine bP (vs:=ints r.flat) (i:=0) (aa rfl) rfl rfl rfl rfl rfl (by rw[(pA r)];exact Ad) (bj _) rfl rfl (by have h0:=(pA ReplyT.zero);have h1:=(pA r);omega) (cr ((pA ReplyT.zero).trans (pA r).symm)) rfl ?_;refine nx J9 ?_;refine ad ?_;refine mv ?_;refine tp (aZ (r:=0) rfl HU rfl aR rfl rfl) ?_;refine tp (eZ (v:=(.int .i64 (r.op))) rfl Y3 rfl rfl (dR 0 rfl rfl) (Qh r rfl)) ?_;refine tp (aZ (r:=1) rfl HU rfl Mr rfl rfl) ?_;refine tp (eZ (v:=(.int .i64 (r.err))) rfl Tryz.underlying45 rfl rfl (dR 0 rfl rfl) (PQ r rfl)) ?_;refine tp (aZ (r:=2) rfl HU rfl aR rfl rfl) ?_;refine tp (eZ (v:=(.int .i64 (r.value))) rfl Y3 rfl rfl (dR 0 rfl rfl) (Na r rfl)) ?_;refine aQ (cells:=#[(.int .i64 (r.op)),(.int .i64 (r.err)),(.int .i64 (r.value))]) (aa rfl) rfl rfl rfl iL oA rfl rfl rfl (by as_aux_lemma=>kernel_rfl) (λb60=>?_)
 change TL _ _ _ _ _ _ _ _ _ [ah b60 [(.int .i64 (r.op)),(.int .i64 (r.err)),(.int .i64 (r.value))] 3,ah b9 (ints r.flat) 47,ah t [(.pointer (some ⟨c,0,none⟩)),(.pointer (some ⟨t,1,none⟩)),v2] 102,ce v2 (bs++ET i++fU ((a.at' i).reps.take k)) 5,br c a g,own ur (((a.at' i).reps).length) (ints (List.flatMap ReplyT.flat ((a.at' i).reps))) 47 3];refine ck (H':=[own (.slice (some ⟨b60,0,none⟩) (3) (3)) (3) ([.int .i64 r.op, .int .i64 r.err, .int .i64 r.value]) 3 1,ah b9 (ints r.flat) 47,ah t [(.pointer (some ⟨c,0,none⟩)),(.pointer (some ⟨t,1,none⟩)),v2] 102,ce v2 (bs++ET i++fU ((a.at' i).reps.take k)) 5,br c a g,own ur (((a.at' i).reps).length) (ints (List.flatMap ReplyT.flat ((a.at' i).reps))) 47 3]) (λ_ s=>nr (g:=b60) (cap:=3) (nn:=3) (e:=3) (cur:=[.int .i64 r.op, .int .i64 r.err, .int .i64 r.value]) (xs:=[.int .i64 r.op, .int .i64 r.err, .int .i64 r.value]) 0 rfl rfl (by decide) (by decide) rfl rfl s) ?_;refine hJ (aa rfl) rfl rfl rfl Ep rfl (ke t c (.pointer (some ⟨t,1,none⟩)) v2 (.slice (some ⟨b60,0,none⟩) (3) (3)) (bs++ET i++fU ((a.at' i).reps.take k)) ([114,101,112,108,121]) [r.op,r.err,r.value] (Or.inr rfl) hv2 (qP (h.rws i r hrm)) (by simp only[af,an,aw];omega)) (λ_ s=>aB [2,2] rfl s) (λg_ d s_=>⟨nw (l:=[r.op,r.err,r.value]) 0 rfl rfl g_ d s_,gO hF d⟩) (λvR HR hR=>?_);obtain⟨w2,hw2,rfl⟩:=hR;refine aq ?_;refine ag ?_;refine ac J8 ?_;refine ad ?_
 refine tp (cq rfl rfl rfl (bF (by omega) (by omega))) ?_;refine mv ?_;refine aq ?_
 exact aJ ((k+1,w2):(Nat)×(Value)) ⟨by omega,hw2⟩ (by show(a.at' i).reps.length- (k+1)< (a.at' i).reps.length-k;omega)
  (aL (aL (aL (bJ rfl (by simp) (ng _)))))
  (λ_ s=>by show bD [ah t [(.pointer (some ⟨c,0,none⟩)),(.pointer (some ⟨t,1,none⟩)),w2] 102,ce w2 (bs++ET i++fU ((a.at' i).reps.take (k+1))) 5,br c a g,own ur (((a.at' i).reps).length) (ints (List.flatMap ReplyT.flat ((a.at' i).reps))) 47 3] _;rw[rE (a.at' i).reps hkr,←hr,←aS];exact ak [0,0,2,2] rfl s)
 refine nx J6 ?_;refine ab λ_ J10=>?_
 refine tl rfl ?_;refine aY ?_;refine aC ?_;refine aC ?_;refine bo ?_;refine aF (H':=[ah t [(.pointer (some ⟨c,0,none⟩)),(.pointer (some ⟨t,1,none⟩)),v2] 102,ce v2 (bs++mj a i) 5,br c a g]) (dd _) (λ_ s=>by rw[show bs++mj a i=bs++ET i++fU ((a.at' i).reps.take k)by rw[az (by omega),Ex hup,aS]];exact ak [0,0,0] rfl s) ?_;refine bp rfl ?_;exact⟨_,hv2,rfl⟩;have hsok:=h.run hi hrun;refine pG ?_;refine nx J3 ?_;refine sr λ_ J11=>?_
 refine mv ?_;refine tp (iT rfl ut rfl rfl) ?_;refine nx J11 ?_;refine tl rfl ?_;refine sr λ_ J12=>?_
 refine mv ?_;refine hJ (aa rfl) rfl rfl rfl KK rfl (Jg (i:=i) hi hrun (oE sm (g.d i) (g.r i))) (λ_ s=>s) (λ_ _ _=>trivial) (λvR HR hR=>?_);obtain⟨rfl,rfl⟩:=hR;refine lQ (aa rfl) rfl rfl rfl se (λb6=>?_);change TL _ _ _ _ _ _ _ _ _ [ah b6 (ints ViewT.zero.flat) 32,br c a g,ah t [(.pointer (some ⟨c,0,none⟩)),A,v] 102,ce v (bs) 5];refine bP (vs:=ints sm.view.flat) (i:=0) (aa rfl) rfl rfl rfl rfl rfl (by rw[(am sm.view)];exact bf) (bj _) rfl rfl (by have h0:=(am ViewT.zero);have h1:=(am sm.view);omega) (cr ((am ViewT.zero).trans (am sm.view).symm)) rfl ?_;refine nx J12 ?_;refine ab λ_ J13=>?_
 refine ot (λw=>Frm F w∧w.heap[b6]?=some (.cells (ints sm.view.flat).toArray 32 (0,0))∧True) df rfl (λ_ s=>⟨ec s,s.block 0 (lb rfl) rfl,trivial⟩) ?_;refine ta 0 rfl (aZ (r:=0) rfl eE rfl aR rfl rfl) ?_;refine ta 1 rfl (eZ (v:=(.int .i64 (sm.view.epoch))) rfl Y3 rfl rfl (λ_ h=>h.2.1) (bb sm.view rfl)) ?_;refine ta 2 rfl (cp rfl rfl) ?_;refine ta 6 rfl (aZ (r:=1) rfl eE rfl aR rfl rfl) ?_;refine ta 7 rfl (eZ (v:=(.int .i64 (sm.view.members))) rfl Y3 rfl rfl (λ_ h=>h.2.1) (jW sm.view rfl)) ?_;refine cC [3] (by kernel_rfl) rfl ?_;refine aE rfl ?_ ?_;refine hJ (aa rfl) rfl rfl rfl PI rfl (Jg (i:=i) hi hrun (G4 sm (g.d i) (g.r i))) (λ_ s=>aB [1] rfl s) (λ_ _ _=>trivial) (λvR HR hR=>?_);obtain⟨rfl,rfl⟩:=hR;refine aq ?_;refine nf (λ_ s=>⟨ec s,s.block 1 (lb rfl) rfl,trivial⟩) ?_;refine ta 4 rfl (Qc (cs:=ints sm.own.flat) (v:=Value.int .i64 sm.own.version) rfl dU rfl Y3 rfl rfl (cx sm.own rfl)) ?_;refine cC [5,8] (by kernel_rfl) rfl ?_;refine aE rfl ?_ ?_;refine aQ (cells:=#[(.int .i64 (sm.view.epoch)),(.int .i64 (sm.own.version))]) (aa rfl) rfl rfl rfl iL oA rfl rfl rfl (by as_aux_lemma=>kernel_rfl) (λb32=>?_);refine aq ?_;refine nf (λ_ s=>⟨ec s,s.block 2 (lb rfl) rfl,trivial⟩) ?_;refine cC [8] (by kernel_rfl) rfl ?_;refine aE rfl ?_ ?_;refine hJ (aa rfl) rfl rfl rfl KJ rfl (nu sm.view.members) (λ_ s=>s) (λ_ _ _=>trivial) (λvR HR hR=>?_);obtain⟨_,rfl,rfl⟩:=hR;revert vR;intro us
 have hsl:=ww sm.view.members;refine aq ?_;refine nf (λ_ s=>⟨ec s,s.block 3 (lb rfl) rfl,trivial⟩) ?_;refine cC [9] (by kernel_rfl) rfl ?_;refine aE rfl ?_ ?_;refine ck (H':=[own us ((pq sm.view.members).length) (ints (pq sm.view.members)) 3 1,own (.slice (some ⟨b32,0,none⟩) (2) (2)) (2) ([.int .i64 sm.view.epoch, .int .i64 sm.own.version]) 3 1,br c a g,ah b6 (ints sm.view.flat) 32,ah t [(.pointer (some ⟨c,0,none⟩)),A,v] 102,ce v (bs) 5]) (λ_ s=>nr (g:=b32) (cap:=2) (nn:=2) (e:=3) (cur:=[.int .i64 sm.view.epoch, .int .i64 sm.own.version]) (xs:=[.int .i64 sm.view.epoch, .int .i64 sm.own.version]) 1 rfl rfl (by decide) (by decide) rfl rfl s) ?_;refine ci (k:=1) (news:=ints (pq sm.view.members)) (nn':=(DL sm).length) (xs':=ints (DL sm)) (aa rfl) rfl rfl rfl iL oA rfl rfl rfl rfl rfl rfl (λ_ s=>JR 0 rfl rfl s) (bj _) (by simp only[maxLen];omega) (by omega) (by simp only[DL,an];omega) rfl (λv36 ov36=>?_);refine aq ?_;refine nf (λ_ s=>⟨ec s,s.block 3 (lb rfl) rfl,trivial⟩) ?_;refine ta 10 rfl (pC rfl rfl) ?_;refine Qf (by kernel_rfl) ?_;refine ac J13 ?_;refine ad ?_;refine mv ?_;refine mv ?_;refine tp (Lo (a:=[109,97,99,104,105,110,101,32]++Lib.itoa ((i:Nat):Int)) (b:=[32,117,112]) rfl rfl rfl (by simp only[af,an,aw];omega)) ?_;refine mv ?_
 refine hJ (aa rfl) rfl rfl rfl Ep rfl (ke t c A v v36 (bs) ([109,97,99,104,105,110,101,32]++Lib.itoa ((i:Nat):Int)++[32,117,112]) (DL sm) hA hv xT (by have hul:=zW sm;simp only[af,an,aw];omega)) (λ_ s=>aB [4,4] rfl s) (λg_ d s_=>⟨nw (l:=DL sm) 1 rfl rfl g_ d s_,gO hF d⟩) (λvR HR hR=>?_);obtain⟨w1,hw1,rfl⟩:=hR;refine nx J2 ?_;refine sr λ_ J14=>?_
 refine mv ?_;refine tp (fZ rfl rfl) ?_;refine tp (aZ (r:=0) rfl Dq rfl Gt rfl rfl) ?_;refine tp (eZ (v:=(.pointer (some ⟨c,0,none⟩))) rfl M9 rfl rfl (dR 0 rfl rfl) rfl) ?_;refine mv ?_;refine hJ (aa rfl) rfl rfl rfl I2 rfl (rF (i:=i) h.ok (by omega) hi) (λ_ s=>aB [4] rfl s) (λ_ _ _=>trivial) (λvR HR hR=>?_);obtain⟨_,h1ur,rfl,rfl⟩:=hR;revert vR;intro ur h1ur;refine im 1 rfl rfl (λhlr _=>?_);have hrn:=h.reps hi;refine tp (dq rfl Dy rfl hlr) ?_;refine mv ?_;refine nx J14 ?_;refine au ?_
 refine bu (α:=(Nat)×(Value)) (λ⟨k,v2⟩=>k≤(a.at' i).reps.length∧v2.oneCell'=true) (λ⟨k,v2⟩=>[(0,(.pointer (some ⟨t,0,none⟩))),(47,ur),(48,(.int .i64 ((((a.at' i).reps.length:Nat):Int)))),(49,(.int .i64 (((k:Nat):Int))))]) (λ⟨k,v2⟩=>[ah t [(.pointer (some ⟨c,0,none⟩)),(.pointer (some ⟨t,1,none⟩)),v2] 102,ce v2 (bs++vd i sm++fU ((a.at' i).reps.take k)) 5,br c a g,own ur (((a.at' i).reps).length) (ints (List.flatMap ReplyT.flat ((a.at' i).reps))) 47 3]) (λ⟨k,v2⟩=>(a.at' i).reps.length-k) (0,w1)
  ⟨aN _,hw1⟩ (aL (aL (aL (bJ rfl (by congr 1) (ng _)))))
  (λ_ s=>by show bD [ah t [(.pointer (some ⟨c,0,none⟩)),(.pointer (some ⟨t,1,none⟩)),w1] 102,ce w1 (bs++vd i sm++fU ((a.at' i).reps.take 0)) 5,br c a g,own ur (((a.at' i).reps).length) (ints (List.flatMap ReplyT.flat ((a.at' i).reps))) 47 3] _;rw[show bs++vd i sm++fU ((a.at' i).reps.take 0)=bs++vd i sm from aP _];exact ak [2,2,0,0] rfl s) (λ⟨k,v2⟩ hinv=>?_)
 obtain⟨hk,hv2⟩:=hinv;have hrl:=nY (l:=(a.at' i).reps.take k) (λr hr=>h.rws i r (en hr));rw[bk]at hrl;have hhd:(vd i sm).length≤200:=zV hi;refine sr λ_ J15=>?_
 refine tp (Lr rfl rfl rfl) ?_;refine ao (λh50=>?_) (λh50=>?_);have hkr:k< (a.at' i).reps.length:=by omega
 obtain⟨r,hr⟩: ∃r,r=(a.at' i).reps[k]:=⟨_,rfl⟩;have hrm:r∈(a.at' i).reps:=by rw[hr];exact cR hkr
 have hfr:=s4 HX (a.at' i).reps hkr;rw[←hr]at hfr;refine g9 3 rfl rfl (by omega) (λgr capr hvr hcapr=>?_);refine nx J15 ?_;refine ab λ_ J16=>?_
 refine iS rfl ?_;refine aT ?_;refine ac J16 ?_;refine ab λ_ J17=>?_
 refine au ?_;refine sr λ_ J18=>?_
 refine tp (be (r:=k*3) hvr rfl Dy Ad rfl rfl (by omega) (by omega) (by omega)) ?_;refine tp (xY (vs:=ints r.flat) rfl HU rfl Ad rfl (fD 3 rfl hvr rfl) (pA _) hfr) ?_;refine lQ (aa rfl) rfl rfl rfl O8 (λb9=>?_);change TL _ _ _ _ _ _ _ _ _ [ah b9 (ints ReplyT.zero.flat) 47,ah t [(.pointer (some ⟨c,0,none⟩)),(.pointer (some ⟨t,1,none⟩)),v2] 102,ce v2 (bs++vd i sm++fU ((a.at' i).reps.take k)) 5,br c a g,own ur (((a.at' i).reps).length) (ints (List.flatMap ReplyT.flat ((a.at' i).reps))) 47 3];refine bP (vs:=ints r.flat) (i:=0) (aa rfl) rfl rfl rfl rfl rfl (by rw[(pA r)];exact Ad) (bj _) rfl rfl (by have h0:=(pA ReplyT.zero);have h1:=(pA r);omega) (cr ((pA ReplyT.zero).trans (pA r).symm)) rfl ?_;refine nx J18 ?_;refine ad ?_;refine mv ?_;refine tp (aZ (r:=0) rfl HU rfl aR rfl rfl) ?_;refine tp (eZ (v:=(.int .i64 (r.op))) rfl Y3 rfl rfl (dR 0 rfl rfl) (Qh r rfl)) ?_;refine tp (aZ (r:=1) rfl HU rfl Mr rfl rfl) ?_;refine tp (eZ (v:=(.int .i64 (r.err))) rfl Tryz.underlying45 rfl rfl (dR 0 rfl rfl) (PQ r rfl)) ?_;refine tp (aZ (r:=2) rfl HU rfl aR rfl rfl) ?_;refine tp (eZ (v:=(.int .i64 (r.value))) rfl Y3 rfl rfl (dR 0 rfl rfl) (Na r rfl)) ?_;refine aQ (cells:=#[(.int .i64 (r.op)),(.int .i64 (r.err)),(.int .i64 (r.value))]) (aa rfl) rfl rfl rfl iL oA rfl rfl rfl (by as_aux_lemma=>kernel_rfl) (λb60=>?_)
 change TL _ _ _ _ _ _ _ _ _ [ah b60 [(.int .i64 (r.op)),(.int .i64 (r.err)),(.int .i64 (r.value))] 3,ah b9 (ints r.flat) 47,ah t [(.pointer (some ⟨c,0,none⟩)),(.pointer (some ⟨t,1,none⟩)),v2] 102,ce v2 (bs++vd i sm++fU ((a.at' i).reps.take k)) 5,br c a g,own ur (((a.at' i).reps).length) (ints (List.flatMap ReplyT.flat ((a.at' i).reps))) 47 3];refine ck (H':=[own (.slice (some ⟨b60,0,none⟩) (3) (3)) (3) ([.int .i64 r.op, .int .i64 r.err, .int .i64 r.value]) 3 1,ah b9 (ints r.flat) 47,ah t [(.pointer (some ⟨c,0,none⟩)),(.pointer (some ⟨t,1,none⟩)),v2] 102,ce v2 (bs++vd i sm++fU ((a.at' i).reps.take k)) 5,br c a g,own ur (((a.at' i).reps).length) (ints (List.flatMap ReplyT.flat ((a.at' i).reps))) 47 3]) (λ_ s=>nr (g:=b60) (cap:=3) (nn:=3) (e:=3) (cur:=[.int .i64 r.op, .int .i64 r.err, .int .i64 r.value]) (xs:=[.int .i64 r.op, .int .i64 r.err, .int .i64 r.value]) 0 rfl rfl (by decide) (by decide) rfl rfl s) ?_;refine hJ (aa rfl) rfl rfl rfl Ep rfl (ke t c (.pointer (some ⟨t,1,none⟩)) v2 (.slice (some ⟨b60,0,none⟩) (3) (3)) (bs++vd i sm++fU ((a.at' i).reps.take k)) ([114,101,112,108,121]) [r.op,r.err,r.value] (Or.inr rfl) hv2 (qP (h.rws i r hrm)) (by simp only[af,an,aw];omega)) (λ_ s=>aB [2,2] rfl s) (λg_ d s_=>⟨nw (l:=[r.op,r.err,r.value]) 0 rfl rfl g_ d s_,gO hF d⟩) (λvR HR hR=>?_);obtain⟨w2,hw2,rfl⟩:=hR;refine aq ?_;refine ag ?_;refine ac J17 ?_;refine ad ?_
 refine tp (cq rfl rfl rfl (bF (by omega) (by omega))) ?_;refine mv ?_;refine aq ?_
 exact aJ ((k+1,w2):(Nat)×(Value)) ⟨by omega,hw2⟩ (by show(a.at' i).reps.length- (k+1)< (a.at' i).reps.length-k;omega)
  (aL (aL (aL (bJ rfl (by simp) (ng _)))))
  (λ_ s=>by show bD [ah t [(.pointer (some ⟨c,0,none⟩)),(.pointer (some ⟨t,1,none⟩)),w2] 102,ce w2 (bs++vd i sm++fU ((a.at' i).reps.take (k+1))) 5,br c a g,own ur (((a.at' i).reps).length) (ints (List.flatMap ReplyT.flat ((a.at' i).reps))) 47 3] _;rw[rE (a.at' i).reps hkr,←hr,←aS];exact ak [0,0,2,2] rfl s)
 refine nx J15 ?_;refine ab λ_ J19=>?_
 refine tl rfl ?_;refine aY ?_;refine aC ?_;refine aC ?_;refine bo ?_;refine aF (H':=[ah t [(.pointer (some ⟨c,0,none⟩)),(.pointer (some ⟨t,1,none⟩)),v2] 102,ce v2 (bs++mj a i) 5,br c a g]) (dd _) (λ_ s=>by rw[show bs++mj a i=bs++vd i sm++fU ((a.at' i).reps.take k)by rw[az (by omega),xc hrun hup,aS]];exact ak [0,0,0] rfl s) ?_;refine bp rfl ?_;exact⟨_,hv2,rfl⟩;exact bz;exact bz;refine aE rfl ?_ ?_;refine hJ (aa rfl) rfl rfl rfl KJ rfl (nu sm.view.members) (λ_ s=>s) (λ_ _ _=>trivial) (λvR HR hR=>?_);obtain⟨_,rfl,rfl⟩:=hR;revert vR;intro us;have hsl:=ww sm.view.members;refine aq ?_;refine nf (λ_ s=>⟨ec s,s.block 2 (lb rfl) rfl,trivial⟩) ?_;refine cC [5] (by kernel_rfl) rfl ?_;refine aE rfl ?_ ?_;refine aQ (cells:=#[(.int .i64 (sm.view.epoch)),(.int .i64 (sm.own.version))]) (aa rfl) rfl rfl rfl iL oA rfl rfl rfl (by as_aux_lemma=>kernel_rfl) (λb32=>?_);refine aq ?_;refine nf (λ_ s=>⟨ec s,s.block 3 (lb rfl) rfl,trivial⟩) ?_;refine cC [9] (by kernel_rfl) rfl ?_;refine aE rfl ?_ ?_
 refine ck (H':=[own (.slice (some ⟨b32,0,none⟩) (2) (2)) (2) ([.int .i64 sm.view.epoch, .int .i64 sm.own.version]) 3 1,own us ((pq sm.view.members).length) (ints (pq sm.view.members)) 3 1,br c a g,ah b6 (ints sm.view.flat) 32,ah t [(.pointer (some ⟨c,0,none⟩)),A,v] 102,ce v (bs) 5]) (λ_ s=>nr (g:=b32) (cap:=2) (nn:=2) (e:=3) (cur:=[.int .i64 sm.view.epoch, .int .i64 sm.own.version]) (xs:=[.int .i64 sm.view.epoch, .int .i64 sm.own.version]) 0 rfl rfl (by decide) (by decide) rfl rfl s) ?_;refine ci (k:=0) (news:=ints (pq sm.view.members)) (nn':=(DL sm).length) (xs':=ints (DL sm)) (aa rfl) rfl rfl rfl iL oA rfl rfl rfl rfl rfl rfl (λ_ s=>JR 1 rfl rfl s) (bj _) (by simp only[maxLen];omega) (by omega) (by simp only[DL,an];omega) rfl (λv36 ov36=>?_);refine aq ?_;refine nf (λ_ s=>⟨ec s,s.block 3 (lb rfl) rfl,trivial⟩) ?_;refine ta 10 rfl (pC rfl rfl) ?_;refine Qf (by kernel_rfl) ?_;refine ac J13 ?_;refine ad ?_;refine mv ?_;refine mv ?_;refine tp (Lo (a:=[109,97,99,104,105,110,101,32]++Lib.itoa ((i:Nat):Int)) (b:=[32,117,112]) rfl rfl rfl (by simp only[af,an,aw];omega)) ?_;refine mv ?_
 refine hJ (aa rfl) rfl rfl rfl Ep rfl (ke t c A v v36 (bs) ([109,97,99,104,105,110,101,32]++Lib.itoa ((i:Nat):Int)++[32,117,112]) (DL sm) hA hv xT (by have hul:=zW sm;simp only[af,an,aw];omega)) (λ_ s=>aB [4,4] rfl s) (λg_ d s_=>⟨nw (l:=DL sm) 0 rfl rfl g_ d s_,gO hF d⟩) (λvR HR hR=>?_);obtain⟨w1,hw1,rfl⟩:=hR;refine nx J2 ?_;refine sr λ_ J20=>?_
 refine mv ?_;refine tp (fZ rfl rfl) ?_;refine tp (aZ (r:=0) rfl Dq rfl Gt rfl rfl) ?_;refine tp (eZ (v:=(.pointer (some ⟨c,0,none⟩))) rfl M9 rfl rfl (dR 0 rfl rfl) rfl) ?_;refine mv ?_;refine hJ (aa rfl) rfl rfl rfl I2 rfl (rF (i:=i) h.ok (by omega) hi) (λ_ s=>aB [4] rfl s) (λ_ _ _=>trivial) (λvR HR hR=>?_);obtain⟨_,h1ur,rfl,rfl⟩:=hR;revert vR;intro ur h1ur;refine im 1 rfl rfl (λhlr _=>?_);have hrn:=h.reps hi;refine tp (dq rfl Dy rfl hlr) ?_;refine mv ?_;refine nx J20 ?_;refine au ?_
 refine bu (α:=(Nat)×(Value)) (λ⟨k,v2⟩=>k≤(a.at' i).reps.length∧v2.oneCell'=true) (λ⟨k,v2⟩=>[(0,(.pointer (some ⟨t,0,none⟩))),(47,ur),(48,(.int .i64 ((((a.at' i).reps.length:Nat):Int)))),(49,(.int .i64 (((k:Nat):Int))))]) (λ⟨k,v2⟩=>[ah t [(.pointer (some ⟨c,0,none⟩)),(.pointer (some ⟨t,1,none⟩)),v2] 102,ce v2 (bs++vd i sm++fU ((a.at' i).reps.take k)) 5,br c a g,own ur (((a.at' i).reps).length) (ints (List.flatMap ReplyT.flat ((a.at' i).reps))) 47 3]) (λ⟨k,v2⟩=>(a.at' i).reps.length-k) (0,w1)
  ⟨aN _,hw1⟩ (aL (aL (aL (bJ rfl (by congr 1) (ng _)))))
  (λ_ s=>by show bD [ah t [(.pointer (some ⟨c,0,none⟩)),(.pointer (some ⟨t,1,none⟩)),w1] 102,ce w1 (bs++vd i sm++fU ((a.at' i).reps.take 0)) 5,br c a g,own ur (((a.at' i).reps).length) (ints (List.flatMap ReplyT.flat ((a.at' i).reps))) 47 3] _;rw[show bs++vd i sm++fU ((a.at' i).reps.take 0)=bs++vd i sm from aP _];exact ak [2,2,0,0] rfl s) (λ⟨k,v2⟩ hinv=>?_)
 obtain⟨hk,hv2⟩:=hinv;have hrl:=nY (l:=(a.at' i).reps.take k) (λr hr=>h.rws i r (en hr));rw[bk]at hrl;have hhd:(vd i sm).length≤200:=zV hi;refine sr λ_ J21=>?_
 refine tp (Lr rfl rfl rfl) ?_;refine ao (λh50=>?_) (λh50=>?_);have hkr:k< (a.at' i).reps.length:=by omega
 obtain⟨r,hr⟩: ∃r,r=(a.at' i).reps[k]:=⟨_,rfl⟩;have hrm:r∈(a.at' i).reps:=by rw[hr];exact cR hkr
 have hfr:=s4 HX (a.at' i).reps hkr;rw[←hr]at hfr;refine g9 3 rfl rfl (by omega) (λgr capr hvr hcapr=>?_);refine nx J21 ?_;refine ab λ_ J22=>?_
 refine iS rfl ?_;refine aT ?_;refine ac J22 ?_;refine ab λ_ J23=>?_
 refine au ?_;refine sr λ_ J24=>?_
 refine tp (be (r:=k*3) hvr rfl Dy Ad rfl rfl (by omega) (by omega) (by omega)) ?_;refine tp (xY (vs:=ints r.flat) rfl HU rfl Ad rfl (fD 3 rfl hvr rfl) (pA _) hfr) ?_;refine lQ (aa rfl) rfl rfl rfl O8 (λb9=>?_);change TL _ _ _ _ _ _ _ _ _ [ah b9 (ints ReplyT.zero.flat) 47,ah t [(.pointer (some ⟨c,0,none⟩)),(.pointer (some ⟨t,1,none⟩)),v2] 102,ce v2 (bs++vd i sm++fU ((a.at' i).reps.take k)) 5,br c a g,own ur (((a.at' i).reps).length) (ints (List.flatMap ReplyT.flat ((a.at' i).reps))) 47 3];refine bP (vs:=ints r.flat) (i:=0) (aa rfl) rfl rfl rfl rfl rfl (by rw[(pA r)];exact Ad) (bj _) rfl rfl (by have h0:=(pA ReplyT.zero);have h1:=(pA r);omega) (cr ((pA ReplyT.zero).trans (pA r).symm)) rfl ?_;refine nx J24 ?_;refine ad ?_;refine mv ?_;refine tp (aZ (r:=0) rfl HU rfl aR rfl rfl) ?_;refine tp (eZ (v:=(.int .i64 (r.op))) rfl Y3 rfl rfl (dR 0 rfl rfl) (Qh r rfl)) ?_;refine tp (aZ (r:=1) rfl HU rfl Mr rfl rfl) ?_;refine tp (eZ (v:=(.int .i64 (r.err))) rfl Tryz.underlying45 rfl rfl (dR 0 rfl rfl) (PQ r rfl)) ?_;refine tp (aZ (r:=2) rfl HU rfl aR rfl rfl) ?_;refine tp (eZ (v:=(.int .i64 (r.value))) rfl Y3 rfl rfl (dR 0 rfl rfl) (Na r rfl)) ?_;refine aQ (cells:=#[(.int .i64 (r.op)),(.int .i64 (r.err)),(.int .i64 (r.value))]) (aa rfl) rfl rfl rfl iL oA rfl rfl rfl (by as_aux_lemma=>kernel_rfl) (λb60=>?_)
 change TL _ _ _ _ _ _ _ _ _ [ah b60 [(.int .i64 (r.op)),(.int .i64 (r.err)),(.int .i64 (r.value))] 3,ah b9 (ints r.flat) 47,ah t [(.pointer (some ⟨c,0,none⟩)),(.pointer (some ⟨t,1,none⟩)),v2] 102,ce v2 (bs++vd i sm++fU ((a.at' i).reps.take k)) 5,br c a g,own ur (((a.at' i).reps).length) (ints (List.flatMap ReplyT.flat ((a.at' i).reps))) 47 3];refine ck (H':=[own (.slice (some ⟨b60,0,none⟩) (3) (3)) (3) ([.int .i64 r.op, .int .i64 r.err, .int .i64 r.value]) 3 1,ah b9 (ints r.flat) 47,ah t [(.pointer (some ⟨c,0,none⟩)),(.pointer (some ⟨t,1,none⟩)),v2] 102,ce v2 (bs++vd i sm++fU ((a.at' i).reps.take k)) 5,br c a g,own ur (((a.at' i).reps).length) (ints (List.flatMap ReplyT.flat ((a.at' i).reps))) 47 3]) (λ_ s=>nr (g:=b60) (cap:=3) (nn:=3) (e:=3) (cur:=[.int .i64 r.op, .int .i64 r.err, .int .i64 r.value]) (xs:=[.int .i64 r.op, .int .i64 r.err, .int .i64 r.value]) 0 rfl rfl (by decide) (by decide) rfl rfl s) ?_;refine hJ (aa rfl) rfl rfl rfl Ep rfl (ke t c (.pointer (some ⟨t,1,none⟩)) v2 (.slice (some ⟨b60,0,none⟩) (3) (3)) (bs++vd i sm++fU ((a.at' i).reps.take k)) ([114,101,112,108,121]) [r.op,r.err,r.value] (Or.inr rfl) hv2 (qP (h.rws i r hrm)) (by simp only[af,an,aw];omega)) (λ_ s=>aB [2,2] rfl s) (λg_ d s_=>⟨nw (l:=[r.op,r.err,r.value]) 0 rfl rfl g_ d s_,gO hF d⟩) (λvR HR hR=>?_);obtain⟨w2,hw2,rfl⟩:=hR;refine aq ?_;refine ag ?_;refine ac J23 ?_;refine ad ?_
 refine tp (cq rfl rfl rfl (bF (by omega) (by omega))) ?_;refine mv ?_;refine aq ?_
 exact aJ ((k+1,w2):(Nat)×(Value)) ⟨by omega,hw2⟩ (by show(a.at' i).reps.length- (k+1)< (a.at' i).reps.length-k;omega)
  (aL (aL (aL (bJ rfl (by simp) (ng _)))))
  (λ_ s=>by show bD [ah t [(.pointer (some ⟨c,0,none⟩)),(.pointer (some ⟨t,1,none⟩)),w2] 102,ce w2 (bs++vd i sm++fU ((a.at' i).reps.take (k+1))) 5,br c a g,own ur (((a.at' i).reps).length) (ints (List.flatMap ReplyT.flat ((a.at' i).reps))) 47 3] _;rw[rE (a.at' i).reps hkr,←hr,←aS];exact ak [0,0,2,2] rfl s)
 refine nx J21 ?_;refine ab λ_ J25=>?_
 refine tl rfl ?_;refine aY ?_;refine aC ?_;refine aC ?_;refine bo ?_;refine aF (H':=[ah t [(.pointer (some ⟨c,0,none⟩)),(.pointer (some ⟨t,1,none⟩)),v2] 102,ce v2 (bs++mj a i) 5,br c a g]) (dd _) (λ_ s=>by rw[show bs++mj a i=bs++vd i sm++fU ((a.at' i).reps.take k)by rw[az (by omega),xc hrun hup,aS]];exact ak [0,0,0] rfl s) ?_;refine bp rfl ?_;exact⟨_,hv2,rfl⟩;exact bz;exact bz;exact bz;exact bz
def JX(a:CL)(k:Nat):Vector Int 5:=⟨(qG (bh a) ((k:Nat):Int) (fI a) 5).toArray,by simp[iH]⟩
theorem BP(a:CL)(k:Nat):(JX a k).toList=qG (bh a) ((k:Nat):Int) (fI a) 5:=by simp[JX]
theorem La(a:CL)(k:Nat):yv a k=((k:Nat):Int)::gA (bh a) ((k:Nat):Int)::(JX a k).toList:=by rw[BP];rfl
theorem Gq(a:CL):0< (mg a).length:=by
 have:0< (E9 a 3).length:=by unfold E9 oe;simp only[af,an];omega
 rw[mg,af,rR,af];omega
theorem Gr{n:Nat}{a:CL}(h:TOk n a)(hn:n≤1200):(mg a).length≤1000000:=by
 have h1:=rJ h (i:=5) (by omega);have h2:=ui a (k:=4) (by omega);rw[mg,af];omega
theorem wh(c:Nat)(a:CL)(g:CX)(n:Nat)(h:TOk n a)(hn:n≤1200):
 DT 19 #[(.pointer (some ⟨c,0,none⟩))] (TabR) [br c a g] (RI (mp (mg a)) [br c a g]):=by
 refine BD 40 Tryz.func19 rfl rfl rfl λw0 F hF=>sr λ_ J1=>PS ?_
 refine nx J1 (sr λ_ J2=>PS ?_);refine BV #[(.pointer (some ⟨c,0,none⟩)),(.pointer none),(.slice none 0 0)] ?_;refine XB λb10=>?_
 refine PS ?_;refine nx J2 (ab λ_ J3=>sr λ_ J4=>PS ?_);refine nx J4 (au ?_)
 refine bu (α:=(Nat)×(Value)×(Value)) (λ⟨i,A,v⟩=>i≤5∧(A= .pointer none∨A=(.pointer (some ⟨b10,1,none⟩)))∧v.oneCell'=true∧(0<i→A=(.pointer (some ⟨b10,1,none⟩)))) (λ⟨i,A,v⟩=>[(0,(.pointer (some ⟨c,0,none⟩))),(2,(mp ([]))),(3,(.pointer (some ⟨b10,0,none⟩))),(11,(.int .i64 (((i:Nat):Int))))]) (λ⟨i,A,v⟩=>[ah b10 [(.pointer (some ⟨c,0,none⟩)),A,v] 102,ce v (jI a i) 5,br c a g]) (λ⟨i,A,v⟩=>5-i) (0, .pointer none, .slice none 0 0)
  ⟨aN _,Or.inl rfl,rfl,λh=>absurd h (by decide)⟩ SB
  (λ_ s=>aB [1,0,0] rfl (fP 5 1 s)) (λ⟨i,A,v⟩ hinv=>?_)
 obtain⟨hi,hA,hv,hself⟩:=hinv;have hml:=rJ h (i:=i) (by omega);have hml5:i* (200+72*n)≤5* (200+72*n):=gI _ (by omega);refine sr λ_ J5=>PS ?_
 refine ao ?_ ?_<;>intro h12;refine nx J5 (ab λ_ J6=>CY (qx J6 (ab λ_ J7=>au (sr λ_ J8=>P2 ?_))));refine nx J8 (ad (P2 ?_));refine CQ PA (Bu b10 c A v (jI a i) a g i (by omega) hA hv (by omega) n h hn) ID (λ_ d _=>gO hF d) λvR HR hR=>?_
 obtain⟨w1,hw1,rfl⟩:=hR;refine aq (ag (ac J7 (ad (AD ?_))));refine PS ?_;refine aq ?_
 exact aJ ((i+1,(.pointer (some ⟨b10,1,none⟩)),w1):(Nat)×(Value)×(Value)) ⟨by omega,Or.inr rfl,hw1,λ_=>rfl⟩ (by show 5- (i+1)<5-i;omega)
  SB
  (λ_ s=>by
   show bD [ah b10 [(.pointer (some ⟨c,0,none⟩)),(.pointer (some ⟨b10,1,none⟩)),w1] 102,ce w1 (jI a (i+1)) 5,br c a g] _;rw[uN]
   exact ak [0,0,0] rfl s)
 obtain rfl:A=(.pointer (some ⟨b10,1,none⟩)):=hself (by omega);obtain rfl:i=5:=by omega
 refine nx J5 (ab λ_ J9=>CN (aY (aC (aC (bo (ac J3 (sr λ_ J10=>PS ?_)))))));refine CR N6 (uy c n a g h.ok) (SM [2]) λvR HR hR=>?_
 obtain⟨bt,d,r,rfl,rfl⟩:=hR;refine PS ?_;refine nx J10 (ab λ_ J11=>sr λ_ J12=>PS ?_);refine nx J12 (au ?_)
 refine bu (α:=(Nat)×(Value)) (λ⟨k,v⟩=>k≤4∧v.oneCell'=true) (λ⟨k,v⟩=>[(0,(.pointer (some ⟨c,0,none⟩))),(2,(mp ([]))),(3,(.pointer (some ⟨b10,0,none⟩))),(5,(.pointer (some ⟨bt,0,none⟩))),(20,(.int .i64 (((k:Nat):Int))))]) (λ⟨k,v⟩=>[ah b10 [(.pointer (some ⟨c,0,none⟩)),(.pointer (some ⟨b10,1,none⟩)),v] 102,ce v (jI a 5++pi a k) 5,br c a g,ah bt (ints (bh a).flat) 85]) (λ⟨k,v⟩=>4-k) (0,v)
  ⟨aN _,hv⟩ SB
  (λ_ s=>by
  show bD [ah b10 [(.pointer (some ⟨c,0,none⟩)),(.pointer (some ⟨b10,1,none⟩)),v] 102,ce v (jI a 5++pi a 0) 5,br c a g,ah bt (ints (bh a).flat) 85] _;rw[show jI a 5++pi a 0=jI a 5 from aP _]
  exact ak [3,3,0,1] rfl s) (λ⟨k,v⟩ hinv=>?_)
 obtain⟨hk,hv⟩:=hinv;have hcl:=ui a (k:=k) (by omega);refine sr λ_ J13=>PS ?_
 refine ao ?_ ?_<;>intro h21;refine nx J13 (ab λ_ J14=>CY (qx J14 (ab λ_ J15=>au (sr λ_ J16=>P2 ?_))));refine nx J16 (sr λ_ J17=>P2 ?_);refine CR PH (Ag c n a g h.ok ((k:Nat):Int)) (SM [2]) λvR HR hR=>?_
 obtain⟨_,d2,r2,hv3,rfl⟩:=hR.resolve_left (λq=>q.1 (by omega));rw[←BP]at hv3;obtain rfl:vR=(.agg (ints (JX a k).toList).toArray):=hv3;refine XZ Nl (ints (#v[0,0,0,0,0]).toList) λb7=>?_
 refine bP (vs:=ints (JX a k).toList) (i:=0) (aa rfl) rfl rfl rfl rfl rfl (by rw[(di (JX a k))];exact eV) (bj _) rfl rfl (by have h0:=(di (#v[0,0,0,0,0]));have h1:=(di (JX a k));omega) (cr ((di (#v[0,0,0,0,0])).trans (di (JX a k)).symm)) rfl (nx J17 (D0 df ?_));refine PD 0 ?_;refine PD 1 ?_;refine PD 2 ?_;refine PD 3 ?_;refine ta 6 rfl (lT rfl jK aR rfl) ?_;refine AL 4 ?_;refine CE N0 (qo bt 0 85 (λx=>ints x.flat) Arnd.whole (bh a) ((k:Nat):Int)) (SM [5]) ?_;refine EN (AL 5 ?_);refine aQ (cells:=#[(.int .i64 (((k:Nat):Int))),(.int .i64 ((gA (bh a) ((k:Nat):Int))))]) (aa rfl) rfl rfl rfl iL oA rfl rfl rfl (by as_aux_lemma=>kernel_rfl) (λb31=>EN (AL 7 ?_))
 refine ck (H':=[own (.slice (some ⟨b31,0,none⟩) (2) (2)) (2) ([.int .i64 ((k:Nat):Int), .int .i64 (gA (bh a) ((k:Nat):Int))]) 3 1,ah bt (ints (bh a).flat) 85,ah b7 (ints (JX a k).toList) 30,br c a g,nM a d2 r2,ah b10 [(.pointer (some ⟨c,0,none⟩)),(.pointer (some ⟨b10,1,none⟩)),v] 102,ce v (jI a 5++pi a k) 5]) (λ_ s=>nr (g:=b31) (cap:=2) (nn:=2) (e:=3) (cur:=[.int .i64 ((k:Nat):Int), .int .i64 (gA (bh a) ((k:Nat):Int))]) (xs:=[.int .i64 ((k:Nat):Int), .int .i64 (gA (bh a) ((k:Nat):Int))]) 0 rfl rfl (by decide) (by decide) rfl rfl s) (ci (k:=0) (news:=ints (JX a k).toList) (nn':=(yv a k).length) (xs':=ints (yv a k)) (aa rfl) rfl rfl rfl iL oA rfl rfl rfl rfl rfl rfl (λ_ _=>gS (by rw[ints_length,aA]) (RO 2) (by rw[aV];exact az (aK _))) (bj _) (by decide) (by decide) (by rw[xK]) (by rw[La];rfl) (λv33 ov33=>EN (AL 8 ?_)));refine CQ Ep (ke b10 c (.pointer (some ⟨b10,1,none⟩)) v v33 (jI a 5++pi a k) cW (yv a k) (Or.inr rfl) hv (zH a (by omega)) (by rw[af,xK];simp only[cW,an,aw];omega)) (SM [5,5]) (λg_ d s_=>⟨nw (l:=yv a k) 0 rfl rfl g_ d s_,gO hF d⟩) λvR HR hR=>?_
 obtain⟨w2,hw2,rfl⟩:=hR;refine EN (DN (ag (ac J15 (ad (AD ?_)))));refine PS ?_;refine aq ?_
 exact aJ ((k+1,w2):(Nat)×(Value)) ⟨by omega,hw2⟩ (by show 4- (k+1)<4-k;omega)
  SB
  (λ_ s=>by
   show bD [ah b10 [(.pointer (some ⟨c,0,none⟩)),(.pointer (some ⟨b10,1,none⟩)),w2] 102,ce w2 (jI a 5++pi a (k+1)) 5,br c a g,ah bt (ints (bh a).flat) 85] _;rw[rR,←aS]
   exact ak [0,0,3,1] rfl s)
 obtain rfl:k=4:=by omega
 refine nx J13 (ab λ_ J18=>CN (aY (aC (aC (bo (ac J11 (sr λ_ J19=>P2 ?_)))))));refine FA 1 Dq wm ?_;refine CE Pz (BC b10 c v (mg a) (Gq a) (Gr h hn)) ID ?_;refine PS ?_;exact nx J19 (ai (WK [1] (av rfl rfl ⟨rfl,rfl⟩)))
theorem pS(c:Nat)(a:CL)(n:Nat)(h:TOk n a)(hn:n≤1200):DT 19 #[.pointer (some ⟨c,0,none⟩)] TabR [gF c a] (RI (mp (mg a)) [gF c a]):=
 Leg.Does.ex (A':=λg=>[br c a g]) (λh s=>JC s) λg=>Leg.Does.fold (wh c a g n h hn) λe H hp=>by
  cases e with
  |returned v=>obtain⟨rfl,rfl⟩:=hp;exact⟨_,λ_ s=>HJ s,rfl,rfl⟩
  |panicked c=>exact hp.elim
  |outgrown=>exact hp.elim
end Go.Proofs.YtfocodjhmkokpaaGreatDoor
end

section
namespace Api
open Go Leg Codec Wal
theorem M5: ∀b:Fin 256,qR .u8 ((b.val:Nat):Int) 15=((b.val%16:Nat):Int):=by decide+kernel
theorem Ns: ∀b:Fin 256,((b.val:Nat):Int).fdiv (2^min (4:Int).toNat IntKind.u8.bits)=((b.val / 16:Nat):Int):=by decide+kernel
def jJ(b:UInt8):Int:=((b.toNat%16:Nat):Int)
def kg(b:UInt8):Int:=((b.toNat / 16:Nat):Int)
def n8(b:UInt8):Int:=((b.toNat:Nat):Int)
def ib(b0 b1 b2 b3 b4:UInt8):OpT:=
 if jJ b0=4 then⟨jJ b0,kg b0,jJ b1,kg b1,n8 b2,⟨jJ b3,kg b3,n8 b4⟩,0,0,0⟩
 else if jJ b0=10 then⟨jJ b0,kg b0,jJ b1,kg b1,n8 b2, .zero,n8 b3,n8 b4-1,n8 b2⟩
 else⟨jJ b0,kg b0,jJ b1,kg b1,n8 b2, .zero,0,0,0⟩
def iN:List UInt8→List OpT
 |b0::b1::b2::b3::b4::r=>ib b0 b1 b2 b3 b4::iN r
 |_=>[]
def sD(o:OpT):OpT:=
 if o.kind%16=4 then⟨o.kind%16,o.at'%16,o.to'%16,o.key%16,o.n%256,⟨o.change.kind%16,o.change.who%16,o.change.heir%256⟩,0,0,0⟩
 else if o.kind%16=10 then⟨o.kind%16,o.at'%16,o.to'%16,o.key%16,o.n%256, .zero,o.mask%256,(o.torn+1)%256-1,o.n%256⟩
 else⟨o.kind%16,o.at'%16,o.to'%16,o.key%16,o.n%256, .zero,0,0,0⟩
theorem n6{r:List UInt8}(h:5≤r.length):iN r=ib (r.getD 0 0) (r.getD 1 0) (r.getD 2 0) (r.getD 3 0) (r.getD 4 0)::iN (r.drop 5):=by
 match r,h with
 |b0::b1::b2::b3::b4::r,_=>rfl
theorem tU{r:List UInt8}(h:r.length<5):iN r=[]:=by
 match r,h with
 | [],_| [_],_| [_,_],_| [_,_,_],_| [_,_,_,_],_=>rfl
theorem IN(n:Nat): ∀r:List UInt8,r.length=n→(iN r).length=n / 5:=by
 induction n using Nat.strongRecOn with
 |ind n ih=>
  intro r hr
  by_cases h:5≤r.length
  · rw[n6 h,an,ih (n-5) (by omega) (r.drop 5) (by rw[bE];omega)];omega
  · rw[tU (by omega)];simp;omega
theorem Ez(b:UInt8):0≤jJ b∧jJ b<16:=by unfold jJ;omega
theorem EL(b:UInt8):0≤kg b∧kg b<16:=by unfold kg;have:=b.toNat_lt;omega
theorem Co(b:UInt8):0≤n8 b∧n8 b<256:=by unfold n8;have:=b.toNat_lt;omega
theorem Jy(b0 b1 b2 b3 b4:UInt8):sD (ib b0 b1 b2 b3 b4)=ib b0 b1 b2 b3 b4:=by
 have h0:=Ez b0;have h1:=EL b0;have h2:=Ez b1;have h3:=EL b1;have h4:=Co b2;have h5:=Ez b3;have h6:=EL b3;have h7:=Co b3;have h8:=Co b4;unfold ib;split
 · rename_i c
   unfold sD;simp only;rw[if_pos (by omega)];simp only[OpT.mk.injEq,ChangeT.mk.injEq,and_true];omega
 split
 · rename_i c
   unfold sD;simp only;rw[if_neg (by omega),if_pos (by omega)];simp only[OpT.mk.injEq,true_and];omega
 · rename_i c c2
   unfold sD;simp only;rw[if_neg (by omega),if_neg (by omega)];simp only[OpT.mk.injEq,and_true];omega
theorem G7(n:Nat): ∀r:List UInt8,r.length=n→∀o∈iN r,sD o=o:=by
 induction n using Nat.strongRecOn with
 |ind n ih=>
  intro r hr o ho
  by_cases h:5≤r.length
  · rw[n6 h]at ho
    rcases bN.1 ho with rfl|ho
    · exact Jy _ _ _ _ _
    · exact ih (n-5) (by omega) (r.drop 5) (by rw[bE];omega) o ho
  · rw[tU (by omega)]at ho;cases ho
theorem Ij(o:OpT): ∀n∈(sD o).flat, -1≤n∧n<256:=by
 intro n hn;unfold sD at hn;split at hn
 · simp only[OpT.flat,ChangeT.flat,iq,bI,bN,List.not_mem_nil,or_false]at hn
   omega
 split at hn
 · simp only[OpT.flat,ChangeT.flat,ChangeT.zero,iq,bI,bN,List.not_mem_nil,or_false]at hn
   omega
 · simp only[OpT.flat,ChangeT.flat,ChangeT.zero,iq,bI,bN,List.not_mem_nil,or_false]at hn
   omega
theorem Ii(o:OpT):WF (sD o).flat:=λn hn=>by
 have:=Ij o n hn;have m1:IntKind.i64.min= -9223372036854775808:=by decide
 have m2:IntKind.i64.max=9223372036854775807:=by decide
 simp only[Lit.wf,m1,m2,ax,decide_eq_true_eq];omega
theorem IP(bs:List UInt8){k:Nat}(h:k< (iN bs).length):sD (iN bs)[k]=(iN bs)[k]:=G7 _ bs rfl _ (cR h)
theorem Ky(bs:List UInt8){k:Nat}(h:k< (iN bs).length):WF ((iN bs)[k]).flat:=by rw[←IP bs h];exact Ii _
theorem OpT.flat_length(o:OpT):o.flat.length=11:=by simp[OpT.flat,ChangeT.flat]
end Api
end
