/-
  Joined texts:what a statement's proof reaches.
-/
import Derived.Test.YtfocodjhmkokpaaGreatDoorPTL7
set_option maxHeartbeats 8000000
set_option maxRecDepth 100000
set_option linter.unusedSimpArgs false
set_option linter.unusedVariables false
section
namespace Go.Proofs.YtfocodjhmkokpaaGreatDoor
open Go Leg Codec Api Dsk Wal
theorem BB(c n i:Nat)(D M P:Nat→Value)(hi:i<5)(to' k:Int)(o:OpT)(hv:dL ((i:Nat):Int) to'=false)(bs:List Nat):
 DT 46 #[(.pointer (some ⟨c,0,none⟩)),(.agg (ints (OpT.mk k ((i:Nat):Int) to' o.key o.n o.change o.mask o.torn o.cut).flat).toArray)] T0 [ah c (eN n D M P) 73,ah n (fb bs) 135] (RI (.int .i64 5) [ah c (eN n D M P) 73,ah n (fb bs) 135]):=by
 refine BD 91 Tryz.func46 rfl rfl rfl λw0 F hF=>sr λ_ J1=>XY (ints (OpT.mk k ((i:Nat):Int) to' o.key o.n o.change o.mask o.torn o.cut).flat) λb3=>?_
 refine PS ?_;refine nx J1 (ab λ_ J2=>D2 0 1 dp ?_);refine PD 0 ?_;refine PD 1 ?_;refine FD 2 0 pL BI ?_;refine LX 3 KE (.pointer (some ⟨n,0,none⟩)) ?_ (hc:=by exact Dt n D M P);refine FD 4 1 ff aR ?_;refine LX 5 Y3 (.int .i64 (((i:Nat):Int))) ?_ (hc:=by exact bN _ rfl);refine FD 6 2 ff aR ?_;refine LX 7 Y3 (.int .i64 (to')) ?_ (hc:=by exact iA _ rfl);refine AL 8 ?_;refine CR EI (mN n bs ((i:Nat):Int) to') (SM [2]) λvR HR hR=>?_
 obtain⟨hw,rfl⟩:=hR;obtain⟨_,rfl⟩:dL ((i:Nat):Int) to'=false∧vR= .pointer none:=hw.resolve_left (λq=>by rw[hv]at q;cases q.1);refine EN (PD 9 ?_);refine DN (ac J2 (ab λ_ J3=>sr λ_ J4=>PS ?_));refine tp (sc rfl Bn rfl rfl) ?_;refine nx J4 (CY (sr λ_ J5=>PS ?_));exact nx J5 (ai (af (WK [2,0] (av rfl rfl ⟨rfl,rfl⟩))))
theorem pQ{n i j:Nat}{bs:List Nat}{W:List (List MsgT)}{l:List MsgT}{H:List HP}{h:Hl}(hv:dL ((i:Nat):Int) ((j:Nat):Int)=true)(hW:W.length=25)(q:bD (ib 184 5 (bs.getD (bC ((i:Nat):Int) ((j:Nat):Int)) 0) (List.map (kH (bC ((i:Nat):Int) ((j:Nat):Int))) l)::gn 184 5 bs (c8 W) (bC ((i:Nat):Int) ((j:Nat):Int))::ah n (fb bs) 135::H) h):bD (eJ 135 184 5 n (c8 (W.set (bC ((i:Nat):Int) ((j:Nat):Int)) l))::H) h:=by
 have q2:=tC hv (pR W) q;rw[wc W (iv hv).1 hW]at q2;exact bp (p:=λbs:List Nat=>[ah n (fb bs) 135,fL 184 5 bs (c8 (W.set (bC ((i:Nat):Int) ((j:Nat):Int)) l))]) bs (ei (List.Perm.swap _ _ _) q2)
theorem zX(c n i:Nat)(D M P:Nat→Value)(hi:i<5)(j:Nat)(hj:j<5)(hv:dL ((i:Nat):Int) ((j:Nat):Int)=true)(W:List (List MsgT))(hW:W.length=25)(l:List MsgT)(hl:W.getD (bC ((i:Nat):Int) ((j:Nat):Int)) []=l)(h8:l.length≤8)(hlen: ∀m∈l,0< (dR m).length)(o:OpT)(k:Int)(hn:l=[])(bs:List Nat):
 DT 46 #[(.pointer (some ⟨c,0,none⟩)),(.agg (ints (OpT.mk k ((i:Nat):Int) ((j:Nat):Int) o.key o.n o.change o.mask o.torn o.cut).flat).toArray)] T0 [ah n (fb bs) 135,fL 184 5 bs (c8 W),ah c (eN n D M P) 73] (RI (.int .i64 10) [ah c (eN n D M P) 73,eJ 135 184 5 n (c8 (W.set (bC ((i:Nat):Int) ((j:Nat):Int)) l))]):=by
 refine BD 91 Tryz.func46 rfl rfl rfl λw0 F hF=>sr λ_ J1=>XY (ints (OpT.mk k ((i:Nat):Int) ((j:Nat):Int) o.key o.n o.change o.mask o.torn o.cut).flat) λb3=>?_
 refine PS ?_;refine nx J1 (ab λ_ J2=>D2 0 3 dp ?_);refine PD 0 ?_;refine PD 1 ?_;refine FD 2 0 pL BI ?_;refine LX 3 KE (.pointer (some ⟨n,0,none⟩)) ?_ (hc:=by exact Dt n D M P);refine FD 4 1 ff aR ?_;refine LX 5 Y3 (.int .i64 (((i:Nat):Int))) ?_ (hc:=by exact bN _ rfl);refine FD 6 2 ff aR ?_;refine LX 7 Y3 (.int .i64 (((j:Nat):Int))) ?_ (hc:=by exact iA _ rfl);refine AL 8 ?_;refine CR EI (mN n bs ((i:Nat):Int) ((j:Nat):Int)) (SM [1]) λvR HR hR=>?_
 obtain⟨hw,rfl⟩:=hR;obtain⟨_,rfl⟩:dL ((i:Nat):Int) ((j:Nat):Int)=true∧vR= .pointer (some ⟨(bs.getD (bC ((i:Nat):Int) ((j:Nat):Int)) 0),0,none⟩):=hw.resolve_right (λq=>by rw[hv]at q;cases q.1);refine EN (PD 9 ?_);refine DN (ac J2 (ab λ_ J3=>sr λ_ J4=>PS ?_));refine tp (iW rfl Bn rfl rfl) ?_;refine nx J4 (CN (qx J3 (ab λ_ J5=>sr λ_ J6=>cm (H':=[ib 184 5 (bs.getD (bC ((i:Nat):Int) ((j:Nat):Int)) 0) (List.map (kH (bC ((i:Nat):Int) ((j:Nat):Int))) l),gn 184 5 bs (c8 W) (bC ((i:Nat):Int) ((j:Nat):Int)),ah n (fb bs) 135,ah b3 (ints (OpT.mk k ((i:Nat):Int) ((j:Nat):Int) o.key o.n o.change o.mask o.torn o.cut).flat) 63,ah c (eN n D M P) 73]) (λ_ q=>hl▸qG W (iv hv).1▸nT hv (aC [2] rfl q)) (PS ?_))));refine CE EH (kB (bs.getD (bC ((i:Nat):Int) ((j:Nat):Int)) 0) (List.map (kH (bC ((i:Nat):Int) ((j:Nat):Int))) l)) ID ?_;rw[bT];refine PS ?_;refine ao ?_ ?_<;>intro h23;refine nx J6 (CY (sr λ_ J7=>PS ?_));exact nx J7 (ai (af (aE (H':=[ah c (eN n D M P) 73,eJ 135 184 5 n (c8 (W.set (bC ((i:Nat):Int) ((j:Nat):Int)) l))]) (db _) (λ_ q=>ei (List.Perm.swap _ _ _) (pQ (bs:=bs) hv hW (ak [0,0,0,1] rfl q))) (av rfl rfl ⟨rfl,rfl⟩))))
 · exact absurd (by rw[hn];rfl) h23
theorem yf(c n i:Nat)(D M P:Nat→Value)(hi:i<5)(j:Nat)(hj:j<5)(hv:dL ((i:Nat):Int) ((j:Nat):Int)=true)(W:List (List MsgT))(hW:W.length=25)(l:List MsgT)(hl:W.getD (bC ((i:Nat):Int) ((j:Nat):Int)) []=l)(h8:l.length≤8)(hlen: ∀m∈l,0< (dR m).length)(o:OpT)(hn:l≠[])(bs:List Nat):
    DT 46 #[(.pointer (some ⟨c,0,none⟩)),(.agg (ints (OpT.mk 7 ((i:Nat):Int) ((j:Nat):Int) o.key o.n o.change o.mask o.torn o.cut).flat).toArray)] T0 [ah n (fb bs) 135,fL 184 5 bs (c8 W),ah c (eN n D M P) 73] (RI (.int .i64 (if IA l then 0 else 3)) [ah c (eN n D M P) 73,eJ 135 184 5 n (c8 (W.set (bC ((i:Nat):Int) ((j:Nat):Int)) (D9 l)))]):=by
 refine BD 91 Tryz.func46 rfl rfl rfl λw0 F hF=>sr λ_ J1=>XY (ints (OpT.mk 7 ((i:Nat):Int) ((j:Nat):Int) o.key o.n o.change o.mask o.torn o.cut).flat) λb3=>?_
 refine PS ?_;refine nx J1 (ab λ_ J2=>D2 0 3 dp ?_);refine PD 0 ?_;refine PD 1 ?_;refine FD 2 0 pL BI ?_;refine LX 3 KE (.pointer (some ⟨n,0,none⟩)) ?_ (hc:=by exact Dt n D M P);refine FD 4 1 ff aR ?_;refine LX 5 Y3 (.int .i64 (((i:Nat):Int))) ?_ (hc:=by exact bN _ rfl);refine FD 6 2 ff aR ?_;refine LX 7 Y3 (.int .i64 (((j:Nat):Int))) ?_ (hc:=by exact iA _ rfl);refine AL 8 ?_;refine CR EI (mN n bs ((i:Nat):Int) ((j:Nat):Int)) (SM [1]) λvR HR hR=>?_
 obtain⟨hw,rfl⟩:=hR;obtain⟨_,rfl⟩:dL ((i:Nat):Int) ((j:Nat):Int)=true∧vR= .pointer (some ⟨(bs.getD (bC ((i:Nat):Int) ((j:Nat):Int)) 0),0,none⟩):=hw.resolve_right (λq=>by rw[hv]at q;cases q.1);refine EN (PD 9 ?_);refine DN (ac J2 (ab λ_ J3=>sr λ_ J4=>PS ?_));refine tp (iW rfl Bn rfl rfl) ?_;refine nx J4 (CN (qx J3 (ab λ_ J5=>sr λ_ J6=>cm (H':=[ib 184 5 (bs.getD (bC ((i:Nat):Int) ((j:Nat):Int)) 0) (List.map (kH (bC ((i:Nat):Int) ((j:Nat):Int))) l),gn 184 5 bs (c8 W) (bC ((i:Nat):Int) ((j:Nat):Int)),ah n (fb bs) 135,ah b3 (ints (OpT.mk 7 ((i:Nat):Int) ((j:Nat):Int) o.key o.n o.change o.mask o.torn o.cut).flat) 63,ah c (eN n D M P) 73]) (λ_ q=>hl▸qG W (iv hv).1▸nT hv (aC [2] rfl q)) (PS ?_))));refine CE EH (kB (bs.getD (bC ((i:Nat):Int) ((j:Nat):Int)) 0) (List.map (kH (bC ((i:Nat):Int) ((j:Nat):Int))) l)) ID ?_;rw[bT];refine PS ?_;refine ao ?_ ?_<;>intro h23
 · exact absurd (List.eq_nil_of_length_eq_zero (by omega)) hn
 refine nx J6 (CN (qx J5 (ab λ_ J7=>sr λ_ J8=>FA 0 ff aR ?_)));refine LT 3 Y3 (.int .i64 7) ?_ (hc:=by exact cN _ rfl);refine PS ?_;refine nx J8 (CY (ab λ_ J9=>sr λ_ J10=>PS ?_))
 refine hZ (aa rfl) rfl rfl rfl PX rfl (yC (bs.getD (bC ((i:Nat):Int) ((j:Nat):Int)) 0) (List.map (kH (bC ((i:Nat):Int) ((j:Nat):Int))) l) (by rw[bT];exact h8) (λx hx=>by
        obtain⟨m,_,rfl⟩:=eB.1 hx
        exact vZ _ m)) (λ_ s=>s) (λ_ _ _=>trivial) (λvR HR hR=>?_)
 obtain⟨rfl,rfl⟩:=hR;rw[KM,KL];refine bc ?_ ?_<;>intro h28;refine PS ?_;refine nx J10 (CN (qx J9 (sr λ_ J11=>PS ?_)));refine nx J11 (ai (af (aE (H':=[ah c (eN n D M P) 73,eJ 135 184 5 n (c8 (W.set (bC ((i:Nat):Int) ((j:Nat):Int)) (D9 l)))]) (db _) (λ_ q=>ei (List.Perm.swap _ _ _) (pQ (bs:=bs) hv hW (ak [0,0,0,1] rfl q))) (av rfl rfl ?_))));exact⟨by rw[h28];rfl,rfl⟩;refine PS ?_;refine nx J10 (CY (sr λ_ J12=>PS ?_));refine nx J12 (ai (af (af (aE (H':=[ah c (eN n D M P) 73,eJ 135 184 5 n (c8 (W.set (bC ((i:Nat):Int) ((j:Nat):Int)) (D9 l)))]) (db _) (λ_ q=>ei (List.Perm.swap _ _ _) (pQ (bs:=bs) hv hW (ak [0,0,0,1] rfl q))) (av rfl rfl ?_)))));exact⟨by rw[h28];rfl,rfl⟩
theorem FP{i j:Nat}{W:List (List MsgT)}{m:MsgT}{l2:List MsgT}(hv:dL ((i:Nat):Int) ((j:Nat):Int)=true)(hW:W.length=25):(c8 (W.set (bC ((i:Nat):Int) ((j:Nat):Int)) (m::l2))).getD (bC ((i:Nat):Int) ((j:Nat):Int)) []=jo ((i:Nat):Int) ((j:Nat):Int) (dR m)::List.map (kH (bC ((i:Nat):Int) ((j:Nat):Int))) l2:=by
 rw[qG _ (iv hv).1,List.getD_eq_getElem?_getD,List.getElem?_set_self (by rw[hW];exact(iv hv).1),←BA (sz hv).1 (sz hv).2];rfl
theorem BH{i j:Nat}{W:List (List MsgT)}{m:MsgT}{l2:List MsgT}(hv:dL ((i:Nat):Int) ((j:Nat):Int)=true)(hW:W.length=25):(c8 (W.set (bC ((i:Nat):Int) ((j:Nat):Int)) (m::l2))).set (bC ((i:Nat):Int) ((j:Nat):Int)) (List.map (kH (bC ((i:Nat):Int) ((j:Nat):Int))) l2)=c8 (W.set (bC ((i:Nat):Int) ((j:Nat):Int)) l2):=by
 rw[wc _ (iv hv).1 (by rw[cA];exact hW),e7]
theorem su(c n i:Nat)(D M P:Nat→Value)(hi:i<5)(j:Nat)(hj:j<5)(hv:dL ((i:Nat):Int) ((j:Nat):Int)=true)(W:List (List MsgT))(hW:W.length=25)(l:List MsgT)(hl:W.getD (bC ((i:Nat):Int) ((j:Nat):Int)) []=l)(h8:l.length≤8)(hlen: ∀m∈l,0< (dR m).length)(o:OpT)(m:MsgT)(l2:List MsgT)(ht:ll (max o.n 0% ((l.length:Nat):Int)).toNat l=m::l2)(bs:List Nat)(q:Int)(hk5:q=5∨q=6)(hk:q=6∨M j= .pointer none):
    DT 46 #[(.pointer (some ⟨c,0,none⟩)),(.agg (ints (OpT.mk q ((i:Nat):Int) ((j:Nat):Int) o.key o.n o.change o.mask o.torn o.cut).flat).toArray)] T0 [ah n (fb bs) 135,fL 184 5 bs (c8 W),ah c (eN n D M P) 73] (RI (.int .i64 0) [ah c (eN n D M P) 73,eJ 135 184 5 n (c8 (W.set (bC ((i:Nat):Int) ((j:Nat):Int)) l2))]):=by
 refine BD 91 Tryz.func46 rfl rfl rfl λw0 F hF=>?_
 have hln:0<l.length:=by
     have:=kg (max o.n 0% ((l.length:Nat):Int)).toNat l;rw[ht]at this;rw[←this];exact Nat.succ_pos _
 have hm0:0< (dR m).length:=hlen m ((oJ (max o.n 0% ((l.length:Nat):Int)).toNat l).1 (ht▸eC ..));have hrl:(max o.n 0% ((l.length:Nat):Int))< ((l.length:Nat):Int):=Io _ (by omega);refine sr λ_ J1=>XY (ints (OpT.mk q ((i:Nat):Int) ((j:Nat):Int) o.key o.n o.change o.mask o.torn o.cut).flat) λb3=>?_
 refine PS ?_;refine nx J1 (ab λ_ J2=>D2 0 3 dp ?_);refine PD 0 ?_;refine PD 1 ?_;refine FD 2 0 pL BI ?_;refine LX 3 KE (.pointer (some ⟨n,0,none⟩)) ?_ (hc:=by exact Dt n D M P);refine FD 4 1 ff aR ?_;refine LX 5 Y3 (.int .i64 (((i:Nat):Int))) ?_ (hc:=by exact bN _ rfl);refine FD 6 2 ff aR ?_;refine LX 7 Y3 (.int .i64 (((j:Nat):Int))) ?_ (hc:=by exact iA _ rfl);refine AL 8 ?_;refine CR EI (mN n bs ((i:Nat):Int) ((j:Nat):Int)) (SM [1]) λvR HR hR=>?_
 obtain⟨hw,rfl⟩:=hR;obtain⟨_,rfl⟩:dL ((i:Nat):Int) ((j:Nat):Int)=true∧vR= .pointer (some ⟨(bs.getD (bC ((i:Nat):Int) ((j:Nat):Int)) 0),0,none⟩):=hw.resolve_right (λq=>by rw[hv]at q;cases q.1);refine EN (PD 9 ?_);refine DN (ac J2 (ab λ_ J3=>sr λ_ J4=>PS ?_));refine tp (iW rfl Bn rfl rfl) ?_;refine nx J4 (CN (qx J3 (ab λ_ J5=>sr λ_ J6=>cm (H':=[ib 184 5 (bs.getD (bC ((i:Nat):Int) ((j:Nat):Int)) 0) (List.map (kH (bC ((i:Nat):Int) ((j:Nat):Int))) l),gn 184 5 bs (c8 W) (bC ((i:Nat):Int) ((j:Nat):Int)),ah n (fb bs) 135,ah b3 (ints (OpT.mk q ((i:Nat):Int) ((j:Nat):Int) o.key o.n o.change o.mask o.torn o.cut).flat) 63,ah c (eN n D M P) 73]) (λ_ q=>hl▸qG W (iv hv).1▸nT hv (aC [2] rfl q)) (PS ?_))));refine CE EH (kB (bs.getD (bC ((i:Nat):Int) ((j:Nat):Int)) 0) (List.map (kH (bC ((i:Nat):Int) ((j:Nat):Int))) l)) ID ?_;rw[bT];refine PS ?_;refine ao ?_ ?_<;>intro h23
 · exact absurd h23 (by omega)
 refine nx J6 (CN (qx J5 (ab λ_ J7=>sr λ_ J8=>FA 0 ff aR ?_)));refine LT 3 Y3 (.int .i64 (q)) ?_ (hc:=by exact cN _ rfl);refine PS ?_;refine ao ?_ ?_<;>intro h26
 · exact absurd h26 (by omega)
 refine nx J8 (CN (qx J7 (ab λ_ J9=>ab λ_ J10=>D1 3 dp ?_)));refine FD 0 4 ff aR ?_;refine LX 1 Y3 (.int .i64 (o.n)) ?_ (hc:=by exact tu _ rfl);refine ta 2 rfl (yP rfl rfl rfl) ?_;refine PD 3 ?_;refine PD 6 ?_;refine AL 4 ?_;refine CE EH (kB (bs.getD (bC ((i:Nat):Int) ((j:Nat):Int)) 0) (List.map (kH (bC ((i:Nat):Int) ((j:Nat):Int))) l)) ID ?_;rw[bT];refine EN (ta 5 rfl (PV.rem (r:=(max o.n 0% ((l.length:Nat):Int))) rfl rfl rfl (by omega) (tv (by omega))) ?_);refine DN (ac J10 (au ?_))
 refine bn (α:=(Nat)) (λk=>((k:Nat):Int)≤(max o.n 0% ((l.length:Nat):Int))) (λk=>[(0,(.pointer (some ⟨c,0,none⟩))),(3,(.pointer (some ⟨b3,0,none⟩))),(4,(.int .i64 0)),(5,(.pointer (some ⟨(bs.getD (bC ((i:Nat):Int) ((j:Nat):Int)) 0),0,none⟩))),(35,(.int .i64 ((max o.n 0% ((l.length:Nat):Int))))),(36,(.int .i64 (((k:Nat):Int))))]) (λk=>[ib 184 5 (bs.getD (bC ((i:Nat):Int) ((j:Nat):Int)) 0) (List.map (kH (bC ((i:Nat):Int) ((j:Nat):Int))) (ll k l)),gn 184 5 bs (c8 W) (bC ((i:Nat):Int) ((j:Nat):Int)),ah n (fb bs) 135,ah b3 (ints (OpT.mk q ((i:Nat):Int) ((j:Nat):Int) o.key o.n o.change o.mask o.torn o.cut).flat) 63,ah c (eN n D M P) 73]) (λk=>(max o.n 0% ((l.length:Nat):Int)).toNat-k) 0
     (zS _ (by omega)) SB
     (λ_ s=>aC [0,0,0,0,0] rfl s) (λk hinv=>?_)
 obtain hk:=hinv;refine sr λ_ J11=>PS ?_
 refine ao ?_ ?_<;>intro h37;refine nx J11 (ab λ_ J12=>CY (qx J12 (ab λ_ J13=>au (ad (PS ?_)))))
 refine hZ (aa rfl) rfl rfl rfl N9 rfl (tk (bs.getD (bC ((i:Nat):Int) ((j:Nat):Int)) 0) (List.map (kH (bC ((i:Nat):Int) ((j:Nat):Int))) (ll k l)) (by rw[bT,kg];exact h8) (λx hx=>by
        obtain⟨m,_,rfl⟩:=eB.1 hx
        exact vZ _ m)) (λ_ s=>s) (λ_ _ _=>trivial) (λvR HR hR=>?_)
 obtain rfl:=hR;rw[y2];refine ap (ag (ac J13 (ad (AD ?_))));refine PS ?_;refine ap ?_
 exact aI ((k+1):(Nat)) (by omega) (by show(max o.n 0% ((l.length:Nat):Int)).toNat- (k+1)< (max o.n 0% ((l.length:Nat):Int)).toNat-k;omega)
   SB
   (λ_ s=>aC [0,0,0,0,0] rfl s)
 have hkr:k=(max o.n 0% ((l.length:Nat):Int)).toNat:=by omega
 refine cm (H':=[ib 184 5 (bs.getD (bC ((i:Nat):Int) ((j:Nat):Int)) 0) (List.map (kH (bC ((i:Nat):Int) ((j:Nat):Int))) (m::l2)),gn 184 5 bs (c8 W) (bC ((i:Nat):Int) ((j:Nat):Int)),ah n (fb bs) 135,ah b3 (ints (OpT.mk q ((i:Nat):Int) ((j:Nat):Int) o.key o.n o.change o.mask o.torn o.cut).flat) 63,ah c (eN n D M P) 73]) (λ_ q=>by rw[hkr,ht]at q;exact q) (nx J11 (ab λ_ J14=>CN (aX (aA (aA (bl (ac J9 (ab λ_ J15=>D2 3 4 dp ?_))))))));refine PD 0 ?_;refine PD 1 ?_;refine FD 2 0 pL BI ?_;refine LX 3 KE (.pointer (some ⟨n,0,none⟩)) ?_ (hc:=by exact Dt n D M P);refine FD 4 1 ff aR ?_;refine LX 5 Y3 (.int .i64 (((i:Nat):Int))) ?_ (hc:=by exact bN _ rfl);refine FD 6 2 ff aR ?_;refine LX 7 Y3 (.int .i64 (((j:Nat):Int))) ?_ (hc:=by exact iA _ rfl);refine AL 8 ?_;refine cm (H':=[eJ 135 184 5 n (c8 (W.set (bC ((i:Nat):Int) ((j:Nat):Int)) (m::l2))),ah b3 (ints (OpT.mk q ((i:Nat):Int) ((j:Nat):Int) o.key o.n o.change o.mask o.torn o.cut).flat) 63,ah c (eN n D M P) 73]) (λ_ q=>pQ (bs:=bs) hv hW (aC [0,0,0] rfl q)) (CR N8 (q8 n (c8 (W.set (bC ((i:Nat):Int) ((j:Nat):Int)) (m::l2))) ((i:Nat):Int) ((j:Nat):Int) (dR m) (List.map (kH (bC ((i:Nat):Int) ((j:Nat):Int))) l2) hv (pR _) (FP hv hW) hm0 (by have:=tf m;omega)) ID λvR HR hR=>?_);obtain⟨uv,rfl,rfl⟩:=hR;rw[BH hv hW];refine EN (PD 9 ?_);refine PD 10 ?_;refine PD 11 ?_;refine PD 12 ?_;refine PD 13 ?_
 refine DN (ac J15 (ab λ_ J16=>sr λ_ J17=>FA 0 ff aR ?_));refine LT 2 Y3 (.int .i64 (q)) ?_ (hc:=by exact cN _ rfl);refine PS ?_;refine ao ?_ ?_<;>intro h55;refine PS ?_;refine UT ?_;refine UT ?_;refine P2 ?_
 iterate 5 refine UT ?_
 refine PS ?_;refine nx J17 (CY (sr λ_ J18=>PS ?_));exact nx J18 (ai (af (WK [3,0] (av rfl rfl ⟨rfl,rfl⟩))));refine P2 ?_;refine PS ?_;refine P3 ?_;refine FA 2 ff aR ?_;refine LT 2 Y3 (.int .i64 (((j:Nat):Int))) ?_ (hc:=by exact iA _ rfl);refine CE Cr (sB c n j D M P hj (hk.resolve_left h55)) (SM [3]) ?_;refine PS ?_;refine PS ?_;refine nx J17 (CY (sr λ_ J19=>PS ?_));exact nx J19 (ai (af (WK [0,0] (av rfl rfl ⟨rfl,rfl⟩))))
theorem zY(c n i:Nat)(D M P:Nat→Value)(hi:i<5)(j:Nat)(hj:j<5)(hv:dL ((i:Nat):Int) ((j:Nat):Int)=true)(W:List (List MsgT))(hW:W.length=25)(l:List MsgT)(hl:W.getD (bC ((i:Nat):Int) ((j:Nat):Int)) []=l)(h8:l.length≤8)(hlen: ∀m∈l,0< (dR m).length)(o:OpT)(m:MsgT)(l2:List MsgT)(ht:ll (max o.n 0% ((l.length:Nat):Int)).toNat l=m::l2)(bs:List Nat)(d r:Nat)(s:MS LD)(hD:D j= .pointer (some ⟨d,0,none⟩))(hM:M j= .pointer (some ⟨r,0,none⟩))(ho:s.o=[])(hs:OkR KD s)(hto:((i:Nat):Int)≠s.id)(hrs:s.replies.length≤1000000):
    DT 46 #[(.pointer (some ⟨c,0,none⟩)),(.agg (ints (OpT.mk 5 ((i:Nat):Int) ((j:Nat):Int) o.key o.n o.change o.mask o.torn o.cut).flat).toArray)] T0 [ah n (fb bs) 135,fL 184 5 bs (c8 W),ah c (eN n D M P) 73,dk d s.e.D,eX s d r] (dm (λv H=>(s.e.D.dn=true∧v= .int .i64 0∧H=[ah c (eN n D M P) 73,dk d s.e.D,eJ 135 184 5 n (c8 ((W.set (bC ((i:Nat):Int) ((j:Nat):Int)) l2))),eX s d r])∨(s.e.D.dn=false∧(iR (dR m)).2≠0∧v= .int .i64 (iR (dR m)).2∧H=[ah c (eN n D M P) 73,dk d s.e.D,eJ 135 184 5 n (c8 ((W.set (bC ((i:Nat):Int) ((j:Nat):Int)) l2))),eX s d r])∨(s.e.D.dn=false∧(iR (dR m)).2=0∧v= .int .i64 0∧H=[ah c (eN n D M P) 73,dk d (gj KD s ((i:Nat):Int) (iR (dR m)).1).hush.e.D,eJ 135 184 5 n (c8 (gJ (W.set (bC ((i:Nat):Int) ((j:Nat):Int)) l2) j (gj KD s ((i:Nat):Int) (iR (dR m)).1).o)),eX (gj KD s ((i:Nat):Int) (iR (dR m)).1).hush d r]))):=by
 refine BD 91 Tryz.func46 rfl rfl rfl λw0 F hF=>?_
 have hln:0<l.length:=by
     have:=kg (max o.n 0% ((l.length:Nat):Int)).toNat l;rw[ht]at this;rw[←this];exact Nat.succ_pos _
 have hm0:0< (dR m).length:=hlen m ((oJ (max o.n 0% ((l.length:Nat):Int)).toNat l).1 (ht▸eC ..));have hrl:(max o.n 0% ((l.length:Nat):Int))< ((l.length:Nat):Int):=Io _ (by omega);refine sr λ_ J1=>XY (ints (OpT.mk 5 ((i:Nat):Int) ((j:Nat):Int) o.key o.n o.change o.mask o.torn o.cut).flat) λb3=>?_
 refine PS ?_;refine nx J1 (ab λ_ J2=>D2 0 3 dp ?_);refine PD 0 ?_;refine PD 1 ?_;refine FD 2 0 pL BI ?_;refine LX 3 KE (.pointer (some ⟨n,0,none⟩)) ?_ (hc:=by exact Dt n D M P);refine FD 4 1 ff aR ?_;refine LX 5 Y3 (.int .i64 (((i:Nat):Int))) ?_ (hc:=by exact bN _ rfl);refine FD 6 2 ff aR ?_;refine LX 7 Y3 (.int .i64 (((j:Nat):Int))) ?_ (hc:=by exact iA _ rfl);refine AL 8 ?_;refine CR EI (mN n bs ((i:Nat):Int) ((j:Nat):Int)) (SM [1]) λvR HR hR=>?_
 obtain⟨hw,rfl⟩:=hR;obtain⟨_,rfl⟩:dL ((i:Nat):Int) ((j:Nat):Int)=true∧vR= .pointer (some ⟨(bs.getD (bC ((i:Nat):Int) ((j:Nat):Int)) 0),0,none⟩):=hw.resolve_right (λq=>by rw[hv]at q;cases q.1);refine EN (PD 9 ?_);refine DN (ac J2 (ab λ_ J3=>sr λ_ J4=>PS ?_));refine tp (iW rfl Bn rfl rfl) ?_;refine nx J4 (CN (qx J3 (ab λ_ J5=>sr λ_ J6=>cm (H':=[ib 184 5 (bs.getD (bC ((i:Nat):Int) ((j:Nat):Int)) 0) (List.map (kH (bC ((i:Nat):Int) ((j:Nat):Int))) l),gn 184 5 bs (c8 W) (bC ((i:Nat):Int) ((j:Nat):Int)),ah n (fb bs) 135,ah b3 (ints (OpT.mk 5 ((i:Nat):Int) ((j:Nat):Int) o.key o.n o.change o.mask o.torn o.cut).flat) 63,ah c (eN n D M P) 73,dk d s.e.D,eX s d r]) (λ_ q=>hl▸qG W (iv hv).1▸nT hv (aC [2] rfl q)) (PS ?_))));refine CE EH (kB (bs.getD (bC ((i:Nat):Int) ((j:Nat):Int)) 0) (List.map (kH (bC ((i:Nat):Int) ((j:Nat):Int))) l)) ID ?_;rw[bT];refine PS ?_;refine ao ?_ ?_<;>intro h23
 · exact absurd h23 (by omega)
 refine nx J6 (CN (qx J5 (ab λ_ J7=>sr λ_ J8=>FA 0 ff aR ?_)));refine LT 3 Y3 (.int .i64 5) ?_ (hc:=by exact cN _ rfl);refine PS ?_;refine nx J8 (CN (qx J7 (ab λ_ J9=>ab λ_ J10=>D1 3 dp ?_)));refine FD 0 4 ff aR ?_;refine LX 1 Y3 (.int .i64 (o.n)) ?_ (hc:=by exact tu _ rfl);refine ta 2 rfl (yP rfl rfl rfl) ?_;refine PD 3 ?_;refine PD 6 ?_;refine AL 4 ?_;refine CE EH (kB (bs.getD (bC ((i:Nat):Int) ((j:Nat):Int)) 0) (List.map (kH (bC ((i:Nat):Int) ((j:Nat):Int))) l)) ID ?_;rw[bT];refine EN (ta 5 rfl (PV.rem (r:=(max o.n 0% ((l.length:Nat):Int))) rfl rfl rfl (by omega) (tv (by omega))) ?_);refine DN (ac J10 (au ?_))
 refine bn (α:=(Nat)) (λk=>((k:Nat):Int)≤(max o.n 0% ((l.length:Nat):Int))) (λk=>[(0,(.pointer (some ⟨c,0,none⟩))),(3,(.pointer (some ⟨b3,0,none⟩))),(4,(.int .i64 0)),(5,(.pointer (some ⟨(bs.getD (bC ((i:Nat):Int) ((j:Nat):Int)) 0),0,none⟩))),(35,(.int .i64 ((max o.n 0% ((l.length:Nat):Int))))),(36,(.int .i64 (((k:Nat):Int))))]) (λk=>[ib 184 5 (bs.getD (bC ((i:Nat):Int) ((j:Nat):Int)) 0) (List.map (kH (bC ((i:Nat):Int) ((j:Nat):Int))) (ll k l)),gn 184 5 bs (c8 W) (bC ((i:Nat):Int) ((j:Nat):Int)),ah n (fb bs) 135,ah b3 (ints (OpT.mk 5 ((i:Nat):Int) ((j:Nat):Int) o.key o.n o.change o.mask o.torn o.cut).flat) 63,ah c (eN n D M P) 73,dk d s.e.D,eX s d r]) (λk=>(max o.n 0% ((l.length:Nat):Int)).toNat-k) 0
     (zS _ (by omega)) SB
     (λ_ s=>aC [0,0,0,0,0,0,0] rfl s) (λk hinv=>?_)
 obtain hk:=hinv;refine sr λ_ J11=>PS ?_
 refine ao ?_ ?_<;>intro h37;refine nx J11 (ab λ_ J12=>CY (qx J12 (ab λ_ J13=>au (ad (PS ?_)))))
 refine hZ (aa rfl) rfl rfl rfl N9 rfl (tk (bs.getD (bC ((i:Nat):Int) ((j:Nat):Int)) 0) (List.map (kH (bC ((i:Nat):Int) ((j:Nat):Int))) (ll k l)) (by rw[bT,kg];exact h8) (λx hx=>by
        obtain⟨m,_,rfl⟩:=eB.1 hx
        exact vZ _ m)) (λ_ s=>s) (λ_ _ _=>trivial) (λvR HR hR=>?_)
 obtain rfl:=hR;rw[y2];refine ap (ag (ac J13 (ad (AD ?_))));refine PS ?_;refine ap ?_
 exact aI ((k+1):(Nat)) (by omega) (by show(max o.n 0% ((l.length:Nat):Int)).toNat- (k+1)< (max o.n 0% ((l.length:Nat):Int)).toNat-k;omega)
   SB
   (λ_ s=>aC [0,0,0,0,0,0,0] rfl s)
 have hkr:k=(max o.n 0% ((l.length:Nat):Int)).toNat:=by omega
 refine cm (H':=[ib 184 5 (bs.getD (bC ((i:Nat):Int) ((j:Nat):Int)) 0) (List.map (kH (bC ((i:Nat):Int) ((j:Nat):Int))) (m::l2)),gn 184 5 bs (c8 W) (bC ((i:Nat):Int) ((j:Nat):Int)),ah n (fb bs) 135,ah b3 (ints (OpT.mk 5 ((i:Nat):Int) ((j:Nat):Int) o.key o.n o.change o.mask o.torn o.cut).flat) 63,ah c (eN n D M P) 73,dk d s.e.D,eX s d r]) (λ_ q=>by rw[hkr,ht]at q;exact q) (nx J11 (ab λ_ J14=>CN (aX (aA (aA (bl (ac J9 (ab λ_ J15=>D2 3 4 dp ?_))))))));refine PD 0 ?_;refine PD 1 ?_;refine FD 2 0 pL BI ?_;refine LX 3 KE (.pointer (some ⟨n,0,none⟩)) ?_ (hc:=by exact Dt n D M P);refine FD 4 1 ff aR ?_;refine LX 5 Y3 (.int .i64 (((i:Nat):Int))) ?_ (hc:=by exact bN _ rfl);refine FD 6 2 ff aR ?_;refine LX 7 Y3 (.int .i64 (((j:Nat):Int))) ?_ (hc:=by exact iA _ rfl);refine AL 8 ?_;refine cm (H':=[eJ 135 184 5 n (c8 (W.set (bC ((i:Nat):Int) ((j:Nat):Int)) (m::l2))),ah b3 (ints (OpT.mk 5 ((i:Nat):Int) ((j:Nat):Int) o.key o.n o.change o.mask o.torn o.cut).flat) 63,ah c (eN n D M P) 73,dk d s.e.D,eX s d r]) (λ_ q=>pQ (bs:=bs) hv hW (aC [0,0,0] rfl q)) (CR N8 (q8 n (c8 (W.set (bC ((i:Nat):Int) ((j:Nat):Int)) (m::l2))) ((i:Nat):Int) ((j:Nat):Int) (dR m) (List.map (kH (bC ((i:Nat):Int) ((j:Nat):Int))) l2) hv (pR _) (FP hv hW) hm0 (by have:=tf m;omega)) ID λvR HR hR=>?_);obtain⟨uv,rfl,rfl⟩:=hR;rw[BH hv hW];refine EN (PD 9 ?_);refine PD 10 ?_
 refine PD 11 ?_;refine PD 12 ?_;refine PD 13 ?_;refine DN (ac J15 (ab λ_ J16=>sr λ_ J17=>FA 0 ff aR ?_));refine LT 2 Y3 (.int .i64 5) ?_ (hc:=by exact cN _ rfl);refine P3 ?_;refine PS ?_;refine P3 ?_;refine FA 2 ff aR ?_;refine LT 2 Y3 (.int .i64 (((j:Nat):Int))) ?_ (hc:=by exact iA _ rfl);refine CE Cr (sA c n j D M P hj d r s.e.D hD hM) (SM [3,3]) ?_;refine bc ?_ ?_<;>intro h64;refine PS ?_;refine PS ?_;refine nx J17 (CN (qx J16 (sr λ_ J18=>PS ?_)));refine CF PW (Df uv (dR m)) ID (AW 3 rfl rfl) ?_;refine P3 ?_;refine XZ mw (ints MsgT.zero.flat) λb8=>?_
 refine SW 0 cd aG ?_;refine PS ?_;refine nx J18 (ab λ_ J19=>sr λ_ J20=>P2 ?_);refine ao ?_ ?_<;>intro h73;refine nx J20 (CY (oz (λw=>Frm F w∧w.heap[b3]?=some (.cells (ints (OpT.mk 5 ((i:Nat):Int) ((j:Nat):Int) o.key o.n o.change o.mask o.torn o.cut).flat).toArray 63 (0,0))∧w.heap[c]?=some (.cells (eN n D M P).toArray 73 (0,0))∧w.heap[b8]?=some (.cells (ints ((iR (dR m)).1).flat).toArray 163 (0,0))∧True) dp rfl (λ_ s=>⟨eb s,s.block 5 (lb rfl) rfl,s.block 1 (lb rfl) rfl,s.block 0 (lb rfl) rfl,trivial⟩) (PD 0 ?_)));refine FD 1 2 ff aR ?_;refine LX 2 Y3 (.int .i64 (((j:Nat):Int))) ?_ (hc:=by exact iA _ rfl);refine PD 3 ?_;refine FD 4 6 pL pw ?_;refine IY 5 (6+j) vw kh ?_;refine LX 6 uA (.pointer (some ⟨r,0,none⟩)) ?_ (hc:=by exact(xP n D M P hj).trans (congrArg some hM));refine PD 7 ?_;refine FD 8 2 ff aR ?_;refine LX 9 Y3 (.int .i64 (((j:Nat):Int))) ?_ (hc:=by exact iA _ rfl);refine ta 10 rfl (j6 (cells:=#[(.pointer (some ⟨c,0,none⟩)),(.int .i64 (((j:Nat):Int)))]) rfl rfl (by as_aux_lemma=>kernel_rfl)) ?_;refine ta 11 rfl (pE rfl FJ rfl rfl) ?_;refine FD 12 1 ff aR ?_;refine LX 13 Y3 (.int .i64 (((i:Nat):Int))) ?_ (hc:=by exact bN _ rfl);refine LY 14 be cd aG ?_;refine AL 15 ?_
 refine cm (H':=[cJ (xD c n d j D M P hj hD (W.set (bC ((i:Nat):Int) ((j:Nat):Int)) l2) (by rw[cA];exact hW)) r s,ah b8 (ints ((iR (dR m)).1).flat) 163,gI uv (dR m) 5,ah b3 (ints (OpT.mk 5 ((i:Nat):Int) ((j:Nat):Int) o.key o.n o.change o.mask o.torn o.cut).flat) 63]) (λ_ q=>EM ho (aC [1,1,1,3] rfl q)) (CZ N7 (@Aj _ (xD c n d j D M P hj hD (W.set (bC ((i:Nat):Int) ((j:Nat):Int)) l2) (by rw[cA];exact hW)) r s ((i:Nat):Int) (iR (dR m)).1 hs (Gl _) hto hrs) ID λvR=>?_);change TL _ _ _ _ _ _ _ _ _ [cJ (xD c n d j D M P hj hD (W.set (bC ((i:Nat):Int) ((j:Nat):Int)) l2) (by rw[cA];exact hW)) r (gj KD s ((i:Nat):Int) (iR (dR m)).1),ah b8 (ints ((iR (dR m)).1).flat) 163,gI uv (dR m) 5,ah b3 (ints (OpT.mk 5 ((i:Nat):Int) ((j:Nat):Int) o.key o.n o.change o.mask o.torn o.cut).flat) 63];refine cm (H':=[ah c (eN n D M P) 73,dk d ((gj KD s ((i:Nat):Int) (iR (dR m)).1).e.D),eJ 135 184 5 n (c8 (gJ (W.set (bC ((i:Nat):Int) ((j:Nat):Int)) l2) j (gj KD s ((i:Nat):Int) (iR (dR m)).1).o)),eX ((gj KD s ((i:Nat):Int) (iR (dR m)).1).hush) d r,ah b8 (ints ((iR (dR m)).1).flat) 163,gI uv (dR m) 5,ah b3 (ints (OpT.mk 5 ((i:Nat):Int) ((j:Nat):Int) o.key o.n o.change o.mask o.torn o.cut).flat) 63]) (λ_ q=>AQ (s:=(gj KD s ((i:Nat):Int) (iR (dR m)).1)) q) (EN (DN (ac J19 (sr λ_ J21=>P2 ?_))));refine nx J21 (ai (WK [0,0,0,0] (av rfl rfl ?_)))
 exact .inr (.inr ⟨(by simpa using h64),h73,(by rw[h73]),rfl⟩);refine nx J20 (CN (qx J19 (sr λ_ J22=>P2 ?_)));refine nx J22 (ai (WK [1,1,1,3] (av rfl rfl ?_)));exact .inr (.inl ⟨(by simpa using h64),h73,rfl,rfl⟩);refine PS ?_;refine PS ?_;refine nx J17 (CY (sr λ_ J23=>PS ?_));refine nx J23 (ai (af (WK [0,0,0,2] (av rfl rfl ?_))));exact .inl ⟨(by simpa using h64),rfl,rfl⟩
theorem tT{f:Nat→HP}{k i:Nat}(hi:i<k){H:List HP}{h:Hl}(s:bD (bD ((List.range k).map f)::H) h):bD (f i::bD (((List.range k).map f).eraseIdx i)::H) h:=by
 have s1:bD ((List.range k).map f++H) h:=(bZ _ _).2 s;have e:((List.range k).map f).getD i (λ_=>True)=f i:=by simp[List.getD_eq_getElem?_getD,hi]
 have p:=m3 (λ_=>True) ((List.range k).map f) i (by simpa using hi);rw[e]at p;exact cD (ei (p.append_right H) s1) (λ_ a=>a) λ_ b=>(bZ _ _).1 b
theorem tS{f g:Nat→HP}{k i:Nat}(hi:i<k)(hg: ∀j,j≠i→g j=f j){H:List HP}{h:Hl}(s:bD (g i::bD (((List.range k).map f).eraseIdx i)::H) h):bD (bD ((List.range k).map g)::H) h:=by
 have e0:((List.range k).map g).eraseIdx i=((List.range k).map f).eraseIdx i:=by
  refine List.ext_getElem? λj=>?_
  rw[List.getElem?_eraseIdx,List.getElem?_eraseIdx]
  have: ∀m,m≠i→((List.range k).map g)[m]?=((List.range k).map f)[m]?:=λm hm=>by
   rw[List.getElem?_map,List.getElem?_map]
   by_cases hk:m<k
   · simp[hk,hg m hm]
   · simp[hk]
  split
  · exact this j (by omega)
  · exact this (j+1) (by omega)
 have e:((List.range k).map g).getD i (λ_=>True)=g i:=by simp[List.getD_eq_getElem?_getD,hi]
 have p:=m3 (λ_=>True) ((List.range k).map g) i (by simpa using hi);rw[e,e0]at p;have s2:bD ((g i::((List.range k).map f).eraseIdx i)++H) h:=cD s (λ_ a=>a) λ_ b=>(bZ _ _).2 b
 exact(bZ _ _).1 (ei (p.symm.append_right H) s2)
section
variable {f:FuncId} {args:Array Value} {Q:Value→Prop} {c i:Nat} {a a':CL}
theorem Ba(hi:i<5){Z:Value→CL→Prop}(hne: ∀v a',Z v a'→∀j,j≠i→a'.at' j=a.at' j)
 (core: ∀g:CX,DT f args T0 (ah c (eN g.n (mC g) (jX a g.r) g.p) 73::eJ 135 184 5 g.n (c8 a.W)::ku (a.at' i) (g.d i) (g.r i) (g.p i))
  (dm λv H=>∃a',Z v a'∧∃g':CX,g'.n=g.n∧(∀j,j≠i→g'.d j=g.d j∧g'.r j=g.r j∧g'.p j=g.p j)∧H=ah c (eN g.n (mC g') (jX a' g'.r) g'.p) 73::eJ 135 184 5 g.n (c8 a'.W)::ku (a'.at' i) (g'.d i) (g'.r i) (g'.p i))):
 DT f args T0 [fY c a] (dm λv H=>∃a',Z v a'∧H=[fY c a']):=by
 refine Leg.Does.ex (A':=λg:CX=>(ah c (eN g.n (mC g) (jX a g.r) g.p) 73::eJ 135 184 5 g.n (c8 a.W)::ku (a.at' i) (g.d i) (g.r i) (g.p i))++[bD (((List.range 5).map λi=>lI (a.at' i) (g.d i) (g.r i) (g.p i)).eraseIdx i)]) (λh s=>?_) λg=>?_
 · obtain⟨g,s⟩:=fu s
   have s2:=tT (f:=λi=>lI (a.at' i) (g.d i) (g.r i) (g.p i)) hi (aC [2,0,0] rfl s);have s3:=(bZ (ku (a.at' i) (g.d i) (g.r i) (g.p i)) _).2 s2;exact⟨g,aC [4,4,0,0,0,0] rfl s3⟩
 · refine Leg.Does.withinR (core g) (λ_ _ _ _=>trivial) (λh s=>s) λv H hp=>?_
   obtain⟨a',hz,g',hn,hg,rfl⟩:=hp;refine⟨[fY c a'],λh s=>?_,a',hz,rfl⟩;have s1:=aC [2,2,2,2,0,0] rfl s;have s2:=(bZ (ku (a'.at' i) (g'.d i) (g'.r i) (g'.p i)) _).1 s1
   have s3:=tS (f:=λi=>lI (a.at' i) (g.d i) (g.r i) (g.p i)) (g:=λi=>lI (a'.at' i) (g'.d i) (g'.r i) (g'.p i)) hi (λj hj=>by
    obtain⟨h1,h2,h3⟩:=hg j hj
    rw[hne v a' hz j hj,h1,h2,h3]) s2
   refine bp (p:=rf c a') g' ?_;rw[←hn]at s3;exact aC [1,1,0] rfl s3
theorem xi(hne: ∀j,j≠i→a'.at' j=a.at' j)(r:Nat→Nat)(hi:yu (a'.at' i) (r i)=yu (a.at' i) (r i)):jX a' r=jX a r:=funext λj=>by
 by_cases q:j=i
 · subst q;exact hi
 · show yu (a'.at' j) (r j)=yu (a.at' j) (r j)
   rw[hne j q]
theorem Ft(hl:a.ms.length=5)(hi:i<5){s:MS LD}(hs:(a.at' i).run=some s){R:Value→MS LD→List (List MsgT)→Prop}
 (core: ∀g:CX,jX a g.r i= .pointer (some ⟨g.r i,0,none⟩)→DT f args T0 [ah c (eN g.n (mC g) (jX a g.r) g.p) 73,dk (g.d i) s.e.D,eJ 135 184 5 g.n (c8 a.W),eX s (g.d i) (g.r i)]
  (dm λv H=>∃s' W',R v s' W'∧H=[ah c (eN g.n (mC g) (jX a g.r) g.p) 73,dk (g.d i) s'.e.D,eJ 135 184 5 g.n (c8 W'),eX s' (g.d i) (g.r i)])):
 DT f args T0 [fY c a] (dm λv H=>∃a',(∃s' W',R v s' W'∧a'=⟨a.ms.set i {a.at' i with run:=some s'},W'⟩)∧H=[fY c a']):=by
 refine Ba hi (λv a' hz j hj=>?_) λg=>?_
 · obtain⟨s',W',_,rfl⟩:=hz
   exact ve hj
 · have em:jX a g.r i= .pointer (some ⟨g.r i,0,none⟩):=by show yu (a.at' i) _=_;unfold yu;rw[hs]
   have e1:p5 (a.at' i) (g.d i) (g.r i)=eX s (g.d i) (g.r i):=by unfold p5;rw[hs]
   have e2:(a.at' i).dk=s.e.D:=by unfold Slot.dk;rw[hs]
   refine Leg.Does.withinR (B:=[kV (g.p i) (a.at' i).past]) (core g em) (λ_ _ _ _=>trivial) (λh q=>?_) λv H hp=>?_
   · unfold ku at q
     rw[e1,e2]at q;exact aC [0,1,0,1,0] rfl q
   · obtain⟨s',W',hR,rfl⟩:=hp
     have ea:(CL.mk (a.ms.set i {a.at' i with run:=some s'}) W').at' i= {a.at' i with run:=some s'}:=ux (by rw[hl];exact hi);have hm:jX ⟨a.ms.set i {a.at' i with run:=some s'},W'⟩ g.r=jX a g.r:=xi (λj hj=>ve hj) g.r (by rw[ea];unfold yu;rw[hs]);refine⟨_,λh q=>?_,_,⟨s',W',hR,rfl⟩,g,rfl,λ_ _=>⟨rfl,rfl,rfl⟩,rfl⟩;rw[hm,ea];exact aC [0,1,0,1,0] rfl q
theorem A9(core: ∀g:CX,DT f args T0 [ah c (eN g.n (mC g) (jX a g.r) g.p) 73] (dm λv H=>Q v∧H=[ah c (eN g.n (mC g) (jX a g.r) g.p) 73])):
 DT f args T0 [fY c a] (dm λv H=>Q v∧H=[fY c a]):=by
 refine Leg.Does.ex (A':=λg:CX=>[ah c (eN g.n (mC g) (jX a g.r) g.p) 73]++[eJ 135 184 5 g.n (c8 a.W),bD ((List.range 5).map λi=>lI (a.at' i) (g.d i) (g.r i) (g.p i))]) (λh s=>fu s) λg=>?_
 refine Leg.Does.withinR (core g) (λ_ _ _ _=>trivial) (λh s=>s) λv H hp=>?_
 obtain⟨hQ,rfl⟩:=hp;exact⟨[fY c a],λh s=>bp (p:=rf c a) g s,hQ,rfl⟩
theorem JW{R:Value→List (List MsgT)→Prop}(core: ∀g:CX,DT f args T0 [ah c (eN g.n (mC g) (jX a g.r) g.p) 73,eJ 135 184 5 g.n (c8 a.W)] (dm λv H=>∃W',R v W'∧H=[ah c (eN g.n (mC g) (jX a g.r) g.p) 73,eJ 135 184 5 g.n (c8 W')])):
 DT f args T0 [fY c a] (dm λv H=>∃W',R v W'∧H=[fY c ⟨a.ms,W'⟩]):=by
 refine Leg.Does.ex (A':=λg:CX=>[ah c (eN g.n (mC g) (jX a g.r) g.p) 73,eJ 135 184 5 g.n (c8 a.W)]++[bD ((List.range 5).map λi=>lI (a.at' i) (g.d i) (g.r i) (g.p i))]) (λh s=>fu s) λg=>?_
 refine Leg.Does.withinR (core g) (λ_ _ _ _=>trivial) (λh s=>s) λv H hp=>?_
 obtain⟨W',hR,rfl⟩:=hp;exact⟨[fY c ⟨a.ms,W'⟩],λh s=>bp (p:=rf c ⟨a.ms,W'⟩) g s,W',hR,rfl⟩
theorem LI(hl:a.ms.length=5)(hi:i<5){x:Slot}(hm: ∀r,yu x r=yu (a.at' i) r)(hr: ∀d r,p5 x d r=p5 (a.at' i) d r)(hp:x.past=(a.at' i).past)
 (core: ∀g:CX,DT f args T0 [ah c (eN g.n (mC g) (jX a g.r) g.p) 73,dk (g.d i) (a.at' i).dk] (dm λv H=>Q v∧H=[ah c (eN g.n (mC g) (jX a g.r) g.p) 73,dk (g.d i) x.dk])):
 DT f args T0 [fY c a] (dm λv H=>∃a',(Q v∧a'=a.set i x)∧H=[fY c a']):=by
 have ea:(a.set i x).at' i=x:=ux (by rw[hl];exact hi);refine Ba hi (λv a' hz j hj=>by rw[hz.2];exact ve hj) λg=>?_
 refine Leg.Does.withinR (B:=[eJ 135 184 5 g.n (c8 a.W),kV (g.p i) (a.at' i).past,p5 (a.at' i) (g.d i) (g.r i)]) (core g) (λ_ _ _ _=>trivial) (λh q=>aC [0,1,0,0,0] rfl q) λv H hq=>?_
 obtain⟨hQ,rfl⟩:=hq;have hmm:jX (a.set i x) g.r=jX a g.r:=xi (λj hj=>ve hj) g.r (by rw[show(CL.mk (a.ms.set i x) a.W).at' i=x from ea];exact hm _);refine⟨_,λh q=>?_,_,⟨hQ,rfl⟩,g,rfl,λ_ _=>⟨rfl,rfl,rfl⟩,rfl⟩;rw[hmm,ea];unfold ku;rw[hp,hr];exact aC [0,1,0,0,0] rfl q
end
theorem ln{f:FuncId}{args:Array Value}{R:Hl→Prop}{A:List HP}{p q:Value→List HP→Prop}(d:DT f args R A (dm p))(k: ∀v H,p v H→q v H):DT f args R A (dm q):=
 Leg.Does.fold d λe H hp=>by
  cases e with
  |returned v=>exact⟨H,λ_ s=>s,k v H hp⟩
  |panicked c=>exact hp.elim
  |outgrown=>exact hp.elim
theorem p1{H:List HP}{h:Hl}(s:bD H h):bD ((λ_=>True)::H) h:=⟨em,h,DR h,(rc h).symm,trivial,s⟩
theorem wx{α:Type}{l:List α}{k:Nat}{d:α}(h:k<l.length):l.set k (l.getD k d)=l:=by
 refine List.ext_getElem? λj=>?_
 by_cases q:j=k
 · subst q;rw[List.getElem?_set_self h,List.getD_eq_getElem?_getD,List.getElem?_eq_getElem h];rfl
 · rw[List.getElem?_set_ne (λe=>q e.symm)]
section
variable {n c i:Nat} {a:CL} {o:OpT}
theorem B4(h:CLOk n a)(hi:i<5):a.set i (a.at' i)=a:=by
 show CL.mk (a.ms.set i (a.ms.getD i .nil)) a.W=a;rw[wx (by rw[h.ms];exact hi)]
theorem wM(h:CLOk n a)(hi:i<5){s:MS LD}(hs:(a.at' i).run=some s):(CL.mk (a.ms.set i {a.at' i with run:=some s}) a.W)=a:=by
 have e:({a.at' i with run:=some s}:Slot)=a.at' i:=by cases q:a.at' i with|mk r D p=>rw[q]at hs;simp only at hs;rw[hs]
 rw[e];exact B4 h hi
theorem oV{k:Int}(hk:o.kind=k)(hi:o.at'=((i:Nat):Int)):OpT.mk k ((i:Nat):Int) o.to' o.key o.n o.change o.mask o.torn o.cut=o:=by subst hk;rw[←hi]
theorem sS{k:Int}{j:Nat}(hk:o.kind=k)(hi:o.at'=((i:Nat):Int))(hj:o.to'=((j:Nat):Int)):OpT.mk k ((i:Nat):Int) ((j:Nat):Int) o.key o.n o.change o.mask o.torn o.cut=o:=by subst hk;rw[←hi,←hj]
theorem sZ{g:CX}{s:MS LD}(hs:(a.at' i).run=some s):jX a g.r i= .pointer (some ⟨g.r i,0,none⟩):=by show yu (a.at' i) _=_;unfold yu;rw[hs]
theorem m8{g:CX}(hs:(a.at' i).run=none):jX a g.r i= .pointer none:=by show yu (a.at' i) _=_;unfold yu;rw[hs]
theorem Gc{a':CL}{r r':Nat→Nat}{v:Value}(hne: ∀j,j≠i→a'.at' j=a.at' j)(hr: ∀j,j≠i→r' j=r j)(hv:yu (a'.at' i) (r' i)=v):jX a' r'=la (jX a r) i v:=funext λj=>by
 by_cases q:j=i
 · subst q;rw[iZ];exact hv
 · rw[mQ _ _ q]
   show yu (a'.at' j) (r' j)=yu (a.at' j) (r j);rw[hne j q,hr j q]
theorem Kc(h:CLOk n a)(hn:n≤100000)(hi:i<5)(hat:o.at'=((i:Nat):Int))(hk:0≤o.kind∧o.kind≤4)(ho:OkOp o):DT 25 #[.pointer (some ⟨c,0,none⟩), .agg (ints o.flat).toArray] T0 [fY c a] (dm λv H=>v= .int .i64 (Dr a i o).2∧H=[fY c (Dr a i o).1]):=by
 have eo:=oV (o:=o) rfl hat;cases hr:(a.at' i).run with
 |none=>
  refine ln (A9 (Q:=λv=>v= .int .i64 4) λg=>?_) λv H hp=>?_
  · have:=Dd c g.n i (mC g) (jX a g.r) g.p hi (m8 hr) o o.kind hk
    rw[eo]at this;exact this
  · unfold Dr;rw[hr];exact hp
 |some s=>
  obtain⟨hs,_,hso⟩:=(h.at' i hi).run s hr;have hrep:=(h.at' i hi).reps;unfold Slot.reps at hrep;rw[hr,ae]at hrep;simp only at hrep;refine ln (Ft h.ms hi hr (R:=λv s' W'=>(s.e.D.dn=true∧v= .int .i64 4∧s'=s∧W'=a.W)∨(s.e.D.dn=false∧v= .int .i64 (bV KD s o).2∧s'=(bV KD s o).1.hush∧W'=gJ a.W i (bV KD s o).1.o)) λg em=>?_) λv H hp=>?_
  · have:=Fm c g.n i (mC g) (jX a g.r) g.p hi (g.d i) (g.r i) s rfl em a.W h.W hso hs o o.kind hk ho.change (by omega)
    rw[eo]at this;refine ln this λv H hp=>?_
    rcases hp with⟨hd,rfl,rfl⟩| ⟨hd,rfl,rfl⟩
    · exact⟨s,a.W, .inl ⟨hd,rfl,rfl,rfl⟩,rfl⟩
    · exact⟨_,_, .inr ⟨hd,rfl,rfl,rfl⟩,rfl⟩
  · obtain⟨a',⟨s',W',hR,rfl⟩,rfl⟩:=hp
    unfold Dr;rw[hr];rcases hR with⟨hd,rfl,rfl,rfl⟩| ⟨hd,rfl,rfl,rfl⟩
    · simp only[hd,if_true];exact⟨by first|rfl|trivial,by rw[wM h hi hr]⟩
    · simp only[hd];exact⟨rfl,rfl⟩
theorem IE(h:CLOk n a)(hi:i<5)(hat:o.at'=((i:Nat):Int))(hk:o.kind=8):DT 25 #[.pointer (some ⟨c,0,none⟩), .agg (ints o.flat).toArray] T0 [fY c a] (dm λv H=>v= .int .i64 (BG a i).2∧H=[fY c (BG a i).1]):=by
 have eo:=oV (o:=o) hk hat;cases hr:(a.at' i).run with
 |none=>
  refine ln (A9 (Q:=λv=>v= .int .i64 4) λg=>?_) λv H hp=>?_
  · have:=Db c g.n i (mC g) (jX a g.r) g.p hi (m8 hr) o
    rw[eo]at this;exact this
  · unfold BG;rw[hr];exact hp
 |some s=>
  obtain⟨hs,_,hso⟩:=(h.at' i hi).run s hr;refine ln (Ft h.ms hi hr (R:=λv s' W'=>(s.e.D.dn=true∧v= .int .i64 4∧s'=s∧W'=a.W)∨(s.e.D.dn=false∧v= .int .i64 0∧s'=(iw KD s).hush∧W'=gJ a.W i (iw KD s).o)) λg em=>?_) λv H hp=>?_
  · have:=Fh c g.n i (mC g) (jX a g.r) g.p hi (g.d i) (g.r i) s rfl em a.W h.W hso hs o
    rw[eo]at this;refine ln this λv H hp=>?_
    rcases hp with⟨hd,rfl,rfl⟩| ⟨hd,rfl,rfl⟩
    · exact⟨s,a.W, .inl ⟨hd,rfl,rfl,rfl⟩,rfl⟩
    · exact⟨_,_, .inr ⟨hd,rfl,rfl,rfl⟩,rfl⟩
  · obtain⟨a',⟨s',W',hR,rfl⟩,rfl⟩:=hp
    unfold BG;rw[hr];rcases hR with⟨hd,rfl,rfl,rfl⟩| ⟨hd,rfl,rfl,rfl⟩
    · simp only[hd,if_true];exact⟨by first|rfl|trivial,by rw[wM h hi hr]⟩
    · simp only[hd];exact⟨rfl,rfl⟩
theorem Km(h:CLOk n a)(hi:i<5)(hat:o.at'=((i:Nat):Int))(hk:o.kind=9):DT 25 #[.pointer (some ⟨c,0,none⟩), .agg (ints o.flat).toArray] T0 [fY c a] (dm λv H=>v= .int .i64 0∧H=[fY c (a.set i (vu (a.at' i) o.n))]):=by
 have eo:=oV (o:=o) hk hat
 have ed:(vu (a.at' i) o.n).dk=(a.at' i).dk.arm o.n:=by
  unfold vu Slot.dk;cases hr:(a.at' i).run with
  |none=>simp only[hr]
  |some s=>rfl
 refine ln (LI (x:=vu (a.at' i) o.n) (Q:=λv=>v= .int .i64 0) h.ms hi (λr=>?_) (λd r=>?_) ?_ λg=>?_) λv H hp=>?_
 · unfold vu yu
   cases hr:(a.at' i).run with
   |none=>simp only[hr]
   |some s=>rfl
 · unfold vu p5
   cases hr:(a.at' i).run with
   |none=>simp only[hr]
   |some s=>rfl
 · unfold vu;split<;>rfl
 · have:=Fp c g.n i (mC g) (jX a g.r) g.p hi (g.d i) rfl (a.at' i).dk o
   rw[eo]at this;rw[ed];exact this
 · obtain⟨a',⟨rfl,rfl⟩,rfl⟩:=hp
   exact⟨rfl,rfl⟩
theorem Fv(h:CLOk n a)(hn:n≤100000)(hi:i<5)(hat:o.at'=((i:Nat):Int))(hk:o.kind=10):DT 25 #[.pointer (some ⟨c,0,none⟩), .agg (ints o.flat).toArray] T0 [fY c a] (dm λv H=>v= .int .i64 0∧H=[fY c (a.set i (nM (a.at' i) o.mask o.torn o.cut))]):=by
 have eo:=oV (o:=o) hk hat;have so:=h.at' i hi;have hrep:=so.reps;unfold Slot.reps at hrep;rw[ae]at hrep;have ea:(a.set i (nM (a.at' i) o.mask o.torn o.cut)).at' i=nM (a.at' i) o.mask o.torn o.cut:=ux (by rw[h.ms];exact hi);have hne: ∀j,j≠i→(a.set i (nM (a.at' i) o.mask o.torn o.cut)).at' j=a.at' j:=λj hj=>ve hj
 refine ln (Ba (Z:=λv a'=>v= .int .i64 0∧a'=a.set i (nM (a.at' i) o.mask o.torn o.cut)) hi (λv a' hz j hj=>by rw[hz.2];exact hne j hj) λg=>?_) λv H hp=>by obtain⟨_,⟨rfl,rfl⟩,rfl⟩:=hp;exact⟨rfl,rfl⟩
 have fin: ∀u,u.oneCell'=true→∀h,bD ([ah c (eN g.n (mC g) (la (jX a g.r) i (.pointer none)) (la g.p i u)) 73,dk (g.d i) ((a.at' i).dk.crash o.mask o.torn o.cut),kV u (a.at' i).reps]++[eJ 135 184 5 g.n (c8 a.W)]) h→
  bD (ah c (eN g.n (mC {g with p:=la g.p i u}) (jX (a.set i (nM (a.at' i) o.mask o.torn o.cut)) g.r) (la g.p i u)) 73::eJ 135 184 5 g.n (c8 (a.set i (nM (a.at' i) o.mask o.torn o.cut)).W)::ku ((a.set i (nM (a.at' i) o.mask o.torn o.cut)).at' i) (g.d i) (g.r i) (la g.p i u i)) h:=λu _ hh q=>by
  rw[Gc (a:=a) (i:=i) (v:= .pointer none) (r:=g.r) hne (λ_ _=>rfl) (by rw[ea];rfl),ea,iZ];have q2:=p1 (aC [0,2,0,0] rfl q);exact aC [1,1,1,1,0] rfl q2
 cases hr:(a.at' i).run with
 |none=>
  have er:(a.at' i).reps=(a.at' i).past:=by unfold Slot.reps;rw[hr,aP]
  have:=Fl c g.n i (mC g) (jX a g.r) g.p hi (g.d i) rfl (m8 hr) (a.at' i).past (by omega) (a.at' i).dk so.dk.ok o;rw[eo]at this;refine Leg.Does.withinR (B:=[eJ 135 184 5 g.n (c8 a.W)]) this (λ_ _ _ _=>trivial) (λhh q=>?_) λv H hp=>?_
  · exact ak [0,1,1,0] rfl q
  · obtain⟨u,hu,rfl,rfl⟩:=hp
    refine⟨_,λhh q=>fin u hu hh ?_,_,⟨rfl,rfl⟩,{g with p:=la g.p i u},rfl,λj hj=>⟨rfl,rfl,mQ _ _ hj⟩,rfl⟩;rw[er];exact q
 |some s=>
  rw[hr]at hrep;simp only at hrep;have er:(a.at' i).reps=(a.at' i).past++s.replies:=by unfold Slot.reps;rw[hr]
  have e1:p5 (a.at' i) (g.d i) (g.r i)=eX s (g.d i) (g.r i):=by unfold p5;rw[hr]
  have:=Fk c g.n i (mC g) (jX a g.r) g.p hi (g.d i) rfl (g.r i) s (sZ hr) (a.at' i).past (by omega) (by omega) (a.at' i).dk so.dk.ok o;rw[eo]at this;refine Leg.Does.withinR (B:=[eJ 135 184 5 g.n (c8 a.W)]) this (λ_ _ _ _=>trivial) (λhh q=>?_) λv H hp=>?_
  · unfold ku at q
    rw[e1]at q;exact aC [0,1,1,1,0] rfl q
  · obtain⟨u,hu,rfl,rfl⟩:=hp
    refine⟨_,λhh q=>fin u hu hh ?_,_,⟨rfl,rfl⟩,{g with p:=la g.p i u},rfl,λj hj=>⟨rfl,rfl,mQ _ _ hj⟩,rfl⟩;rw[er];exact q
end
section
variable {n c i:Nat} {a:CL} {o:OpT}
theorem BW{i:Nat}{D:DS}{s:MS LD}(h:(cO i D).1=some s):(cO i D).2=0:=by
 obtain⟨h1,h2⟩:=kr h;unfold cO;rw[if_neg (by rw[h1];decide),h2]
theorem BX(h:CLOk n a)(hi:i<5)(hat:o.at'=((i:Nat):Int))(hk:o.kind=11):DT 25 #[.pointer (some ⟨c,0,none⟩), .agg (ints o.flat).toArray] T0 [fY c a] (dm λv H=>v= .int .i64 (g8 i (a.at' i)).2∧H=[fY c (a.set i (g8 i (a.at' i)).1)]):=by
 have eo:=oV (o:=o) hk hat;have so:=h.at' i hi;cases hr:(a.at' i).run with
 |some s=>
  have e:g8 i (a.at' i)=(a.at' i,5):=by unfold g8;rw[hr]
  rw[e,show a.set i (a.at' i,(5:Int)).1=a from B4 h hi];refine A9 (Q:=λv=>v= .int .i64 5) λg=>?_
  have:=Fi c g.n i (mC g) (jX a g.r) g.p hi (g.r i) (sZ hr) o;rw[eo]at this;exact this
 |none=>
  have e:g8 i (a.at' i)=({a.at' i with run:=(cO i (a.at' i).D).1,D:=(bP (a.at' i).D).D},(cO i (a.at' i).D).2):=by unfold g8;rw[hr]
  have hD:=so.D hr;have ed:(a.at' i).dk=(a.at' i).D:=by unfold Slot.dk;rw[hr]
  have e1: ∀d r,p5 (a.at' i) d r= λ_=>True:=λd r=>by unfold p5;rw[hr]
  have hst: ∀x:Slot,(a.set i x).at' i=x:=λx=>ux (by rw[h.ms];exact hi)
  have hne: ∀x:Slot,∀j,j≠i→(a.set i x).at' j=a.at' j:=λx j hj=>ve hj
  refine ln (Ba (Z:=λv a'=>v= .int .i64 (g8 i (a.at' i)).2∧a'=a.set i (g8 i (a.at' i)).1) hi (λv a' hz j hj=>by rw[hz.2];exact hne _ j hj) λg=>?_) λv H hp=>by obtain⟨_,⟨rfl,rfl⟩,rfl⟩:=hp;exact⟨rfl,rfl⟩
  have:=Fj c g.n i (mC g) (jX a g.r) g.p hi (g.d i) rfl (m8 hr) (a.at' i).D hD o;rw[eo]at this;refine Leg.Does.withinR (B:=[eJ 135 184 5 g.n (c8 a.W),kV (g.p i) (a.at' i).past]) this (λ_ _ _ _=>trivial) (λhh q=>?_) λv H hp=>?_
  · unfold ku at q
    rw[ed]at q;exact ak [0,1,0,0] rfl q
  · rcases hp with⟨hn,rfl,rfl⟩| ⟨s,r,hn,rfl,rfl⟩
    · refine⟨_,λhh q=>?_,_,⟨by rw[e],rfl⟩,g,rfl,λj hj=>⟨rfl,rfl,rfl⟩,rfl⟩
      rw[hst,e];have em:jX (a.set i {a.at' i with run:=(cO i (a.at' i).D).1,D:=(bP (a.at' i).D).D}) g.r=jX a g.r:=xi (hne _) g.r (by rw[hst];unfold yu;rw[hr];simp only[hn]);rw[em];have q2:=p1 (aC [0,1,0,0] rfl q);have q3:=aC [1,1,1,1,0] rfl q2;unfold ku Slot.dk p5;simp only[hn];exact q3
    · refine⟨_,λhh q=>?_,_,⟨by rw[e];simp only[BW hn],rfl⟩,{g with r:=la g.r i r},rfl,λj hj=>⟨rfl,mQ _ _ hj,rfl⟩,rfl⟩
      rw[hst,e];have em:jX (a.set i {a.at' i with run:=(cO i (a.at' i).D).1,D:=(bP (a.at' i).D).D}) (la g.r i r)=la (jX a g.r) i (.pointer (some ⟨r,0,none⟩)):=Gc (hne _) (λj hj=>mQ _ _ hj) (by rw[hst,iZ];unfold yu;simp only[hn]);rw[em];have q3:=aC [0,2,1,1,0] rfl q;unfold ku Slot.dk p5;simp only[hn,iZ];exact q3
theorem GC(h:CLOk n a)(hn:n≤100000)(hi:i<5)(hat:o.at'=((i:Nat):Int))(hk:o.kind=5∨o.kind=6∨o.kind=7):DT 46 #[.pointer (some ⟨c,0,none⟩), .agg (ints o.flat).toArray] T0 [fY c a] (dm λv H=>v= .int .i64 (oF a o).2∧H=[fY c (oF a o).1]):=by
 cases hv:dL o.at' o.to' with
 |false=>
  have e:oF a o=(a,5):=by unfold oF;rw[if_pos hv]
  rw[e];have eo:=oV (o:=o) rfl hat;refine ln (JW (R:=λv W'=>v= .int .i64 5∧W'=a.W) λg=>?_) λv H hp=>by obtain⟨_,⟨rfl,rfl⟩,rfl⟩:=hp;exact⟨rfl,rfl⟩
  refine Leg.Does.ex (A':=λbs:List Nat=>[ah c (eN g.n (mC g) (jX a g.r) g.p) 73,ah g.n (fb bs) 135]++[fL 184 5 bs (c8 a.W)]) (λhh q=>?_) λbs=>?_
  · obtain⟨bs,q⟩:=fu (ei (List.Perm.swap _ _ _) q)
    exact⟨bs,aC [2,0,0] rfl q⟩
  · rw[hat]at hv
    have:=BB c g.n i (mC g) (jX a g.r) g.p hi o.to' o.kind o hv bs;rw[eo]at this;refine Leg.Does.withinR this (λ_ _ _ _=>trivial) (λhh q=>q) λv H hp=>?_
    obtain⟨rfl,rfl⟩:=hp;refine⟨_,λhh q=>?_,a.W,⟨rfl,rfl⟩,rfl⟩;exact ei (List.Perm.swap _ _ _) (bp (p:=λbs:List Nat=>[ah g.n (fb bs) 135,fL 184 5 bs (c8 a.W)]) bs (aC [1,1,0] rfl q))
 |true=>
  obtain⟨j,hto⟩: ∃j:Nat,o.to'=((j:Nat):Int):=⟨o.to'.toNat,((lT (sz hv).2).2).symm⟩;have hj:j<5:=by have:=(lT (sz hv).2).1;rw[hto]at this;simpa using this
  have hv2:dL ((i:Nat):Int) ((j:Nat):Int)=true:=by rw[←hat,←hto];exact hv
  have eK:bC o.at' o.to'=bC ((i:Nat):Int) ((j:Nat):Int):=by rw[hat,hto]
  have hij:((i:Nat):Int)≠((j:Nat):Int):=λe=>by
   unfold dL at hv2;rw[decide_eq_true e]at hv2;simp at hv2
  obtain⟨h8,hlen⟩:=h.way (bC ((i:Nat):Int) ((j:Nat):Int));have hkl:bC ((i:Nat):Int) ((j:Nat):Int)<a.W.length:=by rw[h.W];exact(iv hv2).1
  -- the net alone
  have net: ∀{R:Value→List (List MsgT)→Prop},(∀(g:CX) (bs:List Nat),Leg.Does Tryz.prog 46 #[.pointer (some ⟨c,0,none⟩), .agg (ints o.flat).toArray] (λ_=>True) [ah g.n (fb bs) 135,fL 184 5 bs (c8 a.W),ah c (eN g.n (mC g) (jX a g.r) g.p) 73] (dm λv H=>∃W',R v W'∧H=[ah c (eN g.n (mC g) (jX a g.r) g.p) 73,eJ 135 184 5 g.n (c8 W')]))→
   Leg.Does Tryz.prog 46 #[.pointer (some ⟨c,0,none⟩), .agg (ints o.flat).toArray] (λ_=>True) [fY c a] (dm λv H=>∃W',R v W'∧H=[fY c ⟨a.ms,W'⟩]):=λcore=>JW λg=>Leg.Does.ex (A':=λbs:List Nat=>[ah g.n (fb bs) 135,fL 184 5 bs (c8 a.W),ah c (eN g.n (mC g) (jX a g.r) g.p) 73]) (λhh q=>fu (ei (List.Perm.swap _ _ _) q)) (core g)
  cases hl:a.W.getD (bC ((i:Nat):Int) ((j:Nat):Int)) []with
  |nil=>
   have e:oF a o=(a,10):=by unfold oF;rw[if_neg (by rw[hv];decide),eK,hl]
   rw[e];refine ln (net (R:=λv W'=>v= .int .i64 10∧W'=a.W) λg bs=>?_) λv H hp=>by obtain⟨_,⟨rfl,rfl⟩,rfl⟩:=hp;exact⟨rfl,rfl⟩
   have:=zX c g.n i (mC g) (jX a g.r) g.p hi j hj hv2 a.W h.W _ rfl h8 hlen o o.kind hl bs;rw[sS rfl hat hto,wx hkl]at this;exact ln this λv H hp=>⟨a.W,⟨hp.1,rfl⟩,hp.2⟩
  |cons m0 l0=>
   by_cases h7:o.kind=7
   · have e:oF a o=(a.way (bC ((i:Nat):Int) ((j:Nat):Int)) (D9 (m0::l0)),if IA (m0::l0)then 0 else 3):=by
      unfold oF;rw[if_neg (by rw[hv];decide),eK,hl];simp only[if_pos h7];split
      · rfl
      · rename_i q
        have q2:D9 (m0::l0)=m0::l0:=by unfold D9;unfold IA at q;rw[if_neg (by simpa using q)]
        rw[q2];show(a,(3:Int))=(CL.mk a.ms (a.W.set _ (m0::l0)),3);rw[←hl,wx hkl]
     rw[e];refine ln (net (R:=λv W'=>v= .int .i64 (if IA (m0::l0)then 0 else 3)∧W'=a.W.set (bC ((i:Nat):Int) ((j:Nat):Int)) (D9 (m0::l0))) λg bs=>?_) λv H hp=>by obtain⟨_,⟨rfl,rfl⟩,rfl⟩:=hp;exact⟨rfl,rfl⟩
     have:=yf c g.n i (mC g) (jX a g.r) g.p hi j hj hv2 a.W h.W (m0::l0) hl (by rw[←hl];exact h8) (by rw[←hl];exact hlen) o (by simp) bs;rw[sS h7 hat hto]at this;exact ln this λv H hp=>⟨_,⟨hp.1,rfl⟩,hp.2⟩
   · cases ht:ll (max o.n 0% ((m0::l0).length:Int)).toNat (m0::l0)with
     |nil=>have:=kg (max o.n 0% ((m0::l0).length:Int)).toNat (m0::l0);rw[ht]at this;simp at this
     |cons m l2=>
      by_cases h6:o.kind=6
      · have e:oF a o=(a.way (bC ((i:Nat):Int) ((j:Nat):Int)) l2,0):=by
         unfold oF;rw[if_neg (by rw[hv];decide),eK,hl];simp only[if_neg h7];rw[ht];simp only[if_pos h6]
        rw[e];refine ln (net (R:=λv W'=>v= .int .i64 0∧W'=a.W.set (bC ((i:Nat):Int) ((j:Nat):Int)) l2) λg bs=>?_) λv H hp=>by obtain⟨_,⟨rfl,rfl⟩,rfl⟩:=hp;exact⟨rfl,rfl⟩
        have:=su c g.n i (mC g) (jX a g.r) g.p hi j hj hv2 a.W h.W (m0::l0) hl (by rw[←hl];exact h8) (by rw[←hl];exact hlen) o m l2 ht bs 6 (.inr rfl) (.inl rfl);rw[sS h6 hat hto]at this;exact ln this λv H hp=>⟨_,⟨hp.1,rfl⟩,hp.2⟩
      · have h5:o.kind=5:=by omega
        have e:oF a o=ti (a.way (bC ((i:Nat):Int) ((j:Nat):Int)) l2) i j m:=by
         unfold oF;rw[if_neg (by rw[hv];decide),eK,hl];simp only[if_neg h7];rw[ht];simp only[if_neg h6];rw[hat,hto];rfl
        rw[e];have ew:(a.way (bC ((i:Nat):Int) ((j:Nat):Int)) l2).at' j=a.at' j:=rfl;cases hr:(a.at' j).run with
        |none=>
         have e2:ti (a.way (bC ((i:Nat):Int) ((j:Nat):Int)) l2) i j m=(a.way (bC ((i:Nat):Int) ((j:Nat):Int)) l2,0):=by unfold ti;rw[ew,hr]
         rw[e2];refine ln (net (R:=λv W'=>v= .int .i64 0∧W'=a.W.set (bC ((i:Nat):Int) ((j:Nat):Int)) l2) λg bs=>?_) λv H hp=>by obtain⟨_,⟨rfl,rfl⟩,rfl⟩:=hp;exact⟨rfl,rfl⟩
         have:=su c g.n i (mC g) (jX a g.r) g.p hi j hj hv2 a.W h.W (m0::l0) hl (by rw[←hl];exact h8) (by rw[←hl];exact hlen) o m l2 ht bs 5 (.inl rfl) (.inr (m8 hr));rw[sS h5 hat hto]at this;exact ln this λv H hp=>⟨_,⟨hp.1,rfl⟩,hp.2⟩
        |some s=>
         obtain⟨hs,hid,hso⟩:=(h.at' j hj).run s hr;have hrep:=(h.at' j hj).reps;unfold Slot.reps at hrep;rw[hr,ae]at hrep;simp only at hrep;have W2:(a.W.set (bC ((i:Nat):Int) ((j:Nat):Int)) l2).length=25:=by rw[cA];exact h.W
         refine ln (Ft h.ms hj hr (R:=λv s' W'=>(s.e.D.dn=true∧v= .int .i64 0∧s'=s∧W'=a.W.set (bC ((i:Nat):Int) ((j:Nat):Int)) l2)∨(s.e.D.dn=false∧(iR (dR m)).2≠0∧v= .int .i64 (iR (dR m)).2∧s'=s∧W'=a.W.set (bC ((i:Nat):Int) ((j:Nat):Int)) l2)∨(s.e.D.dn=false∧(iR (dR m)).2=0∧v= .int .i64 0∧s'=(gj KD s ((i:Nat):Int) (iR (dR m)).1).hush∧W'=gJ (a.W.set (bC ((i:Nat):Int) ((j:Nat):Int)) l2) j (gj KD s ((i:Nat):Int) (iR (dR m)).1).o)) λg em=>?_) λv H hp=>?_
         · refine Leg.Does.ex (A':=λbs:List Nat=>[ah g.n (fb bs) 135,fL 184 5 bs (c8 a.W),ah c (eN g.n (mC g) (jX a g.r) g.p) 73,dk (g.d j) s.e.D,eX s (g.d j) (g.r j)]) (λhh q=>fu (aC [2,0,0,0] rfl q)) λbs=>?_
           have:=zY c g.n i (mC g) (jX a g.r) g.p hi j hj hv2 a.W h.W (m0::l0) hl (by rw[←hl];exact h8) (by rw[←hl];exact hlen) o m l2 ht bs (g.d j) (g.r j) s rfl em hso hs (by rw[hid];exact hij) (by omega);rw[sS h5 hat hto]at this;refine ln this λv H hp=>?_
           rcases hp with⟨hd,rfl,rfl⟩| ⟨hd,h1,rfl,rfl⟩| ⟨hd,h1,rfl,rfl⟩
           · exact⟨_,_, .inl ⟨hd,rfl,rfl,rfl⟩,rfl⟩
           · exact⟨_,_, .inr (.inl ⟨hd,h1,rfl,rfl,rfl⟩),rfl⟩
           · exact⟨_,_, .inr (.inr ⟨hd,h1,rfl,rfl,rfl⟩),rfl⟩
         · obtain⟨a',⟨s',W',hR,rfl⟩,rfl⟩:=hp
           have er: ∀W',CL.mk (a.ms.set j {a.at' j with run:=some s}) W'=CL.mk a.ms W':=λW'=>by
            have:=congrArg CL.ms (wM h hj hr);rw[show a.ms.set j {a.at' j with run:=some s}=a.ms from this]
           unfold ti;rw[ew,hr];rcases hR with⟨hd,rfl,rfl,rfl⟩| ⟨hd,h1,rfl,rfl,rfl⟩| ⟨hd,h1,rfl,rfl,rfl⟩
           · simp only[hd,if_true];exact⟨by first|rfl|trivial,by rw[er];rfl⟩
           · simp only[hd,if_neg h1];exact⟨by first|rfl|trivial,by rw[er];rfl⟩
           · simp only[hd,if_pos h1];exact⟨by first|rfl|trivial,rfl⟩
end
theorem Fo(c:Nat)(X:HP)(o:OpT)(hm:gQ o.at'=false):
 DT 25 #[(.pointer (some ⟨c,0,none⟩)),(.agg (ints o.flat).toArray)] T0 [X] (RI (.int .i64 5) [X]):=by
 refine BD 114 Tryz.func25 rfl rfl rfl λw0 F hF=>sr λ_ J1=>XY (ints o.flat) λb3=>?_
 refine PS ?_;refine nx J1 (ab λ_ J2=>sr λ_ J3=>PS ?_);refine FA 1 ff aR ?_;refine LU 0 Y3 (bN o rfl) ?_;refine CE qb (wZ c o.at') ID ?_;rw[hm];refine PS ?_;refine nx J3 (CY (sr λ_ J4=>PS ?_));exact nx J4 (ai (af (WK [1] (av rfl rfl ⟨rfl,rfl⟩))))
theorem Fg(c i:Nat)(hi:i<5)(X:HP)(o:OpT)(k:Int)(hk:k=5∨k=6∨k=7)(p:Int→HP→Prop)(hw:DT 46 #[(.pointer (some ⟨c,0,none⟩)),(.agg (ints (OpT.mk k ((i:Nat):Int) o.to' o.key o.n o.change o.mask o.torn o.cut).flat).toArray)] T0 [X] (dm (λv H=>∃e X',v= .int .i64 e∧H=[X']∧p e X'))):
 DT 25 #[(.pointer (some ⟨c,0,none⟩)),(.agg (ints (OpT.mk k ((i:Nat):Int) o.to' o.key o.n o.change o.mask o.torn o.cut).flat).toArray)] T0 [X] (dm (λv H=>∃e X',v= .int .i64 e∧H=[X']∧p e X')):=by
 refine BD 114 Tryz.func25 rfl rfl rfl λw0 F hF=>sr λ_ J1=>XY (ints (OpT.mk k ((i:Nat):Int) o.to' o.key o.n o.change o.mask o.torn o.cut).flat) λb3=>?_
 refine PS ?_;refine nx J1 (ab λ_ J2=>sr λ_ J3=>PS ?_);refine FA 1 ff aR ?_;refine LT 0 Y3 (.int .i64 (((i:Nat):Int))) ?_ (hc:=by exact bN _ rfl);refine CE qb (dT c i hi) ID ?_;refine PS ?_;refine nx J3 (CN (qx J2 (ab λ_ J4=>sr λ_ J5=>FA 0 ff aR ?_)));refine LT 0 Y3 (.int .i64 (k)) ?_ (hc:=by exact cN _ rfl);refine nx J5 (au (ab λ_ J6=>sr λ_ J7=>P2 ?_));refine ao ?_ ?_<;>intro h12
 · exact absurd h12 (by omega)
 refine nx J7 (CN (sr λ_ J8=>P2 ?_));refine ao ?_ ?_<;>intro h12
 · exact absurd h12 (by omega)
 refine nx J8 (CN (sr λ_ J9=>P2 ?_));refine ao ?_ ?_<;>intro h12
 · exact absurd h12 (by omega)
 refine nx J9 (CN (sr λ_ J10=>P2 ?_));refine ao ?_ ?_<;>intro h12
 · exact absurd h12 (by omega)
 refine nx J10 (CN (ad (PS ?_)));refine ao ?_ ?_<;>intro h17
 · exact absurd h17 (by omega)
 refine PS ?_;refine nx J6 (CN (ab λ_ J11=>e5 (α:=Unit) (λ_u=>True) (λ_u=>[(0,(.pointer (some ⟨c,0,none⟩))),(3,(.pointer (some ⟨b3,0,none⟩))),(4,(.int .i64 0)),(11,(.int .i64 (k))),(37,(.bool true))]) (λ_u=>[ah b3 (ints (OpT.mk k ((i:Nat):Int) o.to' o.key o.n o.change o.mask o.torn o.cut).flat) 63,X]) (λ_u hinv=>?_) (λtl11=>?_)));have _:=hinv;refine ac J11 (CY (sr λ_ J12=>PS ?_));refine LW 0 ff qT gg ?_;refine CR Qb (hw) (SM [1]) λvR HR hR=>?_
 obtain⟨e,X',rfl,rfl,hp⟩:=hR;refine PS ?_;exact nx J12 (ai (aH (af (WK [0] (av rfl rfl ⟨e,X',rfl,rfl,hp⟩)))));refine sr λ_ J13=>P2 ?_
 refine ao ?_ ?_<;>intro h37;refine nx J13 (CY (aT ?_))
 exact aE
  SB
  (λ_ s=>ak [0,0] rfl s)
  (tl11 (():Unit) trivial)
 refine nx J13 (CN (sr λ_ J14=>P2 ?_));refine ao ?_ ?_<;>intro h37;refine nx J14 (CY (aT ?_))
 exact aE
  SB
  (λ_ s=>ak [0,0] rfl s)
  (tl11 (():Unit) trivial)
 refine nx J14 (CN (ad (PS ?_)));refine ao ?_ ?_<;>intro h40;refine PS ?_;refine ap ?_
 exact aE
  SB
  (λ_ s=>ak [0,0] rfl s)
  (tl11 (():Unit) trivial)
 · exact absurd h40 (by omega)
theorem Dc(c i:Nat)(hi:i<5)(X:HP)(o:OpT)(k:Int)(hk:k<0∨11<k):
 DT 25 #[(.pointer (some ⟨c,0,none⟩)),(.agg (ints (OpT.mk k ((i:Nat):Int) o.to' o.key o.n o.change o.mask o.torn o.cut).flat).toArray)] T0 [X] (RI (.int .i64 5) [X]):=by
 refine BD 114 Tryz.func25 rfl rfl rfl λw0 F hF=>sr λ_ J1=>XY (ints (OpT.mk k ((i:Nat):Int) o.to' o.key o.n o.change o.mask o.torn o.cut).flat) λb3=>?_
 refine PS ?_;refine nx J1 (ab λ_ J2=>sr λ_ J3=>PS ?_);refine FA 1 ff aR ?_;refine LT 0 Y3 (.int .i64 (((i:Nat):Int))) ?_ (hc:=by exact bN _ rfl);refine CE qb (dT c i hi) ID ?_;refine PS ?_;refine nx J3 (CN (qx J2 (ab λ_ J4=>sr λ_ J5=>FA 0 ff aR ?_)));refine LT 0 Y3 (.int .i64 (k)) ?_ (hc:=by exact cN _ rfl);refine nx J5 (au (ab λ_ J6=>sr λ_ J7=>P2 ?_));refine ao ?_ ?_<;>intro h12
 · exact absurd h12 (by omega)
 refine nx J7 (CN (sr λ_ J8=>P2 ?_));refine ao ?_ ?_<;>intro h12
 · exact absurd h12 (by omega)
 refine nx J8 (CN (sr λ_ J9=>P2 ?_));refine ao ?_ ?_<;>intro h12
 · exact absurd h12 (by omega)
 refine nx J9 (CN (sr λ_ J10=>P2 ?_));refine ao ?_ ?_<;>intro h12
 · exact absurd h12 (by omega)
 refine nx J10 (CN (ad (PS ?_)));refine ao ?_ ?_<;>intro h17
 · exact absurd h17 (by omega)
 refine PS ?_;refine nx J6 (CN (ab λ_ J11=>sr λ_ J12=>P2 ?_));refine ao ?_ ?_<;>intro h37
 · exact absurd h37 (by omega)
 refine nx J12 (CN (sr λ_ J13=>P2 ?_));refine ao ?_ ?_<;>intro h37
 · exact absurd h37 (by omega)
 refine nx J13 (CN (ad (PS ?_)));refine ao ?_ ?_<;>intro h40
 · exact absurd h40 (by omega)
 refine PS ?_;refine nx J11 (CN (sr λ_ J14=>PS ?_));refine ao ?_ ?_<;>intro h45
 · exact absurd h45 (by omega)
 refine PS ?_;refine nx J14 (CN (sr λ_ J15=>PS ?_));refine ao ?_ ?_<;>intro h65
 · exact absurd h65 (by omega)
 refine PS ?_;refine nx J15 (CN (sr λ_ J16=>PS ?_));refine ao ?_ ?_<;>intro h77
 · exact absurd h77 (by omega)
 refine PS ?_;refine nx J16 (CN (sr λ_ J17=>PS ?_));refine ao ?_ ?_<;>intro h109
 · exact absurd h109 (by omega)
 refine PS ?_;refine nx J17 (CN (sr λ_ J18=>PS ?_));exact nx J18 (ai (aH (af (WK [1] (av rfl rfl ⟨rfl,rfl⟩)))))
section
variable {n c:Nat} {a:CL} {o:OpT}
theorem Da(h:CLOk n a)(hn:n≤100000)(ho:OkOp o):DT 25 #[.pointer (some ⟨c,0,none⟩), .agg (ints o.flat).toArray] T0 [fY c a] (dm λv H=>v= .int .i64 (zA a o).2∧H=[fY c (zA a o).1]):=by
 unfold zA
 by_cases hm:gQ o.at'=false
 · rw[if_pos hm]
   exact Fo c (fY c a) o hm
 · rw[if_neg hm]
   have hm:gQ o.at'=true:=by simpa using hm
   obtain⟨hi,hat⟩:=lT hm
   by_cases h1:0≤o.kind∧o.kind≤4
   · rw[if_pos h1];exact Kc h hn hi hat.symm h1 ho
   rw[if_neg h1]
   by_cases h2:o.kind=5∨o.kind=6∨o.kind=7
   · rw[if_pos h2]
     have:=Fg c _ hi (fY c a) o o.kind h2 (λe X=>e=(oF a o).2∧X=fY c (oF a o).1) (by
      rw[oV rfl hat.symm]
      exact ln (GC h hn hi hat.symm h2) λv H hp=>⟨_,_,hp.1,hp.2,rfl,rfl⟩)
     rw[oV rfl hat.symm]at this
     exact ln this λv H hp=>by
      obtain⟨e,X,rfl,rfl,rfl,rfl⟩:=hp;exact⟨rfl,rfl⟩
   rw[if_neg h2]
   by_cases h3:o.kind=8
   · rw[if_pos h3];exact IE h hi hat.symm h3
   rw[if_neg h3]
   by_cases h4:o.kind=9
   · rw[if_pos h4];exact Km h hi hat.symm h4
   rw[if_neg h4]
   by_cases h5:o.kind=10
   · rw[if_pos h5];exact Fv h hn hi hat.symm h5
   rw[if_neg h5]
   by_cases h6:o.kind=11
   · rw[if_pos h6];exact BX h hi hat.symm h6
   rw[if_neg h6];have:=Dc c _ hi (fY c a) o o.kind (by omega);rw[oV rfl hat.symm]at this;exact this
end
theorem wu(i:Nat):(cO i .new).1≠none:=by
 obtain⟨D',e,_⟩:=LogD.new.open rfl rfl;unfold cO;rw[e];simp[lL]
theorem uR{i:Nat}{s:MS LD}(h:(cO i .new).1=some s):mA i=⟨some s,(bP .new).D,[]⟩:=by
 show(g8 i .nil).1=_;unfold g8;show Slot.mk (cO i DS.new).1 _ _=_;rw[h];rfl
def dJ(i:Nat)(d:Nat→Nat):Nat→Value:=λj=>if j<i then .pointer (some ⟨d j,0,none⟩)else .pointer none
def Jg:Nat→Value:=λ_=> .slice none 0 0
theorem JV(i:Nat)(d:Nat→Nat)(x:Nat):la (dJ i d) i (.pointer (some ⟨x,0,none⟩))=dJ (i+1) (la d i x):=funext λj=>by
 unfold dJ la
 by_cases hj:j=i
 · subst hj;simp
 · rw[if_neg hj,if_neg hj]
   show(if j<i then _ else _)=_
   by_cases h:j<i
   · rw[if_pos h,if_pos (by omega)]
   · rw[if_neg h,if_neg (by omega)]
theorem Ia{n:Nat}{D M P D' M' P':Nat→Value}(h1: ∀i,i<5→D i=D' i)(h2: ∀i,i<5→M i=M' i)(h3: ∀i,i<5→P i=P' i):eN n D M P=eN n D' M' P':=by
 unfold eN;rw[dW (λi hi=>h1 i (dZ.1 hi)),dW (λi hi=>h2 i (dZ.1 hi)),dW (λi hi=>h3 i (dZ.1 hi))]
theorem wW{f g:Nat→HP}{i:Nat}(hg: ∀j,j<i→g j=f j){H:List HP}{h:Hl}(s:bD (g i::bD ((List.range i).map f)::H) h):bD (bD ((List.range (i+1)).map g)::H) h:=by
 have e:(List.range (i+1)).map g=(List.range i).map f++[g i]:=by
  rw[cZ,cz,dW (λj hj=>hg j (dZ.1 hj))];rfl
 rw[e];obtain⟨h1,h2,d,rfl,a,b⟩:=s;have s2:bD ((g i::(List.range i).map f)++H) (jn h1 h2):=⟨h1,h2,d,rfl,a,(bZ _ _).2 b⟩;exact(bZ _ _).1 (ei ((List.perm_append_comm (l₁:=[g i])).append_right H) s2)
abbrev xb(d r:Nat→Nat)(j:Nat):HP:=lI (mA j) (d j) (r j) (.slice none 0 0)
theorem Jz{d r:Nat→Nat}{i x y:Nat}{s:MS LD}(hs:(cO i .new).1=some s){X Y:HP}{h:Hl}(q:bD [eX s x y,dk x s.e.D,X,Y,bD ((List.range i).map (xb d r))] h):bD [X,Y,bD ((List.range (i+1)).map (xb (la d i x) (la r i y)))] h:=by
 have q2:=fR 47 3 q
 have e:xb (la d i x) (la r i y) i=bD [dk x s.e.D,kV (.slice none 0 0) [],eX s x y]:=by
  unfold xb lI ku Slot.dk p5;rw[iZ,iZ,uR hs]
 have q4:=(bZ [dk x s.e.D,kV (.slice none 0 0) [],eX s x y] [bD ((List.range i).map (xb d r)),X,Y]).1 (aC [2,0,0,2,0,0] rfl q2);have q5:=wW (i:=i) (f:=xb d r) (g:=xb (la d i x) (la r i y)) (H:=[X,Y]) (λj hj=>by unfold xb;rw[mQ d x (show j≠i by omega),mQ r y (show j≠i by omega)]) (by rw[e];exact q4);exact aC [1,1,0] rfl q5
theorem Jx(i:Nat)(hi:i<5):CL.new.at' i=mA i:=by simp[CL.new,CL.at',List.getD_eq_getElem?_getD,hi]
theorem Jy{c n:Nat}{d r:Nat→Nat}{h:Hl}(s:bD [ah c (eN n (dJ 5 d) (dJ 5 r) Jg) 73,eJ 135 184 5 n (List.replicate 25 []),bD ((List.range 5).map (xb d r))] h):bD [fY c .new] h:=by
 have e1:eN n (mC ⟨n,d,r,Jg⟩) (jX .new r) Jg=eN n (dJ 5 d) (dJ 5 r) Jg:=Ia (λi hi=>by unfold dJ;rw[if_pos hi]) (λi hi=>by
  unfold dJ;rw[if_pos hi];show yu (CL.new.at' i) (r i)=_;rw[Jx i hi];cases hs:(cO i .new).1 with
  |none=>exact absurd hs (wu i)
  |some s=>rw[uR hs];rfl) (λ_ _=>rfl)
 have e2:(List.range 5).map (λi=>lI (CL.new.at' i) (d i) (r i) (Jg i))=(List.range 5).map (xb d r):=dW λi hi=>by
  rw[Jx i (dZ.1 hi)];rfl
 have e3:c8 CL.new.W=List.replicate 25 []:=rfl;refine bp (p:=rf c .new) (H:=[]) ⟨n,d,r,Jg⟩ ?_;unfold rf;rw[e1,e2,e3];exact s
theorem zl:
 DT 20 #[] T0 [] (dm (λv H=>∃c,v= .pointer (some ⟨c,0,none⟩)∧H=[fY c .new])):=by
 refine BD 33 Tryz.func20 rfl rfl rfl λw0 F hF=>sr λ_ J1=>PS ?_
 refine nx J1 (sr λ_ J2=>CR Qd (Cw) ID λvR HR hR=>?_);obtain⟨n,rfl,rfl⟩:=hR;refine BV #[(.pointer (some ⟨n,0,none⟩)),(.pointer none),(.pointer none),(.pointer none),(.pointer none),(.pointer none),(.pointer none),(.pointer none),(.pointer none),(.pointer none),(.pointer none),(.slice none 0 0),(.slice none 0 0),(.slice none 0 0),(.slice none 0 0),(.slice none 0 0)] ?_;refine XB λb5=>?_
 refine PS ?_;refine nx J2 (ab λ_ J3=>sr λ_ J4=>PS ?_);refine nx J4 (au ?_)
 refine bn (α:=(Nat)×(Nat→Nat)×(Nat→Nat)) (λ⟨i,d,r⟩=>i≤5) (λ⟨i,d,r⟩=>[(0,(.pointer none)),(1,(.pointer (some ⟨b5,0,none⟩))),(6,(.int .i64 (((i:Nat):Int))))]) (λ⟨i,d,r⟩=>[ah b5 (eN n (dJ i d) (dJ i r) Jg) 73,eJ 135 184 5 n (List.replicate 25 []),bD ((List.range i).map (xb d r))]) (λ⟨i,d,r⟩=>5-i) (0,λ_=>0,λ_=>0)
  (aM _) SB
  (λ_ s=>aC [1,1,0] rfl (p1 s)) (λ⟨i,d,r⟩ hinv=>?_)
 obtain hi:=hinv;refine sr λ_ J5=>PS ?_
 refine ao ?_ ?_<;>intro h7;have hlt:i<5:=by omega
 refine nx J5 (ab λ_ J6=>CY (qx J6 (ab λ_ J7=>au (sr λ_ J8=>P2 ?_))));refine nx J8 (ab λ_ J9=>D0 dp ?_);refine PD 0 ?_;refine PD 1 ?_;refine PD 3 ?_;refine FD 4 1 pL Ak ?_;refine AL 2 ?_;refine CR Oh (JR) ID λvR HR hR=>?_
 obtain⟨dn,rfl,rfl⟩:=hR;refine EN (IY 5 (1+i) L1 vi ?_);refine AL 6 ?_;refine bz (i:=1) (aa rfl) rfl rfl rfl rfl rfl vi rfl rfl (by rw[rU];omega) (LO n (dJ i d) (dJ i r) Jg (.pointer (some ⟨dn,0,none⟩)) hlt) rfl (EN (DN (ac J9 (D0 dp ?_))));refine PD 0 ?_;refine PD 1 ?_;refine PD 2 ?_;refine PD 3 ?_;refine PD 4 ?_;refine PD 5 ?_;refine FD 6 1 pL Ak ?_;refine IY 7 (1+i) L1 vi ?_;refine PD 13 ?_;refine FD 14 6 pL pw ?_;refine AL 8 ?_;refine LT 1 Ih (.pointer (some ⟨dn,0,none⟩)) ?_ (hc:=by exact(Du n (la (dJ i d) i (.pointer (some ⟨dn,0,none⟩))) (dJ i r) Jg hlt).trans (congrArg some (iZ (dJ i d) i _)));refine EN (AL 9 ?_);refine CR Nl (pZ i dn .new DkOk.new) ID λvR HR hR=>?_
 rcases hR with⟨hn,_⟩| ⟨s,rn,hs,rfl,rfl⟩
 · exact absurd hn (wu i)
 refine EN (PD 10 ?_);refine PD 11 ?_;refine PD 12 ?_;refine IY 15 (6+i) vw kh ?_;refine AL 16 ?_;refine bz (i:=2) (aa rfl) rfl rfl rfl rfl rfl kh rfl rfl (by rw[rU];omega) (vN n (la (dJ i d) i (.pointer (some ⟨dn,0,none⟩))) (dJ i r) Jg (.pointer (some ⟨rn,0,none⟩)) hlt) rfl (EN (DN (ag (ac J7 (ad (AD ?_))))));refine PS ?_;refine ap ?_
 exact aI ((i+1,la d i dn,la r i rn):(Nat)×(Nat→Nat)×(Nat→Nat)) (by omega) (by show 5- (i+1)<5-i;omega)
  SB
  (λ_ q=>by
   show bD [ah b5 (eN n (dJ (i+1) (la d i dn)) (dJ (i+1) (la r i rn)) Jg) 73,_,_] _;rw[←JV,←JV]
   exact Jz hs (aC [0,0,0,0,0] rfl q))
 refine nx J5 (ab λ_ J10=>CN (aX (aA (aA (bl (ac J3 (sr λ_ J11=>P2 ?_)))))));exact nx J11 (ai (aE (H':=[fY b5 .new]) (db _) (λ_ s=>by have h5:i=5:=(by omega);subst h5;exact Jy s) (av rfl rfl ⟨b5,rfl,rfl⟩)))
theorem CA(c n i:Nat)(D M P:Nat→Value)(hi:i<5)(hM:M i= .pointer none):
 DT 11 #[(.pointer (some ⟨c,0,none⟩)),(.int .i64 (((i:Nat):Int)))] T0 [ah c (eN n D M P) 73] (RI (.pointer none) [ah c (eN n D M P) 73]):=by
 refine BD 15 Tryz.func11 rfl rfl rfl λw0 F hF=>sr λ_ J1=>PS ?_
 refine nx J1 (ab λ_ J2=>sr λ_ J3=>P2 ?_);refine CE Cr (sB c n i D M P hi hM) ID ?_;refine PS ?_;refine nx J3 (CY (sr λ_ J4=>PS ?_));exact nx J4 (ai (af (WK [0] (av rfl rfl ⟨rfl,rfl⟩))))
theorem Cz(c n i:Nat)(D M P:Nat→Value)(hi:i<5)(d r:Nat)(e:DS)(hD:D i= .pointer (some ⟨d,0,none⟩))(hM:M i= .pointer (some ⟨r,0,none⟩)):
 DT 11 #[(.pointer (some ⟨c,0,none⟩)),(.int .i64 (((i:Nat):Int)))] T0 [ah c (eN n D M P) 73,dk d e] (dm (λv H=>((e.dn=false∧v= .pointer (some ⟨r,0,none⟩))∨(e.dn=true∧v= .pointer none))∧H=[ah c (eN n D M P) 73,dk d e])):=by
 refine BD 15 Tryz.func11 rfl rfl rfl λw0 F hF=>sr λ_ J1=>PS ?_
 refine nx J1 (ab λ_ J2=>sr λ_ J3=>P2 ?_);refine CE Cr (sA c n i D M P hi d r e hD hM) ID ?_;refine bc ?_ ?_<;>intro h7;refine PS ?_;refine nx J3 (CN (qx J2 (sr λ_ J4=>P3 ?_)));refine FA 6 pL pw ?_;refine IX (6+i) vw kh ?_;refine LT 0 uA (.pointer (some ⟨r,0,none⟩)) ?_ (hc:=by exact(xP n D M P hi).trans (congrArg some hM));refine PS ?_;refine nx J4 (ai (WK [0,0] (av rfl rfl ?_)));exact⟨.inl ⟨(by simpa using h7),rfl⟩,rfl⟩;refine PS ?_;refine nx J3 (CY (sr λ_ J5=>PS ?_));refine nx J5 (ai (af (WK [0,0] (av rfl rfl ?_))));exact⟨.inr ⟨(by simpa using h7),rfl⟩,rfl⟩
theorem Fq(c n i:Nat)(D M P:Nat→Value)(hi:i<5)(d:Nat)(hD:D i= .pointer (some ⟨d,0,none⟩)):
 DT 54 #[(.pointer (some ⟨c,0,none⟩)),(.int .i64 (((i:Nat):Int)))] T0 [ah c (eN n D M P) 73] (RI (.pointer (some ⟨d,0,none⟩)) [ah c (eN n D M P) 73]):=by
 refine BD 15 Tryz.func54 rfl rfl rfl λw0 F hF=>sr λ_ J1=>PS ?_
 refine nx J1 (ab λ_ J2=>sr λ_ J3=>P2 ?_);refine CE qb (dT c i hi) ID ?_;refine PS ?_;refine nx J3 (CN (qx J2 (sr λ_ J4=>P3 ?_)));refine FA 1 pL Ak ?_;refine IX (1+i) L1 vi ?_;refine LT 0 Ih (.pointer (some ⟨d,0,none⟩)) ?_ (hc:=by exact(Du n D M P hi).trans (congrArg some hD));refine PS ?_;exact nx J4 (ai (WK [0] (av rfl rfl ⟨rfl,rfl⟩)))
abbrev Aq(c:Nat)(a:CL)(i:Nat)(g:CX):List HP:=ah c (eN g.n (mC g) (jX a g.r) g.p) 73::eJ 135 184 5 g.n (c8 a.W)::ku (a.at' i) (g.d i) (g.r i) (g.p i)
def bq(c:Nat)(a:CL)(g:CX):HP:=bD (rf c a g)
theorem Hn{α:Type}(A B C:List α):((A++B)++C).Perm ((A++C)++B):=by
 rw[aS,aS];exact List.Perm.append_left _ List.perm_append_comm
section
variable {f:FuncId} {args:Array Value} {c i:Nat} {a:CL} {g:CX}
theorem JX{h:Hl}(s:bD [fY c a] h): ∃g,bD [bq c a g] h:=by
 obtain⟨g,s⟩:=fu s;exact⟨g,(bZ (rf c a g) []).1 s⟩
theorem H7{H:List HP}{h:Hl}(s:bD (fY c a::H) h): ∃g,bD (bq c a g::H) h:=by
 obtain⟨h1,h2,d,e,⟨g,t⟩,s2⟩:=s;exact⟨g,h1,h2,d,e,t,s2⟩
theorem H8{H:List HP}{h:Hl}(s:bD (bq c a g::H) h):bD (fY c a::H) h:=cD s (λ_ t=>⟨g,t⟩) λ_ t=>t
theorem GV(hi:i<5){h:Hl}(s:bD [bq c a g] h):bD (Aq c a i g++[bD (((List.range 5).map λi=>lI (a.at' i) (g.d i) (g.r i) (g.p i)).eraseIdx i)]) h:=by
 have s0:bD (rf c a g++[]) h:=(bZ _ _).2 s;have s2:=tT (f:=λi=>lI (a.at' i) (g.d i) (g.r i) (g.p i)) hi (aC [2,0,0] rfl s0);have s3:=(bZ (ku (a.at' i) (g.d i) (g.r i) (g.p i)) _).2 s2;exact aC [4,4,0,0,0,0] rfl s3
theorem GU(hi:i<5){h:Hl}(s:bD (Aq c a i g++[bD (((List.range 5).map λi=>lI (a.at' i) (g.d i) (g.r i) (g.p i)).eraseIdx i)]) h):bD [bq c a g] h:=by
 have s1:=aC [2,2,2,2,0,0] rfl s;have s2:=(bZ (ku (a.at' i) (g.d i) (g.r i) (g.p i)) _).1 s1;have s3:=tS (f:=λi=>lI (a.at' i) (g.d i) (g.r i) (g.p i)) (g:=λi=>lI (a.at' i) (g.d i) (g.r i) (g.p i)) hi (λ_ _=>rfl) s2;exact(bZ (rf c a g) []).1 (aC [1,1,0] rfl s3)
theorem A8{Q:Value→List HP→Prop}(hi:i<5)(core:DT f args T0 (Aq c a i g) (dm λv H=>∃X,Q v X∧H=Aq c a i g++X)):
 DT f args T0 [bq c a g] (dm λv H=>∃X,Q v X∧H=bq c a g::X):=by
 refine Leg.Does.withinR (B:=[bD (((List.range 5).map λi=>lI (a.at' i) (g.d i) (g.r i) (g.p i)).eraseIdx i)]) core (λ_ _ _ _=>trivial) (λh s=>GV hi s) λv H hp=>?_
 obtain⟨X,hQ,rfl⟩:=hp;refine⟨_,λh s=>?_,X,hQ,rfl⟩;have s1:=(bZ _ X).1 (ei (Hn (Aq c a i g) X [bD (((List.range 5).map λi=>lI (a.at' i) (g.d i) (g.r i) (g.p i)).eraseIdx i)]) s);exact(bZ [bq c a g] X).2 (cD s1 (λh t=>GU hi t) λ_ t=>t)
theorem Fs{Q:Value→Prop}(hi:i<5)(core:DT f args T0 (Aq c a i g) (dm λv H=>Q v∧H=Aq c a i g)):
 DT f args T0 [bq c a g] (dm λv H=>Q v∧H=[bq c a g]):=
 ln (A8 (Q:=λv X=>Q v∧X=[]) hi (ln core λv H hp=>by
  obtain⟨h1,rfl⟩:=hp
  exact⟨[],⟨h1,rfl⟩,(aP _).symm⟩)) λv H hp=>by
  obtain⟨X,⟨h1,rfl⟩,rfl⟩:=hp;exact⟨h1,rfl⟩
theorem KJ{x:Slot}{s:MS LD}(h:x.run=some s):x.up= !s.e.D.dn:=by unfold Slot.up;rw[h]
theorem FM{x:Slot}(h:x.run=none):x.up=false:=by unfold Slot.up;rw[h]
theorem tO{s:MS LD}(hs:(a.at' i).run=some s):Aq c a i g=[ah c (eN g.n (mC g) (jX a g.r) g.p) 73,eJ 135 184 5 g.n (c8 a.W),dk (g.d i) s.e.D,kV (g.p i) (a.at' i).past,eX s (g.d i) (g.r i)]:=by
 unfold Aq ku Slot.dk p5;rw[hs]
def Gb(a:CL)(g:CX)(i:Nat):Value:=if(a.at' i).up then .pointer (some ⟨g.r i,0,none⟩)else .pointer none
theorem ES(hi:i<5):DT 11 #[.pointer (some ⟨c,0,none⟩), .int .i64 ((i:Nat):Int)] T0 [bq c a g] (dm λv H=>v=Gb a g i∧H=[bq c a g]):=by
 refine Fs (Q:=λv=>v=Gb a g i) hi ?_;unfold Gb;cases hr:(a.at' i).run with
 |none=>
  rw[FM hr];refine Leg.Does.withinR (A:=[ah c (eN g.n (mC g) (jX a g.r) g.p) 73]) (B:=eJ 135 184 5 g.n (c8 a.W)::ku (a.at' i) (g.d i) (g.r i) (g.p i)) (CA c g.n i (mC g) (jX a g.r) g.p hi (m8 hr)) (λ_ _ _ _=>trivial) (λh s=>s) λv H hp=>?_
  obtain⟨rfl,rfl⟩:=hp;exact⟨_,λh s=>s,rfl,rfl⟩
 |some s=>
  rw[KJ hr,tO hr];refine Leg.Does.withinR (B:=[eJ 135 184 5 g.n (c8 a.W),kV (g.p i) (a.at' i).past,eX s (g.d i) (g.r i)]) (Cz c g.n i (mC g) (jX a g.r) g.p hi (g.d i) (g.r i) s.e.D rfl (sZ hr)) (λ_ _ _ _=>trivial) (λh s=>aC [0,1,0,0,0] rfl s) λv H hp=>?_
  obtain⟨hv,rfl⟩:=hp;refine⟨_,λh s=>aC [0,1,0,0,0] rfl s,?_,rfl⟩;rcases hv with⟨h1,rfl⟩| ⟨h1,rfl⟩<;>rw[h1]<;>rfl
theorem xL(hi:i<5):DT 54 #[.pointer (some ⟨c,0,none⟩), .int .i64 ((i:Nat):Int)] T0 [bq c a g] (dm λv H=>v= .pointer (some ⟨g.d i,0,none⟩)∧H=[bq c a g]):=by
 refine Fs (Q:=λv=>v= .pointer (some ⟨g.d i,0,none⟩)) hi ?_;refine Leg.Does.withinR (A:=[ah c (eN g.n (mC g) (jX a g.r) g.p) 73]) (B:=eJ 135 184 5 g.n (c8 a.W)::ku (a.at' i) (g.d i) (g.r i) (g.p i)) (Fq c g.n i (mC g) (jX a g.r) g.p hi (g.d i) rfl) (λ_ _ _ _=>trivial) (λh s=>s) λv H hp=>?_
 obtain⟨rfl,rfl⟩:=hp;exact⟨_,λh s=>s,rfl,rfl⟩
theorem oS{n:Nat}(h:CLOk n a)(hn:n≤100000)(hi:i<5):DT 15 #[.pointer (some ⟨c,0,none⟩), .int .i64 ((i:Nat):Int)] T0 [bq c a g] (dm λv H=>∃u,u.oneCell'=true∧v=u∧H=[bq c a g,kV u (a.at' i).reps]):=by
 refine ln (A8 (Q:=λv X=>v.oneCell'=true∧X=[kV v (a.at' i).reps]) hi ?_) λv H hp=>by
  obtain⟨X,⟨h1,rfl⟩,rfl⟩:=hp;exact⟨v,h1,rfl,rfl⟩
 have hl:=(h.at' i hi).reps;unfold Slot.reps at hl ⊢;cases hr:(a.at' i).run with
 |none=>
  rw[hr]at hl;simp only[aP]at hl ⊢;refine Leg.Does.withinR (A:=[ah c (eN g.n (mC g) (jX a g.r) g.p) 73,kV (g.p i) (a.at' i).past]) (B:=[eJ 135 184 5 g.n (c8 a.W),dk (g.d i) (a.at' i).dk,p5 (a.at' i) (g.d i) (g.r i)]) (wR c g.n i (mC g) (jX a g.r) g.p hi (m8 hr) (a.at' i).past (by omega)) (λ_ _ _ _=>trivial) (λh s=>aC [0,2,0,0,0] rfl s) λv H hp=>?_
  obtain⟨u,hu,rfl,rfl⟩:=hp;exact⟨_,λh s=>aC [0,2,2,0,1,0] rfl s,[kV v (a.at' i).past],⟨hu,rfl⟩,rfl⟩
 |some s=>
  rw[hr]at hl;simp only[ae]at hl;rw[tO hr];refine Leg.Does.withinR (B:=[eJ 135 184 5 g.n (c8 a.W),dk (g.d i) s.e.D]) (wQ c g.n i (mC g) (jX a g.r) g.p hi (g.d i) (g.r i) s (sZ hr) (a.at' i).past (by omega) (by omega)) (λ_ _ _ _=>trivial) (λh s=>aC [0,2,2,0,0] rfl s) λv H hp=>?_
  obtain⟨u,hu,rfl,rfl⟩:=hp;exact⟨_,λh s=>aC [0,3,3,0,0,0] rfl s,[kV v ((a.at' i).past++s.replies)],⟨hu,rfl⟩,rfl⟩
theorem JB{s:MS LD}{Q:Value→Prop}(hi:i<5)(hs:(a.at' i).run=some s)(hf:DT f args T0 [eX s (g.d i) (g.r i)] (dm λv H=>Q v∧H=[eX s (g.d i) (g.r i)])):DT f args T0 [bq c a g] (dm λv H=>Q v∧H=[bq c a g]):=by
 refine Fs hi ?_;rw[tO hs];refine Leg.Does.withinR (B:=[ah c (eN g.n (mC g) (jX a g.r) g.p) 73,eJ 135 184 5 g.n (c8 a.W),dk (g.d i) s.e.D,kV (g.p i) (a.at' i).past]) hf (λ_ _ _ _=>trivial) (λh q=>aC [4,0,0,0,0] rfl q) λv H hp=>?_
 obtain⟨hQ,rfl⟩:=hp;exact⟨_,λh q=>aC [1,1,1,1,0] rfl q,hQ,rfl⟩
theorem wN{s:MS LD}{d r:Nat}{v0:RepT→Value}(hf: ∀x,DT f args T0 [ah r (RepT.cells x) 87] (dm λv H=>v=v0 x∧H=[ah r (RepT.cells x) 87])){w:Value}(hv: ∀a,v0 (s.rep a)=w):DT f args T0 [eX s d r] (dm λv H=>v=w∧H=[eX s d r]):=
 Leg.Does.pack (B:=[]) λx=>Leg.Does.withinR (A:=[ah r (RepT.cells (s.rep x)) 87]) (B:=[Gf x.lg d ((s.e.cnt:Nat):Int) s.e.used,kV x.rs s.replies,FL x.vo s.vote]) (hf (s.rep x)) (λ_ _ _ _=>trivial) (λ_ q=>q) λv H hp=>by
  obtain⟨rfl,rfl⟩:=hp;exact⟨[eX s d r],λ_ q=>bp (p:=G0 s d r) (H:=[]) x q,hv x,rfl⟩
theorem oH(s:MS LD)(d r:Nat):DT 12 #[.pointer (some ⟨r,0,none⟩)] T0 [eX s d r] (dm λv H=>v= .agg (ints s.view.flat).toArray∧H=[eX s d r]):=wN (λx=>Ex r x) λ_=>rfl
theorem Hq(s:MS LD)(d r:Nat):DT 13 #[.pointer (some ⟨r,0,none⟩)] T0 [eX s d r] (dm λv H=>v= .agg (ints s.own.flat).toArray∧H=[eX s d r]):=wN (λx=>Hb r x) λ_=>rfl
theorem HE(s:MS LD)(d r:Nat)(who:Int):DT 33 #[.pointer (some ⟨r,0,none⟩), .int .i64 who] T0 [eX s d r] (dm λv H=>v= .tuple #[.agg (ints (dr s.mirror who).flat).toArray, .bool (fe s.mirror who)]∧H=[eX s d r]):=wN (λx=>wX r x who) λ_=>rfl
theorem xh(hi:i<5):DT 11 #[.pointer (some ⟨c,0,none⟩), .int .i64 ((i:Nat):Int)] T0 [bq c a g] (dm λv H=>((a.at' i).up=false∧v= .pointer none∧H=[bq c a g])∨∃s,(a.at' i).run=some s∧(a.at' i).up=true∧v= .pointer (some ⟨g.r i,0,none⟩)∧H=[bq c a g]):=
 ln (ES hi) λv H hp=>by
  obtain⟨rfl,rfl⟩:=hp;unfold Gb;cases hu:(a.at' i).up with
  |false=>exact .inl ⟨rfl,rfl,rfl⟩
  |true=>
   cases hs:(a.at' i).run with
   |none=>rw[FM hs]at hu;cases hu
   |some s=>exact .inr ⟨s,rfl,rfl,rfl,rfl⟩
end
end Go.Proofs.YtfocodjhmkokpaaGreatDoor
end

section
namespace Api
open Go Leg Codec Dsk Wal
def EW{α:Type}(f:α→List Int)(us:List Value)(x:α)(_:Hl):Prop:=us=ints (f x)∧WF (f x)
theorem MI{α:Type}{f:α→List Int}{m:Nat}{v:Value}{l:List α}{F:Hl}(h:IsL m (EW f) v l F):IsL m (EF f) v l F∧∀o∈l,WF (f o):=by
 rcases h with⟨rfl,rfl⟩| ⟨a,c,rfl,rfl⟩| ⟨b,off,cap,cs,T,z,rfl,h1,h2,h3,h4⟩
 · exact⟨.inl ⟨rfl,rfl⟩,λo ho=>by cases ho⟩
 · exact⟨.inr (.inl ⟨a,c,rfl,rfl⟩),λo ho=>by cases ho⟩
 · refine⟨.inr (.inr ⟨b,off,cap,cs,T,z,rfl,h1,h2,h3,λj hj=>?_⟩),λo ho=>?_⟩
   · obtain⟨us,e1,e2,e3⟩:=h4 j hj
     exact⟨us,e1,e2,e3.1⟩
   · obtain⟨j,hj,rfl⟩:=eO ho
     obtain⟨us,e1,e2,e3⟩:=h4 j hj;exact e3.2
theorem La{o:OpT}(h:WF o.flat):OkOp o:=by
 refine⟨⟨λn hn=>h n ?_⟩,?_⟩
 · simp only[OpT.flat,ci,bJ,List.not_mem_nil,or_false]
   simp[hn]
 · have:=vW (h o.n (by simp[OpT.flat]))
   omega
theorem M5{x:Value}{l:List OpT}{F:Hl}(h:IsL 11 (EW OpT.flat) x l F): ∀o∈l,OkOp o:=λo ho=>La ((MI h).2 o ho)
section
variable {A m:List ReplyT} {e:Int}
end
end Api
end

section
namespace Go.Proofs.YtfocodjhmkokpaaGreatDoor
open Go Leg Codec Api Dsk Wal
theorem EU(x:Value)(l:List OpT):
 DT 8 #[x] (IsL 11 (EF OpT.flat) x l) [] (RI (.bool (decide (((l.length:Nat):Int)≤1200))) []):=by
 refine BD 6 Tryz.func8 rfl rfl rfl λw0 F hF=>sr λ_ J1=>PS ?_
 refine nx J1 (sr λ_ J2=>PS ?_);refine tp (df rfl Kq rfl hF.len) ?_;refine P2 ?_;exact nx J2 (ai (WK [] (av rfl rfl ⟨rfl,rfl⟩)))
theorem kM{D:DS}(hD:Whole D.s): ∀k,k≤2048→Wrote .new k (0,kN D k)∧(kN D k).ar=false∧(kN D k).dn=false
 |0,_=>⟨Wrote.none DkOk.new.ok DkOk.new.inn,rfl,rfl⟩
 |k+1,hk=>by
  obtain⟨h,ha,hd⟩:=kM hD k (by omega);rw[kN];split
  · exact⟨h.more (by omega),ha,hd⟩
  · have h1:0≤((k:Nat):Int)∧((k:Nat):Int)<2048:=by omega
    have h2:(jb D.s ((k:Nat):Int)).length≤64:=by rw[cx hD];exact aL _
    have w:=rl h1 h2 hd (.inl ha);have o:=Wrote.one h.1 h.2.1 h1 h2;rw[w]at o ⊢;exact⟨h.then rfl o,by show(AH _ _ _).ar=false;unfold AH;exact ha,rfl⟩
theorem BM{D:DS}(hD:Whole D.s):DkOk (nw D):=by
 obtain⟨h,_⟩:=kM hD 2048 (aL _);exact(DkOk.wrote DkOk.new h (aL _)).2
theorem Ej{D:DS}(hD:Whole D.s)(k:Nat)(hk:k≤2048):(kN D k).ws.length≤2048:=by
 obtain⟨⟨_,_,h⟩,_,hd⟩:=kM hD k hk;rcases h with⟨h,_⟩| ⟨_,h,_⟩
 · cases h
 · have:(DS.new).ws.length=0:=rfl
   have h:(kN D k).ws.length≤(DS.new).ws.length+k:=h;omega
theorem FH(i d:Nat)(D:DS)(hok:DkOk D):
 DT 55 #[(.int .i64 (((i:Nat):Int))),(.pointer (some ⟨d,0,none⟩))] T0 [dk d D] (dm (λv H=>((cO i (nw D)).1=none∧v= .pointer none∧H=[dk d D])∨∃s r dn,(cO i (nw D)).1=some s∧v= .pointer (some ⟨r,0,none⟩)∧H=[dk d D,eX s dn r])):=by
 refine BD 36 Tryz.func55 rfl rfl rfl λw0 F hF=>sr λ_ J1=>PS ?_
 refine nx J1 (sr λ_ J2=>CR Oh (JR) ID λvR HR hR=>?_);obtain⟨dn,rfl,rfl⟩:=hR;refine PS ?_;refine nx J2 (ab λ_ J3=>sr λ_ J4=>PS ?_);refine nx J4 (au ?_)
 refine bn (α:=(Nat)) (λk=>k≤2048) (λk=>[(0,(.int .i64 (((i:Nat):Int)))),(1,(.pointer (some ⟨d,0,none⟩))),(4,(.pointer none)),(5,(.pointer (some ⟨dn,0,none⟩))),(11,(.int .i64 (((k:Nat):Int))))]) (λk=>[dk d D,dk dn (kN D k)]) (λk=>2048-k) 0
  (aM _) SB
  (λ_ s=>aC [1,0] rfl s) (λk hinv=>?_)
 obtain hk:=hinv;refine sr λ_ J5=>PS ?_
 refine ao ?_ ?_<;>intro h12;refine nx J5 (ab λ_ J6=>CY (qx J6 (ab λ_ J7=>au (sr λ_ J8=>P2 ?_))));refine nx J8 (sr λ_ J9=>P2 ?_);refine CE PT (Ly d D ((k:Nat):Int) hok.ok) ID ?_;refine XA z173 λb7=>?_
 refine bO (vs:=dH (jb D.s ((k:Nat):Int))) (i:=0) (aa rfl) rfl rfl rfl rfl rfl (by rw[aY,cx hok.ok.s];exact jF) (eV _) rfl rfl (by rw[aY,cx hok.ok.s];exact aL _) (gh (by rw[aY,cx hok.ok.s];rfl)) rfl (nx J9 (sr λ_ J10=>tp (aN (vs:=dH (jb D.s ((k:Nat):Int))) rfl pB rfl jF rfl (RO 0) (by rw[aY];exact cx hok.ok.s _) (by rw[aV,az (by rw[aY,cx hok.ok.s];exact aL _)])) ?_));refine BV ((dH zs).toArray) ?_;refine tp (PV.neqB (a:=(jb D.s ((k:Nat):Int))) (b:=zs) (m:=2) Me Md rfl Mf Mh Mg (cx hok.ok.s _) (by simp[zs]) rfl rfl rfl) ?_;refine ao ?_ ?_<;>intro h19;refine nx J10 (CY (ad (P2 ?_)));refine tp (l5 rfl pB jK rfl) ?_;refine CF M8 (xK dn (kN D k) ((k:Nat):Int) (.slice (some ⟨b7,0,none⟩) (64) (64)) ((jb D.s ((k:Nat):Int))) (kM hok.ok.s k (by omega)).1.1 (by have:=Ej hok.ok.s k (by omega);omega)) (SM [2]) (λg d s=>Gv (CK 0 64 (cx hok.ok.s _) (by decide) rfl rfl g d s)) ?_;refine ap (ag (ac J7 (ad (AD ?_))));refine PS ?_;refine ap ?_
 exact aI ((k+1):(Nat)) (by omega) (by show 2048- (k+1)<2048-k;omega)
  SB
  (λ_ s=>by rw[kN,if_neg h19];exact ak [2,0] rfl s)
 refine nx J10 (CN (aT (ag (ac J7 (ad (AD ?_))))));refine PS ?_;refine ap ?_
 exact aI ((k+1):(Nat)) (by omega) (by show 2048- (k+1)<2048-k;omega)
  SB
  (λ_ s=>by rw[kN,if_pos (Decidable.not_not.1 h19)];exact ak [1,1] rfl s)
 refine nx J5 (ab λ_ J11=>CN (aX (aA (aA (bl (ac J3 (sr λ_ J12=>?_)))))));obtain rfl:k=2048:=by omega
 refine PS ?_;refine CE M7 (A6 dn (kN D 2048) (kM hok.ok.s 2048 (by omega)).1.1) (SM [1]) ?_;refine nx J12 (sr λ_ J13=>P2 ?_);refine CR Nl (pZ i dn (nw D) (BM hok.ok.s)) ID λvR HR hR=>?_
 rcases hR with⟨hn,h0,rfl,rfl⟩| ⟨s,r,hn,rfl,rfl⟩
 refine P4 ?_;refine PS ?_;refine nx J13 (ab λ_ J14=>sr λ_ J15=>P2 ?_);refine ao ?_ ?_<;>intro h34;refine nx J15 (CY (sr λ_ J16=>PS ?_));exact nx J16 (ai (af (WK [1] (av rfl rfl (.inl ⟨hn,rfl,rfl⟩)))))
 · exact absurd h34 (by simpa using h0)
 refine P4 ?_;refine PS ?_;refine nx J13 (ab λ_ J17=>sr λ_ J18=>P2 ?_);refine nx J18 (CN (qx J17 (sr λ_ J19=>P2 ?_)));exact nx J19 (ai (WK [2,0] (av rfl rfl (.inr ⟨s,r,dn,hn,rfl,rfl⟩))))
def PE(a:CL)(i:Nat)(d r:Nat):HP:=match NF a i with
 |some s=>eX s d r
 |none=>λ_=>True
abbrev vv(a:CL)(d r:Nat→Nat)(j:Nat):HP:=PE a j (d j) (r j)
def nQ(a:CL)(d r:Nat→Nat):HP:=bD ((List.range 5).map (vv a d r))
def sK(a:CL)(g:CX)(r:Nat→Nat)(i:Nat):Nat:=if(a.at' i).up then g.r i else r i
def lK(a:CL)(g:CX)(r:Nat→Nat)(i:Nat):Value:=match jc a i with
 |some _=> .pointer (some ⟨sK a g r i,0,none⟩)
 |none=> .pointer none
def kY(a:CL)(g:CX)(r:Nat→Nat)(i:Nat):List Value:=(List.range 5).map λj=>if j<i then lK a g r j else .pointer none
section
variable {a:CL} {g:CX} {r d:Nat→Nat} {i x y:Nat}
theorem jj:(kY a g r i).length=5:=by simp[kY]
theorem JA: ∀u∈kY a g r i,u.oneCell'=true:=λu hu=>by
 unfold kY at hu;obtain⟨j,_,rfl⟩:=eB.1 hu;unfold lK
 repeat' split
 all_goals rfl
theorem xj{v:Value}(hi:i<5){r':Nat→Nat}(hr: ∀j,j<i→lK a g r' j=lK a g r j)(hv:v=lK a g r' i):(kY a g r i).set i v=kY a g r' (i+1):=by
 refine List.ext_getElem? λj=>?_
 unfold kY
 by_cases hj:j=i
 · subst hj
   rw[List.getElem?_set_self (by simp;omega),List.getElem?_map,List.getElem?_range hi];simp[hv]
 · rw[List.getElem?_set_ne (λe=>hj e.symm),List.getElem?_map,List.getElem?_map]
   by_cases h5:j<5
   · rw[List.getElem?_range h5]
     simp only[Option.map_some]
     by_cases h:j<i
     · rw[if_pos h,if_pos (by omega),hr j h]
     · rw[if_neg h,if_neg (by omega)]
   · rw[List.getElem?_eq_none (by rw[js];omega)];rfl
theorem Gd{v:Value}(hi:i<5):((kY a g r i).set i v)[i]?=some v:=List.getElem?_set_self (by rw[jj];exact hi)
theorem CB{j:Nat}(hj:j<5):(kY a g r 5)[j]?=some (lK a g r j):=by
 unfold kY;rw[List.getElem?_map,List.getElem?_range hj];simp[hj]
theorem IZ{s:MS LD}(hu:(a.at' i).up=true)(hs:(a.at' i).run=some s):jc a i=some s:=by unfold jc;rw[if_pos hu];exact hs
theorem wI(hu:(a.at' i).up=false):jc a i=(cO i (nw (a.at' i).dk)).1:=by unfold jc;rw[if_neg (by rw[hu];decide)]
theorem FI(hu:(a.at' i).up=false):NF a i=(cO i (nw (a.at' i).dk)).1:=by unfold NF;rw[if_neg (by rw[hu];decide)]
theorem lm{s:MS LD}(hs:jc a i=some s):lK a g r i= .pointer (some ⟨sK a g r i,0,none⟩):=by unfold lK;rw[hs]
theorem rF(hs:jc a i=none):lK a g r i= .pointer none:=by unfold lK;rw[hs]
theorem GT{j:Nat}(hj:j<i):lK a g (la r i y) j=lK a g r j:=by
 unfold lK sK;rw[mQ r y (show j≠i by omega)]
theorem Lp{s:MS LD}(hi:i<5)(hu:(a.at' i).up=true)(hs:(a.at' i).run=some s):(kY a g r i).set i (.pointer (some ⟨g.r i,0,none⟩))=kY a g r (i+1):=
 xj hi (λ_ _=>rfl) (by rw[lm (IZ hu hs)];unfold sK;rw[if_pos hu])
theorem HH(hi:i<5)(hu:(a.at' i).up=false)(hn:(cO i (nw (a.at' i).dk)).1=none):((kY a g r i).set i (.pointer none)).set i (.pointer none)=kY a g r (i+1):=by
 rw[e7];exact xj hi (λ_ _=>rfl) (by rw[rF ((wI hu).trans hn)])
theorem HG{s:MS LD}(hi:i<5)(hu:(a.at' i).up=false)(hn:(cO i (nw (a.at' i).dk)).1=some s):((kY a g r i).set i (.pointer none)).set i (.pointer (some ⟨y,0,none⟩))=kY a g (la r i y) (i+1):=by
 rw[e7];refine xj hi (λj hj=>GT hj) ?_;rw[lm ((wI hu).trans hn)];unfold sK;rw[if_neg (by rw[hu];decide),iZ]
theorem DH{H:List HP}{h:Hl}(hn:NF a i=none)(s:bD (bD ((List.range i).map (vv a d r))::H) h):bD (bD ((List.range (i+1)).map (vv a d r))::H) h:=by
 refine wW (f:=vv a d r) (g:=vv a d r) (λ_ _=>rfl) ?_;have e:vv a d r i= λ_=>True:=by unfold vv PE;rw[hn]
 rw[e];exact p1 s
theorem Ko{s:MS LD}{H:List HP}{h:Hl}(hn:NF a i=some s)(q:bD (eX s x y::bD ((List.range i).map (vv a d r))::H) h):bD (bD ((List.range (i+1)).map (vv a (la d i x) (la r i y)))::H) h:=by
 refine wW (f:=vv a d r) (g:=vv a (la d i x) (la r i y)) (λj hj=>by unfold vv;rw[mQ d x (show j≠i by omega),mQ r y (show j≠i by omega)]) ?_;have e:vv a (la d i x) (la r i y) i=eX s x y:=by unfold vv PE;rw[hn,iZ,iZ]
 rw[e];exact q
theorem vS{f:FuncId}{args:Nat→Array Value}{Q:Value→Prop}{c:Nat}{s:MS LD}(hi:i<5)(hs:jc a i=some s)(hf: ∀d r,DT f (args r) T0 [eX s d r] (dm λv H=>Q v∧H=[eX s d r])):
 DT f (args (sK a g r i)) T0 [bq c a g,nQ a d r] (dm λv H=>Q v∧H=[bq c a g,nQ a d r]):=by
 cases hu:(a.at' i).up with
 |true=>
  have hr:(a.at' i).run=some s:=by unfold jc at hs;rw[if_pos hu]at hs;exact hs
  unfold sK;rw[if_pos hu];refine Leg.Does.withinR (B:=[nQ a d r]) (JB hi hr (hf (g.d i) (g.r i))) (λ_ _ _ _=>trivial) (λh q=>q) λv H hp=>?_
  obtain⟨hQ,rfl⟩:=hp;exact⟨_,λ_ q=>q,hQ,rfl⟩
 |false=>
  have ha:NF a i=some s:=by rw[FI hu,←wI hu];exact hs
  unfold sK;rw[if_neg (by rw[hu];decide)];have e:vv a d r i=eX s (d i) (r i):=by unfold vv PE;rw[ha]
  refine Leg.Does.withinR (B:=[bD (((List.range 5).map (vv a d r)).eraseIdx i),bq c a g]) (hf (d i) (r i)) (λ_ _ _ _=>trivial) (λh q=>?_) λv H hp=>?_
  · have q2:=tT (f:=vv a d r) hi (aC [1,0] rfl q)
    rw[e]at q2;exact q2
  · obtain⟨hQ,rfl⟩:=hp
    refine⟨[bq c a g,nQ a d r],λh q=>?_,hQ,rfl⟩;refine aC [1,0] rfl (tS (H:=[bq c a g]) (f:=vv a d r) (g:=vv a d r) hi (λ_ _=>rfl) ?_);rw[e];exact q
end
theorem DG(c i:Nat)(a:CL)(g:CX)(hi:i<5)(hok:DkOk (a.at' i).dk):DT 55 #[.int .i64 ((i:Nat):Int), .pointer (some ⟨g.d i,0,none⟩)] T0 [bq c a g] (dm (λv H=>((cO i (nw (a.at' i).dk)).1=none∧v= .pointer none∧H=[bq c a g])∨∃s r dn,(cO i (nw (a.at' i).dk)).1=some s∧v= .pointer (some ⟨r,0,none⟩)∧H=[bq c a g,eX s dn r])):=by
 refine ln (A8 (Q:=λv X=>((cO i (nw (a.at' i).dk)).1=none∧v= .pointer none∧X=[])∨∃s r dn,(cO i (nw (a.at' i).dk)).1=some s∧v= .pointer (some ⟨r,0,none⟩)∧X=[eX s dn r]) hi ?_) λv H hp=>?_
 · refine Leg.Does.withinR (B:=[ah c (eN g.n (mC g) (jX a g.r) g.p) 73,eJ 135 184 5 g.n (c8 a.W),kV (g.p i) (a.at' i).past,p5 (a.at' i) (g.d i) (g.r i)]) (FH i (g.d i) (a.at' i).dk hok) (λ_ _ _ _=>trivial) (λh q=>aC [2,0,0,0,0] rfl q) λv H hp=>?_
   rcases hp with⟨hn,rfl,rfl⟩| ⟨s,r,dn,hn,rfl,rfl⟩
   · exact⟨_,λh q=>aC [1,1,0,0,0] rfl q,[], .inl ⟨hn,rfl,rfl⟩,(aP _).symm⟩
   · exact⟨_,λh q=>aC [2,2,0,1,1,0] rfl q,[eX s dn r], .inr ⟨s,r,dn,hn,rfl,rfl⟩,rfl⟩
 · obtain⟨X,hq,rfl⟩:=hp
   rcases hq with⟨hn,rfl,rfl⟩| ⟨s,r,dn,hn,rfl,rfl⟩
   · exact .inl ⟨hn,rfl,rfl⟩
   · exact .inr ⟨s,r,dn,hn,rfl,rfl⟩
theorem qf(c n:Nat)(a:CL)(g:CX)(h:CLOk n a):
 DT 32 #[(.pointer (some ⟨c,0,none⟩))] T0 [bq c a g] (dm (λv H=>∃r d:Nat→Nat,v= .agg (kY a g r 5).toArray∧H=[bq c a g,nQ a d r])):=by
 refine BD 32 Tryz.func32 rfl rfl rfl λw0 F hF=>sr λ_ J1=>XA QI λb2=>?_
 refine nx J1 (sr λ_ J2=>XA QI λb3=>?_);refine nx J2 (ab λ_ J3=>sr λ_ J4=>PS ?_);refine nx J4 (au ?_)
 refine bn (α:=(Nat)×(Nat→Nat)×(Nat→Nat)) (λ⟨i,d,r⟩=>i≤5) (λ⟨i,d,r⟩=>[(0,(.pointer (some ⟨c,0,none⟩))),(2,(.pointer (some ⟨b2,0,none⟩))),(3,(.pointer (some ⟨b3,0,none⟩))),(5,(.int .i64 (((i:Nat):Int))))]) (λ⟨i,d,r⟩=>[bq c a g,ah b3 (kY a g r i) 70,bD ((List.range i).map (vv a d r)),ah b2 [(.pointer none),(.pointer none),(.pointer none),(.pointer none),(.pointer none)] 70]) (λ⟨i,d,r⟩=>5-i) (0,λ_=>0,λ_=>0)
  (aM _) SB
  (λ_ q=>aC [1,1,0,0] rfl (p1 (ak [2,0,0] rfl q))) (λ⟨i,d,r⟩ hinv=>?_)
 obtain hi:=hinv;refine sr λ_ J5=>PS ?_
 refine ao ?_ ?_<;>intro h6;refine nx J5 (ab λ_ J6=>CY (qx J6 (ab λ_ J7=>au (sr λ_ J8=>P2 ?_))));refine nx J8 (sr λ_ J9=>P3 ?_);refine CR O0 (xh (i:=i) (by omega)) ID λvR HR hR=>?_
 rcases hR with⟨hup,rfl,rfl⟩| ⟨s,hrun,hup,rfl,rfl⟩
 refine IX i vw kh ?_;refine bz (i:=1) (aa rfl) rfl rfl rfl rfl rfl kh rfl rfl (by simp only[cA,jj];omega) rfl rfl (nx J9 (sr λ_ J10=>PS ?_));refine IX i vw kh ?_;refine LT 1 uA (.pointer none) ?_ (hc:=by exact Gd (by omega));refine tp (sc rfl uA rfl rfl) ?_;refine P3 ?_;refine CE Od (xL (i:=i) (by omega)) ID ?_;refine tq (jq rfl Ih rfl rfl) ?_;refine PS ?_;refine nx J10 (CY (ad (P4 ?_)));refine CE Od (xL (i:=i) (by omega)) ID ?_;refine CR P8 (DG c i a g (by omega) (h.at' i (by omega)).dk) ID λvR HR hR=>?_
 rcases hR with⟨hn,rfl,rfl⟩| ⟨s,rn,dn,hn,rfl,rfl⟩
 refine IX i vw kh ?_;refine bz (i:=1) (aa rfl) rfl rfl rfl rfl rfl kh rfl rfl (by simp only[cA,jj];omega) rfl rfl (ap (ag (ac J7 (ad (AD ?_)))));refine PS ?_;refine ap ?_
 exact aI ((i+1,d,r):(Nat)×(Nat→Nat)×(Nat→Nat)) (by omega) (by show 5- (i+1)<5-i;omega)
  SB
  (λ_ q=>by show bD [bq c a g,ah b3 (kY a g r (i+1)) 70,bD ((List.range (i+1)).map (vv a d r)),ah b2 [(.pointer none),(.pointer none),(.pointer none),(.pointer none),(.pointer none)] 70] _;rw[←HH (by omega) hup hn];exact aC [1,1,0,0] rfl (DH ((FI hup).trans hn) (ak [2,0,0,0] rfl q)))
 refine IX i vw kh ?_;refine bz (i:=2) (aa rfl) rfl rfl rfl rfl rfl kh rfl rfl (by simp only[cA,jj];omega) rfl rfl (ap (ag (ac J7 (ad (AD ?_)))));refine PS ?_;refine ap ?_
 exact aI ((i+1,la d i dn,la r i rn):(Nat)×(Nat→Nat)×(Nat→Nat)) (by omega) (by show 5- (i+1)<5-i;omega)
  SB
  (λ_ q=>by show bD [bq c a g,ah b3 (kY a g (la r i rn) (i+1)) 70,bD ((List.range (i+1)).map (vv a (la d i dn) (la r i rn))),ah b2 [(.pointer none),(.pointer none),(.pointer none),(.pointer none),(.pointer none)] 70] _;rw[←HG (by omega) hup hn];exact aC [1,1,0,0] rfl (Ko ((FI hup).trans hn) (ak [1,2,0,0,0] rfl q)))
 refine IX i vw kh ?_;refine bz (i:=1) (aa rfl) rfl rfl rfl rfl rfl kh rfl rfl (by simp only[cA,jj];omega) rfl rfl (nx J9 (sr λ_ J11=>PS ?_));refine IX i vw kh ?_;refine LT 1 uA (.pointer (some ⟨(g.r i),0,none⟩)) ?_ (hc:=by exact Gd (by omega));refine tp (iW rfl uA rfl rfl) ?_;refine PS ?_
 iterate 4 refine UF ?_
 refine PS ?_;refine nx J11 (CN (aT (ag (ac J7 (ad (AD ?_))))));refine PS ?_;refine ap ?_
 exact aI ((i+1,d,r):(Nat)×(Nat→Nat)×(Nat→Nat)) (by omega) (by show 5- (i+1)<5-i;omega)
  SB
  (λ_ q=>by show bD [bq c a g,ah b3 (kY a g r (i+1)) 70,bD ((List.range (i+1)).map (vv a d r)),ah b2 [(.pointer none),(.pointer none),(.pointer none),(.pointer none),(.pointer none)] 70] _;rw[←Lp (by omega) hup hrun];exact aC [1,1,0,0] rfl (DH (by unfold NF;rw[if_pos hup]) (ak [2,0,0,0] rfl q)))
 refine nx J5 (ab λ_ J12=>CN (aX (aA (aA (bl (ac J3 (sr λ_ J13=>?_)))))));obtain rfl:i=5:=by omega
 refine tp (aN (vs:=kY a g r 5) rfl vw rfl pw rfl (RO 1) jj (by rw[aV,az (cK jj)])) ?_;exact bO (vs:=kY a g r 5) (i:=3) (aa rfl) rfl rfl rfl rfl rfl (by rw[jj];exact pw) JA rfl rfl (by rw[jj];exact aL _) (gh (Eq.trans (rfl:_=5) (by rw[jj]:(kY a g r 5).length=5).symm)) rfl (nx J13 (ai (yI (H':=[bq c a g,bD ((List.range 5).map (vv a d r))]) rfl rfl vw rfl pw (RO 3) (by rw[jj]) (λ_ s=>ak [0,1] rfl s) ⟨r,d,rfl,rfl⟩)))
section
variable {P:Program} {n:Nat} {D:List Deferred} {L:List (Nat×Value)} {S:World→Prop} {o:Oper} {t t':TypeId} {x y:Operand} {a:CL} {g:CX} {r:Nat→Nat} {j:Nat}
theorem PV.seenNil(ho:o.op= .binOp .eql t x y t')(hu:P.underlying t=some (.pointer (P.pointee t)))(hx:cB L x=some (lK a g r j))(hy:cB L y=some (.pointer none)):PV P n D L S o (.bool (!(jc a j).isSome)):=by
 cases hs:jc a j with
 |none=>rw[rF hs]at hx;exact sc ho hu hx hy
 |some s=>rw[lm hs]at hx;exact iW ho hu hx hy
theorem PV.seenNot(ho:o.op= .binOp .neq t x y t')(hu:P.underlying t=some (.pointer (P.pointee t)))(hx:cB L x=some (lK a g r j))(hy:cB L y=some (.pointer none)):PV P n D L S o (.bool (jc a j).isSome):=by
 cases hs:jc a j with
 |none=>rw[rF hs]at hx;exact iX ho hu hx hy
 |some s=>rw[lm hs]at hx;exact jq ho hu hx hy
end
theorem wH{n:Nat}{a:CL}(h:CLOk n a){j:Nat}(hj:j<5){s:MS LD}(hs:jc a j=some s):OkR KD s:=by
 unfold jc at hs;split at hs
 · exact((h.at' j hj).run s hs).1
 · exact(tM hj (BM (h.at' j hj).dk.ok.s) hs).1
theorem O5{s:MS LD}(h:OkR KD s)(w:Int):WF (dr s.mirror w).flat:=by
 unfold dr;split
 · exact(h.mir _ _).wf
 · exact Kt OkRow.zero
theorem QO:(Tryz.prog.info? 85).map (·.zero)=some (some (.agg (ints BookT.zero.flat).toArray)):=by kernel_rfl
theorem uE(c n:Nat)(a:CL)(g:CX)(h:CLOk n a):
 DT 16 #[(.pointer (some ⟨c,0,none⟩))] T0 [bq c a g] (dm (λv H=>∃(b:Nat) (d r:Nat→Nat),v= .pointer (some ⟨b,0,none⟩)∧H=[bq c a g,nQ a d r,ah b (ints (bi a).flat) 85])):=by
 refine BD 33 Tryz.func16 rfl rfl rfl λw0 F hF=>sr λ_ J1=>PS ?_
 refine nx J1 (sr λ_ J2=>XZ QO (ints BookT.zero.flat) λb9=>?_);refine PS ?_;refine nx J2 (ab λ_ J3=>sr λ_ J4=>PS ?_);refine CR Oi (qf c n a g h) (SM [1]) λvR HR hR=>?_
 obtain⟨r,d,rfl,rfl⟩:=hR;refine PS ?_;refine nx J4 (au ?_)
 refine bn (α:=(Nat)) (λj=>j≤5) (λj=>[(2,(.pointer none)),(3,(.pointer (some ⟨b9,0,none⟩))),(11,(.agg (kY a g r 5).toArray)),(12,(.int .i64 (((j:Nat):Int))))]) (λj=>[bq c a g,nQ a d r,ah b9 (ints (iJ a j).flat) 85]) (λj=>5-j) 0
  (aM _) SB
  (λ_ q=>aC [0,0,0] rfl q) (λj hinv=>?_)
 obtain hj:=hinv;refine sr λ_ J5=>PS ?_
 refine ao ?_ ?_<;>intro h13;refine nx J5 (ab λ_ J6=>CY (qx J6 (ab λ_ J7=>au (sr λ_ J8=>tp (nG (cs:=kY a g r 5) (v:=(lK a g r j)) (r:=j) rfl vw uA rfl kh rfl rfl (by omega) (by omega) (by omega) (CB (by omega))) ?_))));refine PS ?_;refine nx J8 (ab λ_ J9=>sr λ_ J10=>PS ?_);refine tp (PV.seenNil rfl uA rfl rfl) ?_;refine bc ?_ ?_<;>intro h16;refine nx J10 (CY (aX (aA (bl (ac J7 (ad (AD ?_)))))));refine PS ?_;refine ap ?_
 exact aI ((j+1):(Nat)) (by omega) (by show 5- (j+1)<5-j;omega)
  SB
  (λ_ q=>by show bD [bq c a g,nQ a d r,ah b9 (ints (iJ a (j+1)).flat) 85] _;rw[Ag (by simpa using h16)];exact q)
 obtain⟨s,hs⟩:=Option.isSome_iff_exists.1 (by simpa using h16);have hsk:=wH h (by omega) hs;rw[lm hs];refine nx J10 (CN (qx J9 (sr λ_ J11=>PS ?_)));refine nx J11 (au ?_)
 refine bn (α:=(Nat)) (λi=>i≤5) (λi=>[(2,(.pointer none)),(3,(.pointer (some ⟨b9,0,none⟩))),(5,(.pointer (some ⟨(sK a g r j),0,none⟩))),(11,(.agg (kY a g r 5).toArray)),(12,(.int .i64 (((j:Nat):Int)))),(17,(.int .i64 (((i:Nat):Int))))]) (λi=>[bq c a g,nQ a d r,ah b9 (ints (sY s (iJ a j) i).flat) 85]) (λi=>5-i) 0
  (aM _) SB
  (λ_ s=>s) (λi hinv=>?_)
 obtain hi:=hinv;refine sr λ_ J12=>PS ?_
 refine ao ?_ ?_<;>intro h18;refine nx J12 (ab λ_ J13=>CY (qx J13 (ab λ_ J14=>au (sr λ_ J15=>P2 ?_))));refine nx J15 (sr λ_ J16=>P2 ?_);refine CE Qi (vS (i:=j) (args:=λr=>#[.pointer (some ⟨r,0,none⟩), .int .i64 ((i:Nat):Int)]) (Q:=λv=>v= .tuple #[.agg (ints (dr s.mirror ((i:Nat):Int)).flat).toArray, .bool (fe s.mirror ((i:Nat):Int))]) (by omega) hs (λd r=>HE s d r ((i:Nat):Int))) ID ?_;refine P3 ?_;refine XZ uB (ints RowT.zero.flat) λb7=>?_
 refine SW 0 ba aj ?_;refine PS ?_;refine nx J16 (ad (P2 ?_));refine LW 0 dV ba aj ?_;refine CE Lk (kZ b9 0 85 (λx=>ints x.flat) Arnd.whole (sY s (iJ a j) i) ((i:Nat):Int) (dr s.mirror ((i:Nat):Int)) (O5 hsk _)) (SM [3]) ?_;refine ap (ag (ac J14 (ad (AD ?_))));refine PS ?_;refine ap ?_
 exact aI ((i+1):(Nat)) (by omega) (by show 5- (i+1)<5-i;omega)
  SB
  (λ_ q=>ak [2,2,0] rfl q)
 refine nx J12 (ab λ_ J17=>CN (aX (aA (aA (bl (ag (ac J7 (ad (AD ?_)))))))));refine PS ?_;refine ap ?_
 exact aI ((j+1):(Nat)) (by omega) (by show 5- (j+1)<5-j;omega)
  SB
  (λ_ q=>by show bD [bq c a g,nQ a d r,ah b9 (ints (iJ a (j+1)).flat) 85] _;rw[Af hs,show 5=i by omega];exact q)
 refine nx J5 (ab λ_ J18=>CN (aX (aA (aA (bl (ac J3 (sr λ_ J19=>P2 ?_)))))));exact nx J19 (ai (aE (H':=[bq c a g,nQ a d r,ah b9 (ints (bi a).flat) 85]) (db _) (λ_ q=>by rw[show j=5 by omega]at q;exact q) (av rfl rfl ⟨b9,d,r,rfl,rfl⟩)))
theorem E3(c n:Nat)(a:CL)(g:CX)(h:CLOk n a):
 DT 37 #[(.pointer (some ⟨c,0,none⟩))] T0 [bq c a g] (dm (λv H=>∃d r:Nat→Nat,v= .agg (ints (fK a).flat).toArray∧H=[bq c a g,nQ a d r])):=by
 refine BD 31 Tryz.func37 rfl rfl rfl λw0 F hF=>sr λ_ J1=>XZ sh (ints ViewT.zero.flat) λb2=>?_
 refine nx J1 (sr λ_ J2=>CE Oc (xC) ID ?_);refine XZ sh (ints ViewT.zero.flat) λb3=>?_
 refine SW 0 bg an ?_;refine PS ?_;refine nx J2 (ab λ_ J3=>sr λ_ J4=>PS ?_);refine CR Oi (qf c n a g h) (SM [2]) λvR HR hR=>?_
 obtain⟨r,d,rfl,rfl⟩:=hR;refine PS ?_;refine nx J4 (au ?_)
 refine bn (α:=(Nat)) (λj=>j≤5) (λj=>[(2,(.pointer (some ⟨b2,0,none⟩))),(3,(.pointer (some ⟨b3,0,none⟩))),(4,(.bool ((fS a j).2))),(9,(.agg (kY a g r 5).toArray)),(10,(.int .i64 (((j:Nat):Int))))]) (λj=>[bq c a g,nQ a d r,ah b3 (ints ((fS a j).1).flat) 32,ah b2 (ints ViewT.zero.flat) 32]) (λj=>5-j) 0
  (aM _) SB
  (λ_ s=>s) (λj hinv=>?_)
 obtain hj:=hinv;refine sr λ_ J5=>PS ?_
 refine ao ?_ ?_<;>intro h11;refine nx J5 (ab λ_ J6=>CY (qx J6 (ab λ_ J7=>au (sr λ_ J8=>tp (nG (cs:=kY a g r 5) (v:=(lK a g r j)) (r:=j) rfl vw uA rfl kh rfl rfl (by omega) (by omega) (by omega) (CB (by omega))) ?_))));refine PS ?_;refine nx J8 (ab λ_ J9=>D1 2 dp ?_);refine PD 0 ?_;refine ta 1 rfl (PV.seenNot rfl uA rfl rfl) ?_;refine oy ?_ ?_<;>intro h14;obtain⟨s,hs⟩:=Option.isSome_iff_exists.1 h14;have hsk:=wH h (by omega) hs;rw[lm hs];refine PD 2 ?_;refine PD 3 ?_;refine oy ?_ ?_<;>intro h16;refine PD 4 ?_;refine PD 5 ?_;refine PD 6 ?_;refine FD 9 0 eH aR ?_;refine LX 10 Y3 (.int .i64 (((fS a j).1).epoch)) ?_ (hc:=by exact bb _ rfl);refine AL 7 ?_;refine CE Lm (vS (i:=j) (args:=λr=>#[.pointer (some ⟨r,0,none⟩)]) (Q:=λv=>v= .agg (ints s.view.flat).toArray) (by omega) hs (λd r=>oH s d r)) ID ?_;refine EN (tb 8 rfl (QN (cs:=ints s.view.flat) (v:=Value.int .i64 s.view.epoch) rfl eH rfl Y3 rfl rfl (bb s.view rfl)) ?_);refine PD 11 ?_;refine iT ?_ ?_<;>intro h24;refine PD 12 ?_;refine PD 13 ?_;refine DN (ac J9 (CY (ad (PS ?_))));refine CE Lm (vS (i:=j) (args:=λr=>#[.pointer (some ⟨r,0,none⟩)]) (Q:=λv=>v= .agg (ints s.view.flat).toArray) (by omega) hs (λd r=>oH s d r)) ID ?_;refine SW 2 bg an ?_;refine PS ?_;refine ap (ag (ac J7 (ad (AD ?_))));refine PS ?_;refine ap ?_
 exact aI ((j+1):(Nat)) (by omega) (by show 5- (j+1)<5-j;omega)
  (aK (aK (bA rfl (by rw[ky hs,if_pos (.inr h24)]) SB)))
  (λ_ q=>by show bD [bq c a g,nQ a d r,ah b3 (ints (fS a (j+1)).1.flat) 32,ah b2 (ints ViewT.zero.flat) 32] _;rw[ky hs,if_pos (.inr h24)];exact ak [0,0,0,0] rfl q)
 refine PD 12 ?_;refine PD 13 ?_;refine DN (ac J9 (CN (aT (ag (ac J7 (ad (AD ?_)))))));refine PS ?_;refine ap ?_
 exact aI ((j+1):(Nat)) (by omega) (by show 5- (j+1)<5-j;omega)
  (aK (aK (bA rfl (by rw[uW hs (by simpa using h16) h24]) SB)))
  (λ_ q=>by show bD [bq c a g,nQ a d r,ah b3 (ints (fS a (j+1)).1.flat) 32,ah b2 (ints ViewT.zero.flat) 32] _;rw[uW hs (by simpa using h16) h24];exact ak [0,0,0,0] rfl q)
 refine PD 4 ?_;refine PD 5 ?_;refine NT 6 ?_;refine NT 7 ?_;refine NT 8 ?_;refine NT 9 ?_;refine NT 10 ?_;refine NT 11 ?_;refine PD 12 ?_;refine PD 13 ?_;refine DN (ac J9 (CY (ad (PS ?_))));refine CE Lm (vS (i:=j) (args:=λr=>#[.pointer (some ⟨r,0,none⟩)]) (Q:=λv=>v= .agg (ints s.view.flat).toArray) (by omega) hs (λd r=>oH s d r)) ID ?_;refine SW 2 bg an ?_;refine PS ?_;refine ap (ag (ac J7 (ad (AD ?_))));refine PS ?_;refine ap ?_
 exact aI ((j+1):(Nat)) (by omega) (by show 5- (j+1)<5-j;omega)
  (aK (aK (bA rfl (by rw[ky hs,if_pos (.inl (by simpa using h16))]) SB)))
  (λ_ q=>by show bD [bq c a g,nQ a d r,ah b3 (ints (fS a (j+1)).1.flat) 32,ah b2 (ints ViewT.zero.flat) 32] _;rw[ky hs,if_pos (.inl (by simpa using h16))];exact ak [0,0,0,0] rfl q)
 refine PD 2 ?_;refine NT 3 ?_;refine NT 4 ?_;refine NT 5 ?_;refine vg (i:=6) (b:=false) rfl (by kernel_rfl) (by kernel_rfl) (by kernel_rfl) (λ_ _ _ _ h=>h) rfl rfl rfl rfl rfl (vg (i:=7) (b:=false) rfl (by kernel_rfl) (by kernel_rfl) (by kernel_rfl) (λ_ _ _ _ h=>h) rfl rfl rfl rfl rfl (vg (i:=8) (b:=false) rfl (by kernel_rfl) (by kernel_rfl) (by kernel_rfl) (λ_ _ _ _ h=>h) rfl rfl rfl rfl rfl (vg (i:=9) (b:=false) rfl (by kernel_rfl) (by kernel_rfl) (by kernel_rfl) (λ_ _ _ _ h=>h) rfl rfl rfl rfl rfl (vg (i:=10) (b:=false) rfl (by kernel_rfl) (by kernel_rfl) (by kernel_rfl) (λ_ _ _ _ h=>h) rfl rfl rfl rfl rfl (vg (i:=11) (b:=false) rfl (by kernel_rfl) (by kernel_rfl) (by kernel_rfl) (λ_ _ _ _ h=>h) rfl rfl rfl rfl rfl (NT 12 ?_))))));refine PD 13 ?_;refine DN (ac J9 (CN (aT (ag (ac J7 (ad (AD ?_)))))));refine PS ?_;refine ap ?_
 exact aI ((j+1):(Nat)) (by omega) (by show 5- (j+1)<5-j;omega)
  (aK (aK (bA rfl (by rw[qh (by simpa using h14)]) SB)))
  (λ_ q=>by show bD [bq c a g,nQ a d r,ah b3 (ints (fS a (j+1)).1.flat) 32,ah b2 (ints ViewT.zero.flat) 32] _;rw[qh (by simpa using h14)];exact ak [0,0,0,0] rfl q)
 refine nx J5 (ab λ_ J10=>CN (aX (aA (aA (bl (ac J3 (sr λ_ J11=>LW 2 eH bg an ?_)))))));refine SW 3 bg an ?_;refine nx J11 (ai (RC 3 [0,0] eH bg (an _) ?_));exact⟨d,r,by rw[show j=5 by omega];rfl,rfl⟩
def od(v:ViewT)(k:Nat):List Int:=(List.range 5).map λj=>if j<k then tV v j else 0
theorem lP(v:ViewT)(k:Nat):(ints (od v k)).length=5:=by simp[od,ints]
theorem Cp{v:ViewT}{i:Nat}(hi:i<5):(ints (od v i)).set i (.int .i64 (tV v i))=ints (od v (i+1)):=by
 refine List.ext_getElem? λj=>?_
 unfold od ints
 by_cases hj:j=i
 · subst hj
   rw[List.getElem?_set_self (by simp;omega),List.getElem?_map,List.getElem?_map,List.getElem?_range hi];simp
 · rw[List.getElem?_set_ne (λe=>hj e.symm),List.getElem?_map,List.getElem?_map,List.getElem?_map,List.getElem?_map]
   by_cases h5:j<5
   · rw[List.getElem?_range h5]
     simp only[Option.map_some]
     by_cases h:j<i
     · rw[if_pos h,if_pos (by omega)]
     · rw[if_neg h,if_neg (by omega)]
   · rw[List.getElem?_eq_none (by rw[js];omega)];rfl
theorem Je{v:ViewT}{j:Nat}(hj:j<5):(ints (od v 5))[j]?=some (.int .i64 (tV v j)):=by
 unfold od ints;rw[List.getElem?_map,List.getElem?_map,List.getElem?_range hj];simp[hj]
theorem Hy{v:ViewT}{i:Nat}(hi:i<5)(h: ¬(jJ v ((i:Nat):Int)).isSome=true):(ints (od v i)).set i (.int .i64 ((i:Nat):Int))=ints (od v (i+1)):=by
 rw[←Cp hi];unfold tV;rw[show jJ v ((i:Nat):Int)=none by simpa using h];rfl
theorem Hw{v:ViewT}{i:Nat}(hi:i<5)(h:(jJ v ((i:Nat):Int)).isSome=true):((ints (od v i)).set i (.int .i64 ((i:Nat):Int))).set i (.int .i64 ((jJ v ((i:Nat):Int)).getD 0))=ints (od v (i+1)):=by
 rw[←Cp hi,e7];unfold tV;obtain⟨x,hx⟩:=Option.isSome_iff_exists.1 h;rw[hx];rfl
theorem AM(v:ViewT)(hh:Rng v):
 DT 36 #[(.agg (ints v.flat).toArray)] T0 [] (RI (.agg (ints (od v 5)).toArray) []):=by
 refine BD 25 Tryz.func36 rfl rfl rfl λw0 F hF=>sr λ_ J1=>XY (ints v.flat) λb1=>?_
 refine XZ NU (ints (#v[0,0,0,0,0]).toList) λb2=>?_
 refine nx J1 (sr λ_ J2=>XZ NU (ints (#v[0,0,0,0,0]).toList) λb3=>?_);refine nx J2 (ab λ_ J3=>sr λ_ J4=>PS ?_);refine nx J4 (au ?_)
 refine bn (α:=(Nat)) (λi=>i≤5) (λi=>[(1,(.pointer (some ⟨b1,0,none⟩))),(2,(.pointer (some ⟨b2,0,none⟩))),(3,(.pointer (some ⟨b3,0,none⟩))),(7,(.int .i64 (((i:Nat):Int))))]) (λi=>[ah b3 (ints (od v i)) 30,ah b1 (ints v.flat) 32,ah b2 (ints (#v[0,0,0,0,0]).toList) 30]) (λi=>5-i) 0
  (aM _) SB
  (λ_ s=>ak [0,1,0] rfl s) (λi hinv=>?_)
 obtain hi:=hinv;refine sr λ_ J5=>PS ?_
 refine ao ?_ ?_<;>intro h8;refine nx J5 (ab λ_ J6=>CY (qx J6 (ab λ_ J7=>au (sr λ_ J8=>P2 ?_))));refine nx J8 (sr λ_ J9=>P2 ?_);refine IX i jO aR ?_;refine bz (i:=0) (aa rfl) rfl rfl rfl rfl rfl aR rfl rfl (by simp only[cA,lP];omega) rfl rfl (nx J9 (sr λ_ J10=>LW 1 eH bg an ?_));refine PS ?_;refine CE Lj (qP v ((i:Nat):Int) hh) ID ?_;refine P3 ?_;refine bc ?_ ?_<;>intro h18;refine P2 ?_;refine nx J10 (sr λ_ J11=>PS ?_);refine nx J11 (CY (ad (P2 ?_)));refine IX i jO aR ?_;refine bz (i:=0) (aa rfl) rfl rfl rfl rfl rfl aR rfl rfl (by simp only[cA,lP];omega) rfl rfl (ap (ag (ac J7 (ad (AD ?_)))));refine PS ?_;refine ap ?_
 exact aI ((i+1):(Nat)) (by omega) (by show 5- (i+1)<5-i;omega)
  SB
  (λ_ q=>by show bD [ah b3 (ints (od v (i+1))) 30,ah b1 (ints v.flat) 32,ah b2 (ints (#v[0,0,0,0,0]).toList) 30] _;rw[←Hw (by omega) h18];exact ak [0,0,0] rfl q)
 refine P2 ?_;refine nx J10 (sr λ_ J12=>PS ?_);refine nx J12 (CN (aT (ag (ac J7 (ad (AD ?_))))));refine PS ?_;refine ap ?_
 exact aI ((i+1):(Nat)) (by omega) (by show 5- (i+1)<5-i;omega)
  SB
  (λ_ q=>by show bD [ah b3 (ints (od v (i+1))) 30,ah b1 (ints v.flat) 32,ah b2 (ints (#v[0,0,0,0,0]).toList) 30] _;rw[←Hy (by omega) (by simpa using h18)];exact ak [0,0,0] rfl q)
 refine nx J5 (ab λ_ J13=>CN (aX (aA (aA (bl (ac J3 (sr λ_ J14=>?_)))))));obtain rfl:i=5:=by omega
 refine tp (aN (vs:=ints (od v 5)) rfl jO rfl eW rfl (RO 0) (lP _ _) (by rw[aV,az (cK (lP _ _))])) ?_;exact bO (vs:=ints (od v 5)) (i:=2) (aa rfl) rfl rfl rfl rfl rfl (by rw[lP];exact eW) (bk _) rfl rfl (by rw[lP];exact aL _) (gh (by rw[lP];rfl)) rfl (nx J14 (ai (yI (H':=[]) rfl rfl jO rfl eW (RO 2) (by rw[lP _ _]) (λ_ s=>ak [] rfl s) ⟨rfl,rfl⟩)))
theorem MJ{S:List Int}{o k:Nat}(ho:o=k)(h:k<S.length):(ints S)[o]?=some (.int .i64 (S.getD k 0)):=by
 subst ho;simp[ints,List.getD_eq_getElem?_getD,h]
theorem JJ{S:List Int}{o k:Nat}{x:Int}(ho:o=k):(ints S).set o (.int .i64 x)=ints (S.set k x):=by
 subst ho;simp[ints,yT]
theorem Kh{B:BookT}{key:Int}{i o:Nat}(k:Nat)(hi:i<5)(ho:o=i*7+k)(hk:k<7){r:Option Value}(hr:(ints (iy B key i).flat)[k]?=r):(ints ((ko B key 5).toList.flatMap CellT.flat))[o]?=r:=
 nU bw (ko B key 5) k hi ho hk (by rw[Kg hi];exact hr)
theorem Dx{B:BookT}{key:Int}{i j o:Nat}(hi:i<5)(hj:j<5)(ho:o=i*7+(2+j)):(ints ((ko B key 5).toList.flatMap CellT.flat))[o]?=some (.int .i64 ((iy B key i).given.toList.getD j 0)):=
 Kh (2+j) hi ho (by omega) (by simp[CellT.flat,ints,List.getElem?_cons_succ,show 2+j=j+1+1 by omega,List.getD_eq_getElem?_getD,hj])
theorem Pd{B:BookT}{key:Int}{i o:Nat}(hi:i<5)(ho:o=i*7):wr (ints ((ko B key i).toList.flatMap CellT.flat)) o (ints (iy B key i).flat)=ints ((ko B key (i+1)).toList.flatMap CellT.flat):=by
 have h:=uC bw (ko B key i) (i:=i) (o:=o) 0 (vs:=ints (iy B key i).flat) (u':=iy B key i) hi (by omega) (by rw[bf,bo];exact aL _) (ct ((bo _).trans (bo _).symm))
 rwa [Kf hi]at h
theorem NB{B:BookT}{key:Int}{k:Nat}:(ints ((ko B key k).toList.flatMap CellT.flat)).length=35:=by
 rw[xA bw,aB]
theorem xn{n:Nat}{a:CL}(h:CLOk n a): ∀j,j≤5→Rng (fS a j).1
 |0,_=>Rng.first
 |j+1,hj=>by
  have ih:=xn h j (by omega);rcases hs:jc a j with _|s
  · rw[qh hs];exact ih
  · have hk:=wH h (by omega) hs
    rw[ky hs];split
    · exact hk.view.rng
    · exact ih
theorem HL{n:Nat}{a:CL}(h:CLOk n a):Rng (fK a):=xn h 5 (aL _)
theorem Ao(c n:Nat)(a:CL)(g:CX)(h:CLOk n a)(key:Int):
 DT 18 #[(.pointer (some ⟨c,0,none⟩)),(.int .i64 (key))] T0 [bq c a g] (dm (λv H=>(¬(0≤key∧key<4)∧v= .agg (ints (List.replicate 5 0)).toArray∧H=[bq c a g])∨((0≤key∧key<4)∧∃d r:Nat→Nat,v= .agg (ints (qJ (bi a) key (fK a) 5)).toArray∧H=[bq c a g,nQ a d r]))):=by
 refine Leg.Does.body (vs:=[(.pointer (some ⟨c,0,none⟩)),(.int .i64 (key))]) (n:=82) Tryz.func18 rfl rfl rfl (λw0 F hF=>?_);refine ab (λK1 hK1=>?_);refine ad ?_;refine lZ (aa rfl) rfl rfl rfl NU (λb4=>?_);change TL _ _ _ _ _ _ _ _ _ [ah b4 (ints (#v[0,0,0,0,0]).toList) 30,bq c a g];refine ap ?_;refine ac hK1 ?_;clear hK1;refine ab (λK2 hK2=>?_);refine ad ?_;refine lZ (aa rfl) rfl rfl rfl NU (λb5=>?_);change TL _ _ _ _ _ _ _ _ _ [ah b5 (ints (#v[0,0,0,0,0]).toList) 30,ah b4 (ints (#v[0,0,0,0,0]).toList) 30,bq c a g];refine ap ?_;refine ac hK2 ?_;clear hK2;refine ab (λK3 hK3=>?_);refine ab (λK4 hK4=>?_);refine ad ?_;refine dA (aa rfl) rfl rfl (cq rfl rfl) ?_;refine dA (aa rfl) rfl rfl (L9 rfl rfl rfl) ?_;refine ao (λh13=>?_) (λh13=>?_)
 · skip
   refine dA (aa rfl) rfl rfl (cq rfl rfl) ?_;refine k0 (b:=true) rfl rfl rfl rfl (lb rfl) ?_;refine k0 (b:=true) rfl rfl rfl rfl (lb rfl) ?_;refine dA (aa rfl) rfl rfl (mj rfl rfl rfl) ?_;refine ap ?_;refine ac hK4 ?_;clear hK4;refine iU rfl ?_;refine ab (λK5 hK5=>?_);refine ad ?_;refine dA (aa rfl) rfl rfl (aN (vs:=ints (#v[0,0,0,0,0]).toList) rfl jO rfl eW rfl (dS 0 rfl rfl) (dq (#v[0,0,0,0,0])) (whole (dq (#v[0,0,0,0,0])))) ?_;refine bO (vs:=ints (#v[0,0,0,0,0]).toList) (i:=1) (H':=[ah b5 (ints (#v[0,0,0,0,0]).toList) 30,ah b4 (ints (#v[0,0,0,0,0]).toList) 30,bq c a g]) (aa rfl) rfl rfl rfl rfl rfl (by rw[(dq (#v[0,0,0,0,0]))];exact eW) (bk _) rfl rfl (by have h0:=(dq (#v[0,0,0,0,0]));have h1:=(dq (#v[0,0,0,0,0]));omega) (ct ((dq (#v[0,0,0,0,0])).trans (dq (#v[0,0,0,0,0])).symm)) rfl ?_;refine ap ?_;refine ac hK5 ?_;clear hK5;refine ai ?_;refine af ?_;clear hK3;refine yI (H':=[bq c a g]) rfl rfl jO rfl eW (dS 1 rfl rfl) (dq (#v[0,0,0,0,0])) (λ_ s=>ak [2] rfl s) ?_;exact .inl ⟨by omega,rfl,rfl⟩
 · skip
   refine dA (aa rfl) rfl rfl (cq rfl rfl) ?_;refine dA (bR rfl rfl rfl) rfl rfl (cq rfl rfl) ?_;refine dA (bR rfl rfl rfl) rfl rfl (PV.geq rfl rfl rfl) ?_;refine ao (λh16=>?_) (λh16=>?_)
   · skip
     refine dA (aa rfl) rfl rfl (mj rfl rfl rfl) ?_;refine ap ?_;refine ac hK4 ?_;clear hK4;refine iU rfl ?_;refine ab (λK6 hK6=>?_);refine ad ?_;refine dA (aa rfl) rfl rfl (aN (vs:=ints (#v[0,0,0,0,0]).toList) rfl jO rfl eW rfl (dS 0 rfl rfl) (dq (#v[0,0,0,0,0])) (whole (dq (#v[0,0,0,0,0])))) ?_;refine bO (vs:=ints (#v[0,0,0,0,0]).toList) (i:=1) (H':=[ah b5 (ints (#v[0,0,0,0,0]).toList) 30,ah b4 (ints (#v[0,0,0,0,0]).toList) 30,bq c a g]) (aa rfl) rfl rfl rfl rfl rfl (by rw[(dq (#v[0,0,0,0,0]))];exact eW) (bk _) rfl rfl (by have h0:=(dq (#v[0,0,0,0,0]));have h1:=(dq (#v[0,0,0,0,0]));omega) (ct ((dq (#v[0,0,0,0,0])).trans (dq (#v[0,0,0,0,0])).symm)) rfl ?_;refine ap ?_;refine ac hK6 ?_;clear hK6;refine ai ?_;refine af ?_;clear hK3;refine yI (H':=[bq c a g]) rfl rfl jO rfl eW (dS 1 rfl rfl) (dq (#v[0,0,0,0,0])) (λ_ s=>ak [2] rfl s) ?_;exact .inl ⟨by omega,rfl,rfl⟩
   · skip
     refine dA (aa rfl) rfl rfl (mj rfl rfl rfl) ?_;refine ap ?_;refine ac hK4 ?_;clear hK4;refine tt rfl ?_;refine aT ?_;refine ac hK3 ?_;clear hK3;refine ab (λK7 hK7=>?_);refine ad ?_;refine dA (aa rfl) rfl rfl (cq rfl rfl) ?_;refine hZ (A:=[bq c a g]) (B:=[ah b5 (ints (#v[0,0,0,0,0]).toList) 30,ah b4 (ints (#v[0,0,0,0,0]).toList) 30]) (aa rfl) rfl rfl rfl OF rfl (uE c n a g h) (λ_ s=>aC [2] rfl s) (λ_ _ _=>trivial) (λvR HR hR=>?_);obtain⟨bt,d,r,rfl,rfl⟩:=hR;change TL _ _ _ _ _ _ _ _ _ [bq c a g,nQ a d r,ah bt (ints (bi a).flat) 85,ah b5 (ints (#v[0,0,0,0,0]).toList) 30,ah b4 (ints (#v[0,0,0,0,0]).toList) 30];refine dA (aa rfl) rfl rfl (pF rfl rfl) ?_;refine ap ?_;refine ac hK7 ?_;clear hK7;refine ab (λK8 hK8=>?_);refine ad ?_;refine lZ (aa rfl) rfl rfl rfl QH (λb7=>?_);change TL _ _ _ _ _ _ _ _ _ [ah b7 (ints ((#v[CellT.zero,CellT.zero,CellT.zero,CellT.zero,CellT.zero]).toList.flatMap CellT.flat)) 94,bq c a g,nQ a d r,ah bt (ints (bi a).flat) 85,ah b5 (ints (#v[0,0,0,0,0]).toList) 30,ah b4 (ints (#v[0,0,0,0,0]).toList) 30];refine ap ?_;refine ac hK8 ?_;clear hK8;refine ab (λK9 hK9=>?_);refine ab (λK10 hK10=>?_);refine ad ?_;refine dA (aa rfl) rfl rfl (cq rfl rfl) ?_;refine ap ?_;refine ac hK10 ?_;clear hK10;refine au ?_
     refine bn (α:=(Nat)) (λi=>i≤5) (λi=>[(0,(.pointer (some ⟨c,0,none⟩))),(1,(.int .i64 (key))),(4,(.pointer (some ⟨b4,0,none⟩))),(5,(.pointer (some ⟨b5,0,none⟩))),(6,(.pointer (some ⟨bt,0,none⟩))),(7,(.pointer (some ⟨b7,0,none⟩))),(21,(.int .i64 (((i:Nat):Int))))]) (λi=>[bq c a g,nQ a d r,ah bt (ints (bi a).flat) 85,ah b7 (ints ((ko (bi a) key i).toList.flatMap CellT.flat)) 94,ah b5 (ints (#v[0,0,0,0,0]).toList) 30,ah b4 (ints (#v[0,0,0,0,0]).toList) 30]) (λi=>5-i) 0
      (aM _) (aK (aK (aK (aK (aK (aK (bA rfl (by congr 1) (np _))))))))
      (λ_ s=>ak [1,1,1,0,0,0] rfl s) (λi hinv=>?_)
     obtain hi:=hinv;refine ab (λK11 hK11=>?_);refine ad ?_;refine dA (aa rfl) rfl rfl (L9 rfl rfl rfl) ?_;refine ao (λh22=>?_) (λh22=>?_)
     · skip
       refine ap ?_;refine ac hK11 ?_;clear hK11;refine ab (λK12 hK12=>?_);refine iU rfl ?_;refine aT ?_;refine ac hK12 ?_;clear hK12;refine ab (λK13 hK13=>?_);refine au ?_;refine ab (λK14 hK14=>?_);refine ad ?_;refine dA (aa rfl) rfl rfl (cq rfl rfl) ?_;refine dA (aa rfl) rfl rfl (pF rfl rfl) ?_;refine ap ?_;refine ac hK14 ?_;clear hK14;refine ad ?_;refine dA (aa rfl) rfl rfl (cq rfl rfl) ?_;refine dA (aa rfl) rfl rfl (cq rfl rfl) ?_;refine dA (aa rfl) rfl rfl (cq rfl rfl) ?_;refine dA (aa rfl) rfl rfl (cq rfl rfl) ?_;refine hZ (A:=[ah bt (ints (bi a).flat) 85]) (B:=[bq c a g,nQ a d r,ah b7 (ints ((ko (bi a) key i).toList.flatMap CellT.flat)) 94,ah b5 (ints (#v[0,0,0,0,0]).toList) 30,ah b4 (ints (#v[0,0,0,0,0]).toList) 30]) (aa rfl) rfl rfl rfl Nn rfl (nN bt 0 85 (λx=>ints x.flat) Arnd.whole (bi a) ((i:Nat):Int) key) (λ_ s=>aC [2] rfl s) (λ_ _ _=>trivial) (λvR HR hR=>?_);obtain⟨rfl,rfl⟩:=hR;change TL _ _ _ _ _ _ _ _ _ [ah bt (ints (bi a).flat) 85,bq c a g,nQ a d r,ah b7 (ints ((ko (bi a) key i).toList.flatMap CellT.flat)) 94,ah b5 (ints (#v[0,0,0,0,0]).toList) 30,ah b4 (ints (#v[0,0,0,0,0]).toList) 30];refine dA (aa rfl) rfl rfl (eu (r:=i*7) rfl KC fy rfl rfl (by omega) (by omega) (by omega)) ?_
       refine bO (vs:=ints (iy (bi a) key i).flat) (i:=3) (H':=[ah bt (ints (bi a).flat) 85,bq c a g,nQ a d r,ah b7 (ints ((ko (bi a) key (i+1)).toList.flatMap CellT.flat)) 94,ah b5 (ints (#v[0,0,0,0,0]).toList) 30,ah b4 (ints (#v[0,0,0,0,0]).toList) 30]) (aa rfl) rfl rfl rfl rfl rfl (by rw[bo];exact fy) (bk _) rfl rfl (by rw[NB,bo];omega) (Pd (by omega) (by omega)) rfl ?_;refine ap ?_;refine ag ?_;refine ac hK13 ?_;clear hK13;refine ad ?_;refine dA (aa rfl) rfl rfl (cr rfl rfl rfl (bH (by omega) (by omega))) ?_;refine dA (aa rfl) rfl rfl (cq rfl rfl) ?_;refine ap ?_
       exact aI ((i+1):(Nat)) (by omega) (by show 5- (i+1)<5-i;omega)
        (aK (aK (aK (aK (aK (aK (bA rfl (by simp) (np _))))))))
        (λ_ s=>ak [1,1,0,0,0,0] rfl s)
     · skip
       refine ap ?_;refine ac hK11 ?_;clear hK11;refine ab (λK15 hK15=>?_);refine tt rfl ?_;refine aX ?_;refine aA ?_;clear hK15;refine aA ?_;refine bl ?_;refine ac hK9 ?_;clear hK9;refine ab (λK16 hK16=>?_);refine ab (λK17 hK17=>?_);refine ad ?_;obtain rfl:i=5:=by omega
       change TL _ _ _ _ _ _ _ _ _ [bq c a g,nQ a d r,ah bt (ints (bi a).flat) 85,ah b7 (ints ((ko (bi a) key 5).toList.flatMap CellT.flat)) 94,ah b5 (ints (qJ (bi a) key (fK a) 0)) 30,ah b4 (ints (#v[0,0,0,0,0]).toList) 30];refine dA (aa rfl) rfl rfl (cq rfl rfl) ?_;refine hZ (A:=[bq c a g]) (B:=[nQ a d r,ah bt (ints (bi a).flat) 85,ah b7 (ints ((ko (bi a) key 5).toList.flatMap CellT.flat)) 94,ah b5 (ints (qJ (bi a) key (fK a) 0)) 30,ah b4 (ints (#v[0,0,0,0,0]).toList) 30]) (aa rfl) rfl rfl rfl Qg rfl (E3 c n a g h) (λ_ s=>s) (λ_ _ _=>trivial) (λvR HR hR=>?_);obtain⟨d2,r2,rfl,rfl⟩:=hR;change TL _ _ _ _ _ _ _ _ _ [bq c a g,nQ a d2 r2,nQ a d r,ah bt (ints (bi a).flat) 85,ah b7 (ints ((ko (bi a) key 5).toList.flatMap CellT.flat)) 94,ah b5 (ints (qJ (bi a) key (fK a) 0)) 30,ah b4 (ints (#v[0,0,0,0,0]).toList) 30];refine hZ (A:=[]) (B:=[bq c a g,nQ a d2 r2,nQ a d r,ah bt (ints (bi a).flat) 85,ah b7 (ints ((ko (bi a) key 5).toList.flatMap CellT.flat)) 94,ah b5 (ints (qJ (bi a) key (fK a) 0)) 30,ah b4 (ints (#v[0,0,0,0,0]).toList) 30]) (aa rfl) rfl rfl rfl Qh rfl (AM (fK a) (HL h)) (λ_ s=>s) (λ_ _ _=>trivial) (λvR HR hR=>?_);obtain⟨rfl,rfl⟩:=hR;change TL _ _ _ _ _ _ _ _ _ [bq c a g,nQ a d2 r2,nQ a d r,ah bt (ints (bi a).flat) 85,ah b7 (ints ((ko (bi a) key 5).toList.flatMap CellT.flat)) 94,ah b5 (ints (qJ (bi a) key (fK a) 0)) 30,ah b4 (ints (#v[0,0,0,0,0]).toList) 30]
       refine dA (aa rfl) rfl rfl (cq rfl rfl) ?_;refine ap ?_;refine ac hK17 ?_;clear hK17;refine au ?_
       refine bn (α:=(Nat)) (λi=>i≤5) (λi=>[(4,(.pointer (some ⟨b4,0,none⟩))),(5,(.pointer (some ⟨b5,0,none⟩))),(7,(.pointer (some ⟨b7,0,none⟩))),(33,(.agg (ints (od (fK a) 5)).toArray)),(34,(.int .i64 (((i:Nat):Int))))]) (λi=>[bq c a g,nQ a d2 r2,ah b7 (ints ((ko (bi a) key 5).toList.flatMap CellT.flat)) 94,ah b5 (ints (qJ (bi a) key (fK a) i)) 30,ah b4 (ints (#v[0,0,0,0,0]).toList) 30]) (λi=>5-i) 0
        (aM _) (aK (aK (aK (aK (bA rfl (by congr 1) (np _))))))
        (λ_ s=>ak [0,0,2,2,2] rfl s) (λi hinv=>?_)
       obtain hi:=hinv;refine ab (λK18 hK18=>?_);refine ad ?_;refine dA (aa rfl) rfl rfl (L9 rfl rfl rfl) ?_;refine ao (λh35=>?_) (λh35=>?_)
       · skip
         refine ap ?_;refine ac hK18 ?_;clear hK18;refine ab (λK19 hK19=>?_);refine iU rfl ?_;refine aT ?_;refine ac hK19 ?_;clear hK19;refine ab (λK20 hK20=>?_);refine au ?_;refine ab (λK21 hK21=>?_);refine ad ?_;refine dA (aa rfl) rfl rfl (cq rfl rfl) ?_;refine dA (aa rfl) rfl rfl (nG (cs:=ints (od (fK a) 5)) (v:=(.int .i64 (tV (fK a) i))) (r:=i) rfl jO Y3 rfl aR rfl rfl (by omega) (by omega) (by omega) (Je (by omega))) ?_;refine dA (aa rfl) rfl rfl (pF rfl rfl) ?_;refine dA (aa rfl) rfl rfl (pF rfl rfl) ?_;refine ap ?_;refine ac hK21 ?_;clear hK21;refine ab (λK22 hK22=>?_);refine ab (λK23 hK23=>?_);refine ad ?_;refine dA (aa rfl) rfl rfl (cq rfl rfl) ?_;refine dA (aa rfl) rfl rfl (L9 rfl rfl rfl) ?_;refine ao (λh39=>?_) (λh39=>?_)
         · skip
           refine dA (aa rfl) rfl rfl (cq rfl rfl) ?_;refine k0 (b:=true) rfl rfl rfl rfl (lb rfl) ?_;refine k0 (b:=true) rfl rfl rfl rfl (lb rfl) ?_;refine dA (aa rfl) rfl rfl (mj rfl rfl rfl) ?_;refine ap ?_;refine ac hK23 ?_;clear hK23;refine iU rfl ?_;refine aX ?_;refine aA ?_;clear hK22;refine bl ?_;refine ac hK20 ?_;clear hK20;refine ad ?_;refine dA (aa rfl) rfl rfl (cr rfl rfl rfl (bH (by omega) (by omega))) ?_;refine dA (aa rfl) rfl rfl (cq rfl rfl) ?_;refine ap ?_
           exact aI ((i+1):(Nat)) (by omega) (by show 5- (i+1)<5-i;omega)
            (aK (aK (aK (aK (bA rfl (by simp) (np _))))))
            (λ_ q=>by show bD [bq c a g,nQ a d2 r2,ah b7 (ints ((ko (bi a) key 5).toList.flatMap CellT.flat)) 94,ah b5 (ints (qJ (bi a) key (fK a) (i+1))) 30,ah b4 (ints (#v[0,0,0,0,0]).toList) 30] _;rw[qJ,if_neg (by omega)];exact ak [0,0,0,0,0] rfl q)
         · skip
           refine dA (aa rfl) rfl rfl (cq rfl rfl) ?_;refine dA (bR rfl rfl rfl) rfl rfl (cq rfl rfl) ?_;refine dA (bR rfl rfl rfl) rfl rfl (PV.geq rfl rfl rfl) ?_;refine ao (λh42=>?_) (λh42=>?_)
           · skip
             refine dA (aa rfl) rfl rfl (mj rfl rfl rfl) ?_;refine ap ?_;refine ac hK23 ?_;clear hK23;refine iU rfl ?_;refine aX ?_;refine aA ?_;clear hK22;refine bl ?_;refine ac hK20 ?_;clear hK20;refine ad ?_;refine dA (aa rfl) rfl rfl (cr rfl rfl rfl (bH (by omega) (by omega))) ?_;refine dA (aa rfl) rfl rfl (cq rfl rfl) ?_;refine ap ?_
             exact aI ((i+1):(Nat)) (by omega) (by show 5- (i+1)<5-i;omega)
              (aK (aK (aK (aK (bA rfl (by simp) (np _))))))
              (λ_ q=>by show bD [bq c a g,nQ a d2 r2,ah b7 (ints ((ko (bi a) key 5).toList.flatMap CellT.flat)) 94,ah b5 (ints (qJ (bi a) key (fK a) (i+1))) 30,ah b4 (ints (#v[0,0,0,0,0]).toList) 30] _;rw[qJ,if_neg (by omega)];exact ak [0,0,0,0,0] rfl q)
           · skip
             obtain⟨ow,how,hw5⟩: ∃ow:Nat,tV (fK a) i=((ow:Nat):Int)∧ow<5:=⟨(tV (fK a) i).toNat,by omega,by omega⟩;rw[how];refine dA (aa rfl) rfl rfl (mj rfl rfl rfl) ?_;refine ap ?_;refine ac hK23 ?_;clear hK23;refine tt rfl ?_;refine aT ?_;refine ac hK22 ?_;clear hK22;refine ab (λK24 hK24=>?_);refine oz (λw=>Frm F w∧w.heap[b7]?=some (.cells (ints ((ko (bi a) key 5).toList.flatMap CellT.flat)).toArray 94 (0,0))∧True) dp rfl (λ_ s=>⟨eb s,s.block 2 (lb rfl) rfl,trivial⟩) ?_;refine dF (i:=0) rfl (by kernel_rfl) (by kernel_rfl) (by kernel_rfl) (λ_ _ _ _ h=>h) (aa rfl) rfl rfl (cq rfl rfl) ?_;refine dF (i:=1) rfl (by kernel_rfl) (by kernel_rfl) (by kernel_rfl) (λ_ _ _ _ h=>h) (aa rfl) rfl rfl (eu (r:=ow) rfl jO aR rfl rfl (by omega) (by omega) (by omega)) ?_;refine dF (i:=3) rfl (by kernel_rfl) (by kernel_rfl) (by kernel_rfl) (λ_ _ _ _ h=>h) (aa rfl) rfl rfl (cq rfl rfl) ?_;refine dF (i:=4) rfl (by kernel_rfl) (by kernel_rfl) (by kernel_rfl) (λ_ _ _ _ h=>h) (aa rfl) rfl rfl (eu (r:=i*7) rfl KC fy rfl rfl (by omega) (by omega) (by omega)) ?_;refine dF (i:=5) rfl (by kernel_rfl) (by kernel_rfl) (by kernel_rfl) (λ_ _ _ _ h=>h) (aa rfl) rfl rfl (aZ (r:=i*7) rfl mM rfl aR rfl rfl) ?_
             refine dF (i:=6) rfl (by kernel_rfl) (by kernel_rfl) (by kernel_rfl) (λ_ _ _ _ h=>h) (aa rfl) rfl rfl (e4 (v:=(.int .i64 ((iy (bi a) key i).inn))) rfl Y3 rfl rfl (λ_ h=>h.2.1) (Kh 0 (by omega) (by omega) (by decide) (se _ rfl))) ?_;refine dF (i:=7) rfl (by kernel_rfl) (by kernel_rfl) (by kernel_rfl) (λ_ _ _ _ h=>h) (aa rfl) rfl rfl (cq rfl rfl) ?_;refine dF (i:=8) rfl (by kernel_rfl) (by kernel_rfl) (by kernel_rfl) (λ_ _ _ _ h=>h) (aa rfl) rfl rfl (eu (r:=i*7) rfl KC fy rfl rfl (by omega) (by omega) (by omega)) ?_;refine dF (i:=9) rfl (by kernel_rfl) (by kernel_rfl) (by kernel_rfl) (λ_ _ _ _ h=>h) (aa rfl) rfl rfl (aZ (r:=i*7+1) rfl mM rfl aR rfl rfl) ?_;refine dF (i:=10) rfl (by kernel_rfl) (by kernel_rfl) (by kernel_rfl) (λ_ _ _ _ h=>h) (aa rfl) rfl rfl (e4 (v:=(.int .i64 ((iy (bi a) key i).out))) rfl Y3 rfl rfl (λ_ h=>h.2.1) (Kh 1 (by omega) (by omega) (by decide) (sd _ rfl))) ?_;refine dF (i:=11) rfl (by kernel_rfl) (by kernel_rfl) (by kernel_rfl) (λ_ _ _ _ h=>h) (aa rfl) rfl rfl (iz (r:=(fQ ((iy (bi a) key i).inn- (iy (bi a) key i).out))) rfl rfl rfl rfl) ?_;refine cE [2] (by kernel_rfl) rfl ?_;refine aF rfl ?_ ?_
             · skip
               refine dA (aa rfl) rfl rfl (e4 (v:=(.int .i64 ((qJ (bi a) key (fK a) i).getD ow 0))) rfl Y3 rfl rfl (dS 3 rfl rfl) (MJ (by omega) (by simp only[IT,M0,cA,qK,iK,iH];omega))) ?_;refine ap ?_;refine nl (λ_ s=>⟨eb s,s.block 2 (lb rfl) rfl,trivial⟩) ?_;refine dF (i:=12) rfl (by kernel_rfl) (by kernel_rfl) (by kernel_rfl) (λ_ _ _ _ h=>h) (aa rfl) rfl rfl (cr (r:=(fQ ((qJ (bi a) key (fK a) i).getD ow 0+fQ ((iy (bi a) key i).inn- (iy (bi a) key i).out)))) rfl rfl rfl rfl) ?_;refine dF (i:=13) rfl (by kernel_rfl) (by kernel_rfl) (by kernel_rfl) (λ_ _ _ _ h=>h) (aa rfl) rfl rfl (eu (r:=ow) rfl jO aR rfl rfl (by omega) (by omega) (by omega)) ?_;refine cE [14] (by kernel_rfl) rfl ?_;refine aF rfl ?_ ?_
               · skip
                 refine bz (i:=3) (H':=[bq c a g,nQ a d2 r2,ah b7 (ints ((ko (bi a) key 5).toList.flatMap CellT.flat)) 94,ah b5 (ints (IT (bi a) key i ow (qJ (bi a) key (fK a) i))) 30,ah b4 (ints (#v[0,0,0,0,0]).toList) 30]) (aa rfl) rfl rfl rfl rfl rfl aR rfl rfl (by simp only[ints_length,IT,M0,cA,qK,iK,iH];omega) (JJ (by omega)) rfl ?_;refine ap ?_;refine nl (λ_ s=>⟨eb s,s.block 2 (lb rfl) rfl,trivial⟩) ?_;refine QT (by kernel_rfl) ?_;refine ac hK24 ?_;clear hK24;refine ab (λK25 hK25=>?_);refine ad ?_;refine dA (aa rfl) rfl rfl (cq rfl rfl) ?_;refine ap ?_;refine ac hK25 ?_;clear hK25;refine au ?_
                 refine bn (α:=(Nat)) (λj=>j≤5) (λj=>[(4,(.pointer (some ⟨b4,0,none⟩))),(5,(.pointer (some ⟨b5,0,none⟩))),(7,(.pointer (some ⟨b7,0,none⟩))),(9,(.int .i64 (((i:Nat):Int)))),(10,(.int .i64 (((ow:Nat):Int)))),(33,(.agg (ints (od (fK a) 5)).toArray)),(34,(.int .i64 (((i:Nat):Int)))),(58,(.int .i64 (((j:Nat):Int))))]) (λj=>[bq c a g,nQ a d2 r2,ah b7 (ints ((ko (bi a) key 5).toList.flatMap CellT.flat)) 94,ah b5 (ints (KP (bi a) key i ow (IT (bi a) key i ow (qJ (bi a) key (fK a) i)) j)) 30,ah b4 (ints (#v[0,0,0,0,0]).toList) 30]) (λj=>5-j) 0
                  (aM _) (aK (aK (aK (aK (aK (aK (aK (bA rfl (by congr 1) (np _)))))))))
                  (λ_ s=>s) (λj hinv=>?_)
                 obtain hj:=hinv;refine ab (λK26 hK26=>?_);refine ad ?_;refine dA (aa rfl) rfl rfl (L9 rfl rfl rfl) ?_;refine ao (λh59=>?_) (λh59=>?_)
                 · skip
                   refine ap ?_;refine ac hK26 ?_;clear hK26;refine ab (λK27 hK27=>?_);refine iU rfl ?_;refine aT ?_;refine ac hK27 ?_;clear hK27;refine ab (λK28 hK28=>?_);refine au ?_;refine ab (λK29 hK29=>?_);refine ad ?_;refine dA (aa rfl) rfl rfl (cq rfl rfl) ?_;refine dA (aa rfl) rfl rfl (pF rfl rfl) ?_;refine ap ?_;refine ac hK29 ?_;clear hK29;refine oz (λw=>Frm F w∧w.heap[b7]?=some (.cells (ints ((ko (bi a) key 5).toList.flatMap CellT.flat)).toArray 94 (0,0))∧True) dp rfl (λ_ s=>⟨eb s,s.block 2 (lb rfl) rfl,trivial⟩) ?_;refine dF (i:=0) rfl (by kernel_rfl) (by kernel_rfl) (by kernel_rfl) (λ_ _ _ _ h=>h) (aa rfl) rfl rfl (cq rfl rfl) ?_;refine dF (i:=1) rfl (by kernel_rfl) (by kernel_rfl) (by kernel_rfl) (λ_ _ _ _ h=>h) (aa rfl) rfl rfl (eu (r:=ow) rfl jO aR rfl rfl (by omega) (by omega) (by omega)) ?_;refine dF (i:=3) rfl (by kernel_rfl) (by kernel_rfl) (by kernel_rfl) (λ_ _ _ _ h=>h) (aa rfl) rfl rfl (cq rfl rfl) ?_;refine dF (i:=4) rfl (by kernel_rfl) (by kernel_rfl) (by kernel_rfl) (λ_ _ _ _ h=>h) (aa rfl) rfl rfl (cq rfl rfl) ?_;refine dF (i:=5) rfl (by kernel_rfl) (by kernel_rfl) (by kernel_rfl) (λ_ _ _ _ h=>h) (aa rfl) rfl rfl (eu (r:=j*7) rfl KC fy rfl rfl (by omega) (by omega) (by omega)) ?_;refine dF (i:=6) rfl (by kernel_rfl) (by kernel_rfl) (by kernel_rfl) (λ_ _ _ _ h=>h) (aa rfl) rfl rfl (aZ (r:=j*7+2) rfl mM rfl eW rfl rfl) ?_
                   refine dF (i:=7) rfl (by kernel_rfl) (by kernel_rfl) (by kernel_rfl) (λ_ _ _ _ h=>h) (aa rfl) rfl rfl (eu (r:=j*7+2+i) rfl jO aR rfl rfl (by omega) (by omega) (by omega)) ?_;refine dF (i:=8) rfl (by kernel_rfl) (by kernel_rfl) (by kernel_rfl) (λ_ _ _ _ h=>h) (aa rfl) rfl rfl (e4 (v:=(.int .i64 ((iy (bi a) key j).given.toList.getD i 0))) rfl Y3 rfl rfl (λ_ h=>h.2.1) (Dx (by omega) (by omega) (by omega))) ?_;refine dF (i:=9) rfl (by kernel_rfl) (by kernel_rfl) (by kernel_rfl) (λ_ _ _ _ h=>h) (aa rfl) rfl rfl (cq rfl rfl) ?_;refine dF (i:=10) rfl (by kernel_rfl) (by kernel_rfl) (by kernel_rfl) (λ_ _ _ _ h=>h) (aa rfl) rfl rfl (cq rfl rfl) ?_;refine dF (i:=11) rfl (by kernel_rfl) (by kernel_rfl) (by kernel_rfl) (λ_ _ _ _ h=>h) (aa rfl) rfl rfl (eu (r:=i*7) rfl KC fy rfl rfl (by omega) (by omega) (by omega)) ?_;refine dF (i:=12) rfl (by kernel_rfl) (by kernel_rfl) (by kernel_rfl) (λ_ _ _ _ h=>h) (aa rfl) rfl rfl (aZ (r:=i*7+2) rfl mM rfl eW rfl rfl) ?_;refine dF (i:=13) rfl (by kernel_rfl) (by kernel_rfl) (by kernel_rfl) (λ_ _ _ _ h=>h) (aa rfl) rfl rfl (eu (r:=i*7+2+j) rfl jO aR rfl rfl (by omega) (by omega) (by omega)) ?_
                   refine dF (i:=14) rfl (by kernel_rfl) (by kernel_rfl) (by kernel_rfl) (λ_ _ _ _ h=>h) (aa rfl) rfl rfl (e4 (v:=(.int .i64 ((iy (bi a) key i).given.toList.getD j 0))) rfl Y3 rfl rfl (λ_ h=>h.2.1) (Dx (by omega) (by omega) (by omega))) ?_;refine dF (i:=15) rfl (by kernel_rfl) (by kernel_rfl) (by kernel_rfl) (λ_ _ _ _ h=>h) (aa rfl) rfl rfl (iz (r:=(fQ ((iy (bi a) key j).given.toList.getD i 0- (iy (bi a) key i).given.toList.getD j 0))) rfl rfl rfl rfl) ?_;refine cE [2] (by kernel_rfl) rfl ?_;refine aF rfl ?_ ?_
                   · skip
                     refine dA (aa rfl) rfl rfl (e4 (v:=(.int .i64 ((KP (bi a) key i ow (IT (bi a) key i ow (qJ (bi a) key (fK a) i)) j).getD ow 0))) rfl Y3 rfl rfl (dS 3 rfl rfl) (MJ (by omega) (by simp only[IT,M0,cA,qK,iK,iH];omega))) ?_;refine ap ?_;refine nl (λ_ s=>⟨eb s,s.block 2 (lb rfl) rfl,trivial⟩) ?_;refine dF (i:=16) rfl (by kernel_rfl) (by kernel_rfl) (by kernel_rfl) (λ_ _ _ _ h=>h) (aa rfl) rfl rfl (cr (r:=(fQ ((KP (bi a) key i ow (IT (bi a) key i ow (qJ (bi a) key (fK a) i)) j).getD ow 0+fQ ((iy (bi a) key j).given.toList.getD i 0- (iy (bi a) key i).given.toList.getD j 0)))) rfl rfl rfl rfl) ?_;refine dF (i:=17) rfl (by kernel_rfl) (by kernel_rfl) (by kernel_rfl) (λ_ _ _ _ h=>h) (aa rfl) rfl rfl (eu (r:=ow) rfl jO aR rfl rfl (by omega) (by omega) (by omega)) ?_;refine cE [18] (by kernel_rfl) rfl ?_;refine aF rfl ?_ ?_
                     · skip
                       refine bz (i:=3) (H':=[bq c a g,nQ a d2 r2,ah b7 (ints ((ko (bi a) key 5).toList.flatMap CellT.flat)) 94,ah b5 (ints (M0 (bi a) key i ow j (KP (bi a) key i ow (IT (bi a) key i ow (qJ (bi a) key (fK a) i)) j))) 30,ah b4 (ints (#v[0,0,0,0,0]).toList) 30]) (aa rfl) rfl rfl rfl rfl rfl aR rfl rfl (by simp only[ints_length,IT,M0,cA,qK,iK,iH];omega) (JJ (by omega)) rfl ?_;refine ap ?_;refine nl (λ_ s=>⟨eb s,s.block 2 (lb rfl) rfl,trivial⟩) ?_;refine QT (by kernel_rfl) ?_;refine ag ?_;refine ac hK28 ?_;clear hK28;refine ad ?_;refine dA (aa rfl) rfl rfl (cr rfl rfl rfl (bH (by omega) (by omega))) ?_;refine dA (aa rfl) rfl rfl (cq rfl rfl) ?_;refine ap ?_
                       exact aI ((j+1):(Nat)) (by omega) (by show 5- (j+1)<5-j;omega)
                        (aK (aK (aK (aK (aK (aK (aK (bA rfl (by simp) (np _)))))))))
                        (λ_ s=>s)
                     exact bB
                   exact bB
                 · skip
                   refine ap ?_;refine ac hK26 ?_;clear hK26;refine ab (λK30 hK30=>?_);refine tt rfl ?_;refine aX ?_;refine aA ?_;clear hK30;refine aA ?_;refine bl ?_;refine ag ?_;refine ac hK20 ?_;clear hK20;refine ad ?_;refine dA (aa rfl) rfl rfl (cr rfl rfl rfl (bH (by omega) (by omega))) ?_;refine dA (aa rfl) rfl rfl (cq rfl rfl) ?_;refine ap ?_
                   exact aI ((i+1):(Nat)) (by omega) (by show 5- (i+1)<5-i;omega)
                    (aK (aK (aK (aK (bA rfl (by simp) (np _))))))
                    (λ_ q=>by show bD [bq c a g,nQ a d2 r2,ah b7 (ints ((ko (bi a) key 5).toList.flatMap CellT.flat)) 94,ah b5 (ints (qJ (bi a) key (fK a) (i+1))) 30,ah b4 (ints (#v[0,0,0,0,0]).toList) 30] _;rw[qJ,if_pos (by omega),show(tV (fK a) i).toNat=ow by omega];rw[show j=5 by omega]at q;exact ak [0,0,0,0,0] rfl q)
               exact bB
             exact bB
       · skip
         refine ap ?_;refine ac hK18 ?_;clear hK18;refine ab (λK31 hK31=>?_);refine tt rfl ?_;refine aX ?_;refine aA ?_;clear hK31;refine aA ?_;refine bl ?_;refine ac hK16 ?_;clear hK16;refine ab (λK32 hK32=>?_);refine ad ?_;obtain rfl:i=5:=by omega
         refine dA (aa rfl) rfl rfl (aN (vs:=ints (qJ (bi a) key (fK a) 5)) rfl jO rfl eW rfl (dS 3 rfl rfl) (by simp only[ints_length,iK]) (by rw[aV,az (by simp only[ints_length,iK];exact aL _)])) ?_;refine bO (vs:=ints (qJ (bi a) key (fK a) 5)) (i:=4) (H':=[bq c a g,nQ a d2 r2,ah b7 (ints ((ko (bi a) key 5).toList.flatMap CellT.flat)) 94,ah b5 (ints (qJ (bi a) key (fK a) 5)) 30,ah b4 (ints (qJ (bi a) key (fK a) 5)) 30]) (aa rfl) rfl rfl rfl rfl rfl (by simp only[ints_length,iK];exact eW) (bk _) rfl rfl (by simp only[ints_length,iK];exact aL _) (gh (by simp only[ints_length,iK];rfl)) rfl ?_;refine ap ?_;refine ac hK32 ?_;clear hK32;refine ai ?_;refine yI (H':=[bq c a g,nQ a d2 r2]) rfl rfl jO rfl eW (dS 4 rfl rfl) (by rw[ints_length,iK]) (λ_ s=>ak [0,0] rfl s) ?_;exact .inr ⟨by omega,d2,r2,rfl,rfl⟩
theorem ER{a:CL}{i:Nat}(h:(a.at' i).up=false):lU a i=DV i++fJ (a.at' i).reps:=by
 unfold lU xw;split
 · rw[h];rfl
 · rfl
theorem xg{a:CL}{i:Nat}{s:MS LD}(hs:(a.at' i).run=some s)(h:(a.at' i).up=true):lU a i=uD i s++fJ (a.at' i).reps:=by
 unfold lU xw;rw[hs,h];rfl
theorem BF(t c:Nat)(A v:Value)(bs:List UInt8)(a:CL)(g:CX)(i:Nat)(hi:i<5)(hA:A= .pointer none∨A= .pointer (some ⟨t,1,none⟩))(hv:v.oneCell'=true)(hb:bs.length≤500000)(n:Nat)(h:TOk n a)(hn:n≤1200):
 DT 38 #[(.pointer (some ⟨t,0,none⟩)),(.int .i64 (((i:Nat):Int)))] (TabR) [ah t [(.pointer (some ⟨c,0,none⟩)),A,v] 102,ce v (bs) 5,bq c a g] (dm (λ_ H=>∃v',v'.oneCell'=true∧H=[ah t [(.pointer (some ⟨c,0,none⟩)),(.pointer (some ⟨t,1,none⟩)),v'] 102,ce v' (bs++lU a i) 5,bq c a g])):=by
 refine Leg.Does.body (n:=63) Tryz.func38 rfl rfl rfl (λw0 F hF=>sr λ_ J1=>PS ?_);refine CF Ob (xq ((i:Nat):Int) (kl (by omega))) (λ_ s=>s) (λ_ d _=>iV hF d) ?_;have hit:=vK (n:=((i:Nat):Int)) (kl (by omega));refine tp (L6 (a:=[109,97,99,104,105,110,101,32]) (b:=Lib.itoa ((i:Nat):Int)) rfl rfl rfl (by simp only[am,aw];omega)) ?_;refine PS ?_;refine nx J1 (ab λ_ J2=>sr λ_ J3=>PS ?_);refine PS ?_;refine FA 0 DK GK ?_;refine LA 0 NH ?_;refine PS ?_;refine CR O0 (xh (i:=i) hi) (SM [2]) λvR HR hR=>?_
 rcases hR with⟨hup,rfl,rfl⟩| ⟨sm,hrun,hup,rfl,rfl⟩
 refine PS ?_;refine nx J3 (sr λ_ J4=>PS ?_);refine tp (sc rfl uA rfl rfl) ?_;refine nx J4 (CY (ad (PS ?_)));refine PS ?_;refine tp (L6 (a:=[109,97,99,104,105,110,101,32]++Lib.itoa ((i:Nat):Int)) (b:=[32,100,111,119,110]) rfl rfl rfl (by simp only[ae,am,aw];omega)) ?_;refine CQ EJ (kj t c A v (.slice none 0 0) (bs) ([109,97,99,104,105,110,101,32]++Lib.itoa ((i:Nat):Int)++[32,100,111,119,110]) [] hA hv zO (by simp only[ae,am,aw];omega)) (SM [1,1]) (λ_ d _=>⟨Or.inl ⟨rfl,rfl⟩,iV hF d⟩) λvR HR hR=>?_
 obtain⟨w1,hw1,rfl⟩:=hR;refine nx J2 (sr λ_ J5=>PS ?_);refine PS ?_;refine FA 0 DK GK ?_;refine LA 0 NH ?_;refine PS ?_;refine CR HC (oS (i:=i) h.ok (by omega) hi) (SM [2]) λvR HR hR=>?_
 obtain⟨_,h1ur,rfl,rfl⟩:=hR;revert vR;intro ur h1ur;refine gT 1 rfl rfl (λhlr _=>?_);have hrn:=h.reps hi;refine tp (df rfl DI rfl hlr) ?_;refine PS ?_;refine nx J5 (au ?_)
 refine bn (α:=(Nat)×(Value)) (λ⟨k,v2⟩=>k≤(a.at' i).reps.length∧v2.oneCell'=true) (λ⟨k,v2⟩=>[(0,(.pointer (some ⟨t,0,none⟩))),(47,ur),(48,(.int .i64 ((((a.at' i).reps.length:Nat):Int)))),(49,(.int .i64 (((k:Nat):Int))))]) (λ⟨k,v2⟩=>[ah t [(.pointer (some ⟨c,0,none⟩)),(.pointer (some ⟨t,1,none⟩)),v2] 102,ce v2 (bs++DV i++fJ ((a.at' i).reps.take k)) 5,bq c a g,own ur (((a.at' i).reps).length) (ints (List.flatMap ReplyT.flat ((a.at' i).reps))) 47 3]) (λ⟨k,v2⟩=>(a.at' i).reps.length-k) (0,w1)
  ⟨aM _,hw1⟩ SB
  (λ_ s=>by show bD [ah t [(.pointer (some ⟨c,0,none⟩)),(.pointer (some ⟨t,1,none⟩)),w1] 102,ce w1 (bs++DV i++fJ ((a.at' i).reps.take 0)) 5,bq c a g,own ur (((a.at' i).reps).length) (ints (List.flatMap ReplyT.flat ((a.at' i).reps))) 47 3] _;rw[show bs++DV i++fJ ((a.at' i).reps.take 0)=bs++DV i from aP _];exact ak [2,2,0,0] rfl s) (λ⟨k,v2⟩ hinv=>?_)
 obtain⟨hk,hv2⟩:=hinv;have hrl:=n5 (l:=(a.at' i).reps.take k) (λr hr=>h.rws i r (ey hr));rw[bh]at hrl;have hhd:(DV i).length≤200:=A1 hi;refine sr λ_ J6=>PS ?_
 refine ao (λh50=>?_) (λh50=>?_);have hkr:k< (a.at' i).reps.length:=by omega
 obtain⟨r,hr⟩: ∃r,r=(a.at' i).reps[k]:=⟨_,rfl⟩;have hrm:r∈(a.at' i).reps:=by rw[hr];exact cH hkr
 have hfr:=s7 Il (a.at' i).reps hkr;rw[←hr]at hfr;refine hY 3 rfl rfl (by omega) (λgr capr hvr hcapr=>nx J6 (ab λ_ J7=>CY (qx J7 (ab λ_ J8=>au (sr λ_ J9=>tp (bd (r:=k*3) hvr rfl DI Al rfl rfl (by omega) (by omega) (by omega)) ?_)))));refine tp (sj (vs:=ints r.flat) rfl Ii rfl Al rfl (fD 3 rfl hvr rfl) (pD _) hfr) ?_;refine XA PH λb9=>?_
 change TL _ _ _ _ _ _ _ _ _ [ah b9 (ints ReplyT.zero.flat) 47,ah t [(.pointer (some ⟨c,0,none⟩)),(.pointer (some ⟨t,1,none⟩)),v2] 102,ce v2 (bs++DV i++fJ ((a.at' i).reps.take k)) 5,bq c a g,own ur (((a.at' i).reps).length) (ints (List.flatMap ReplyT.flat ((a.at' i).reps))) 47 3];refine bO (vs:=ints r.flat) (i:=0) (aa rfl) rfl rfl rfl rfl rfl (by rw[(pD r)];exact Al) (bk _) rfl rfl (LC (pD _) (pD _)) (ct ((pD ReplyT.zero).trans (pD r).symm)) rfl (nx J9 (ad (PS ?_)));refine FA 0 Ii aR ?_;refine tp (e4 (v:=(.int .i64 (r.op))) rfl Y3 rfl rfl (RO 0) (QV r rfl)) ?_;refine FA 1 Ii MX ?_;refine tp (e4 (v:=(.int .i64 (r.err))) rfl Tryz.underlying45 rfl rfl (RO 0) (Qx r rfl)) ?_;refine FA 2 Ii aR ?_;refine tp (e4 (v:=(.int .i64 (r.value))) rfl Y3 rfl rfl (RO 0) (NI r rfl)) ?_;refine aQ (cells:=#[(.int .i64 (r.op)),(.int .i64 (r.err)),(.int .i64 (r.value))]) (aa rfl) rfl rfl rfl iO oD rfl rfl rfl (by as_aux_lemma=>kernel_rfl) (λb60=>?_);change TL _ _ _ _ _ _ _ _ _ [ah b60 [(.int .i64 (r.op)),(.int .i64 (r.err)),(.int .i64 (r.value))] 3,ah b9 (ints r.flat) 47,ah t [(.pointer (some ⟨c,0,none⟩)),(.pointer (some ⟨t,1,none⟩)),v2] 102,ce v2 (bs++DV i++fJ ((a.at' i).reps.take k)) 5,bq c a g,own ur (((a.at' i).reps).length) (ints (List.flatMap ReplyT.flat ((a.at' i).reps))) 47 3]
 refine cm (H':=[own (.slice (some ⟨b60,0,none⟩) (3) (3)) (3) ([.int .i64 r.op, .int .i64 r.err, .int .i64 r.value]) 3 1,ah b9 (ints r.flat) 47,ah t [(.pointer (some ⟨c,0,none⟩)),(.pointer (some ⟨t,1,none⟩)),v2] 102,ce v2 (bs++DV i++fJ ((a.at' i).reps.take k)) 5,bq c a g,own ur (((a.at' i).reps).length) (ints (List.flatMap ReplyT.flat ((a.at' i).reps))) 47 3]) (λ_ s=>ny (g:=b60) (cap:=3) (nn:=3) (e:=3) (cur:=[.int .i64 r.op, .int .i64 r.err, .int .i64 r.value]) (xs:=[.int .i64 r.op, .int .i64 r.err, .int .i64 r.value]) 0 rfl rfl (by decide) (by decide) rfl rfl s) (CQ EJ (kj t c (.pointer (some ⟨t,1,none⟩)) v2 (.slice (some ⟨b60,0,none⟩) (3) (3)) (bs++DV i++fJ ((a.at' i).reps.take k)) ([114,101,112,108,121]) [r.op,r.err,r.value] (Or.inr rfl) hv2 (qS (h.rws i r hrm)) (by simp only[ae,am,aw];omega)) (SM [2,2]) (λg_ d s_=>⟨nC (l:=[r.op,r.err,r.value]) 0 rfl rfl g_ d s_,iV hF d⟩) λvR HR hR=>?_);obtain⟨w2,hw2,rfl⟩:=hR;refine ap (ag (ac J8 (ad (AD ?_))));refine PS ?_;refine ap ?_
 exact aI ((k+1,w2):(Nat)×(Value)) ⟨by omega,hw2⟩ (by show(a.at' i).reps.length- (k+1)< (a.at' i).reps.length-k;omega)
  SB
  (λ_ s=>by show bD [ah t [(.pointer (some ⟨c,0,none⟩)),(.pointer (some ⟨t,1,none⟩)),w2] 102,ce w2 (bs++DV i++fJ ((a.at' i).reps.take (k+1))) 5,bq c a g,own ur (((a.at' i).reps).length) (ints (List.flatMap ReplyT.flat ((a.at' i).reps))) 47 3] _;rw[rH (a.at' i).reps hkr,←hr,←aS];exact ak [0,0,2,2] rfl s)
 exact nx J6 (ab λ_ J10=>CN (aX (aA (aA (bl (aE (H':=[ah t [(.pointer (some ⟨c,0,none⟩)),(.pointer (some ⟨t,1,none⟩)),v2] 102,ce v2 (bs++lU a i) 5,bq c a g]) (db _) (λ_ s=>by rw[show bs++lU a i=bs++DV i++fJ ((a.at' i).reps.take k)by rw[az (by omega),ER hup,aS]];exact ak [0,0,0] rfl s) (bu rfl ⟨_,hv2,rfl⟩)))))));have hsok:=h.run hi hrun;refine PS ?_;refine nx J3 (sr λ_ J11=>PS ?_);refine tp (iW rfl uA rfl rfl) ?_;refine nx J11 (CN (sr λ_ J12=>PS ?_));refine CE Lm (JB (i:=i) hi hrun (oH sm (g.d i) (g.r i))) (λ_ s=>s) ?_;refine XA sh λb6=>?_
 change TL _ _ _ _ _ _ _ _ _ [ah b6 (ints ViewT.zero.flat) 32,bq c a g,ah t [(.pointer (some ⟨c,0,none⟩)),A,v] 102,ce v (bs) 5];refine bO (vs:=ints sm.view.flat) (i:=0) (aa rfl) rfl rfl rfl rfl rfl (by rw[(an sm.view)];exact bg) (bk _) rfl rfl (LC (an _) (an _)) (ct ((an ViewT.zero).trans (an sm.view).symm)) rfl (nx J12 (ab λ_ J13=>D1 0 dp ?_));refine FD 0 0 eH aR ?_;refine ta 1 rfl (e4 (v:=(.int .i64 (sm.view.epoch))) rfl Y3 rfl rfl (λ_ h=>h.2.1) (bb sm.view rfl)) ?_;refine PD 2 ?_;refine FD 6 1 eH aR ?_;refine ta 7 rfl (e4 (v:=(.int .i64 (sm.view.members))) rfl Y3 rfl rfl (λ_ h=>h.2.1) (j0 sm.view rfl)) ?_;refine AL 3 ?_;refine CE Qo (JB (i:=i) hi hrun (Hq sm (g.d i) (g.r i))) (SM [1]) ?_;refine ap (E1 1 (ta 4 rfl (QN (cs:=ints sm.own.flat) (v:=Value.int .i64 sm.own.version) rfl dV rfl Y3 rfl rfl (cy sm.own rfl)) ?_));refine cE [5,8] (by kernel_rfl) rfl (aF rfl ?_ ?_);refine aQ (cells:=#[(.int .i64 (sm.view.epoch)),(.int .i64 (sm.own.version))]) (aa rfl) rfl rfl rfl iO oD rfl rfl rfl (by as_aux_lemma=>kernel_rfl) (λb32=>ap (E1 2 (AL 8 ?_)));refine CR Ll (nA sm.view.members) (λ_ s=>s) λvR HR hR=>?_
 obtain⟨_,rfl,rfl⟩:=hR;revert vR;intro us;have hsl:=wz sm.view.members;refine ap (E1 3 (AL 9 ?_));refine cm (H':=[own us ((px sm.view.members).length) (ints (px sm.view.members)) 3 1,own (.slice (some ⟨b32,0,none⟩) (2) (2)) (2) ([.int .i64 sm.view.epoch, .int .i64 sm.own.version]) 3 1,bq c a g,ah b6 (ints sm.view.flat) 32,ah t [(.pointer (some ⟨c,0,none⟩)),A,v] 102,ce v (bs) 5]) (λ_ s=>ny (g:=b32) (cap:=2) (nn:=2) (e:=3) (cur:=[.int .i64 sm.view.epoch, .int .i64 sm.own.version]) (xs:=[.int .i64 sm.view.epoch, .int .i64 sm.own.version]) 1 rfl rfl (by decide) (by decide) rfl rfl s) (cj (k:=1) (news:=ints (px sm.view.members)) (nn':=(D8 sm).length) (xs':=ints (D8 sm)) (aa rfl) rfl rfl rfl iO oD rfl rfl rfl rfl rfl rfl (λ_ s=>Kr 0 rfl rfl s) (bk _) (by simp only[maxLen];omega) (by omega) (by simp only[D8,am];omega) rfl (λv36 ov36=>ap (E1 3 (PD 10 ?_))));refine DN (ac J13 (ad (PS ?_)));refine PS ?_;refine tp (L6 (a:=[109,97,99,104,105,110,101,32]++Lib.itoa ((i:Nat):Int)) (b:=[32,117,112]) rfl rfl rfl (by simp only[ae,am,aw];omega)) ?_;refine PS ?_;refine CQ EJ (kj t c A v v36 (bs) ([109,97,99,104,105,110,101,32]++Lib.itoa ((i:Nat):Int)++[32,117,112]) (D8 sm) hA hv xX (by have hul:=Ae sm;simp only[ae,am,aw];omega)) (SM [4,4]) (λg_ d s_=>⟨nC (l:=D8 sm) 1 rfl rfl g_ d s_,iV hF d⟩) λvR HR hR=>?_
 obtain⟨w1,hw1,rfl⟩:=hR;refine nx J2 (sr λ_ J14=>PS ?_);refine PS ?_;refine FA 0 DK GK ?_;refine LA 0 NH ?_;refine PS ?_;refine CR HC (oS (i:=i) h.ok (by omega) hi) (SM [4]) λvR HR hR=>?_
 obtain⟨_,h1ur,rfl,rfl⟩:=hR;revert vR;intro ur h1ur;refine gT 1 rfl rfl (λhlr _=>?_);have hrn:=h.reps hi;refine tp (df rfl DI rfl hlr) ?_;refine PS ?_;refine nx J14 (au ?_)
 refine bn (α:=(Nat)×(Value)) (λ⟨k,v2⟩=>k≤(a.at' i).reps.length∧v2.oneCell'=true) (λ⟨k,v2⟩=>[(0,(.pointer (some ⟨t,0,none⟩))),(47,ur),(48,(.int .i64 ((((a.at' i).reps.length:Nat):Int)))),(49,(.int .i64 (((k:Nat):Int))))]) (λ⟨k,v2⟩=>[ah t [(.pointer (some ⟨c,0,none⟩)),(.pointer (some ⟨t,1,none⟩)),v2] 102,ce v2 (bs++uD i sm++fJ ((a.at' i).reps.take k)) 5,bq c a g,own ur (((a.at' i).reps).length) (ints (List.flatMap ReplyT.flat ((a.at' i).reps))) 47 3]) (λ⟨k,v2⟩=>(a.at' i).reps.length-k) (0,w1)
  ⟨aM _,hw1⟩ SB
  (λ_ s=>by show bD [ah t [(.pointer (some ⟨c,0,none⟩)),(.pointer (some ⟨t,1,none⟩)),w1] 102,ce w1 (bs++uD i sm++fJ ((a.at' i).reps.take 0)) 5,bq c a g,own ur (((a.at' i).reps).length) (ints (List.flatMap ReplyT.flat ((a.at' i).reps))) 47 3] _;rw[show bs++uD i sm++fJ ((a.at' i).reps.take 0)=bs++uD i sm from aP _];exact ak [2,2,0,0] rfl s) (λ⟨k,v2⟩ hinv=>?_)
 obtain⟨hk,hv2⟩:=hinv;have hrl:=n5 (l:=(a.at' i).reps.take k) (λr hr=>h.rws i r (ey hr));rw[bh]at hrl;have hhd:(uD i sm).length≤200:=Ad hi;refine sr λ_ J15=>PS ?_
 refine ao (λh50=>?_) (λh50=>?_);have hkr:k< (a.at' i).reps.length:=by omega
 obtain⟨r,hr⟩: ∃r,r=(a.at' i).reps[k]:=⟨_,rfl⟩;have hrm:r∈(a.at' i).reps:=by rw[hr];exact cH hkr
 have hfr:=s7 Il (a.at' i).reps hkr;rw[←hr]at hfr;refine hY 3 rfl rfl (by omega) (λgr capr hvr hcapr=>nx J15 (ab λ_ J16=>CY (qx J16 (ab λ_ J17=>au (sr λ_ J18=>tp (bd (r:=k*3) hvr rfl DI Al rfl rfl (by omega) (by omega) (by omega)) ?_)))));refine tp (sj (vs:=ints r.flat) rfl Ii rfl Al rfl (fD 3 rfl hvr rfl) (pD _) hfr) ?_;refine XA PH λb9=>?_
 change TL _ _ _ _ _ _ _ _ _ [ah b9 (ints ReplyT.zero.flat) 47,ah t [(.pointer (some ⟨c,0,none⟩)),(.pointer (some ⟨t,1,none⟩)),v2] 102,ce v2 (bs++uD i sm++fJ ((a.at' i).reps.take k)) 5,bq c a g,own ur (((a.at' i).reps).length) (ints (List.flatMap ReplyT.flat ((a.at' i).reps))) 47 3];refine bO (vs:=ints r.flat) (i:=0) (aa rfl) rfl rfl rfl rfl rfl (by rw[(pD r)];exact Al) (bk _) rfl rfl (LC (pD _) (pD _)) (ct ((pD ReplyT.zero).trans (pD r).symm)) rfl (nx J18 (ad (PS ?_)));refine FA 0 Ii aR ?_;refine tp (e4 (v:=(.int .i64 (r.op))) rfl Y3 rfl rfl (RO 0) (QV r rfl)) ?_;refine FA 1 Ii MX ?_;refine tp (e4 (v:=(.int .i64 (r.err))) rfl Tryz.underlying45 rfl rfl (RO 0) (Qx r rfl)) ?_;refine FA 2 Ii aR ?_;refine tp (e4 (v:=(.int .i64 (r.value))) rfl Y3 rfl rfl (RO 0) (NI r rfl)) ?_;refine aQ (cells:=#[(.int .i64 (r.op)),(.int .i64 (r.err)),(.int .i64 (r.value))]) (aa rfl) rfl rfl rfl iO oD rfl rfl rfl (by as_aux_lemma=>kernel_rfl) (λb60=>?_);change TL _ _ _ _ _ _ _ _ _ [ah b60 [(.int .i64 (r.op)),(.int .i64 (r.err)),(.int .i64 (r.value))] 3,ah b9 (ints r.flat) 47,ah t [(.pointer (some ⟨c,0,none⟩)),(.pointer (some ⟨t,1,none⟩)),v2] 102,ce v2 (bs++uD i sm++fJ ((a.at' i).reps.take k)) 5,bq c a g,own ur (((a.at' i).reps).length) (ints (List.flatMap ReplyT.flat ((a.at' i).reps))) 47 3]
 refine cm (H':=[own (.slice (some ⟨b60,0,none⟩) (3) (3)) (3) ([.int .i64 r.op, .int .i64 r.err, .int .i64 r.value]) 3 1,ah b9 (ints r.flat) 47,ah t [(.pointer (some ⟨c,0,none⟩)),(.pointer (some ⟨t,1,none⟩)),v2] 102,ce v2 (bs++uD i sm++fJ ((a.at' i).reps.take k)) 5,bq c a g,own ur (((a.at' i).reps).length) (ints (List.flatMap ReplyT.flat ((a.at' i).reps))) 47 3]) (λ_ s=>ny (g:=b60) (cap:=3) (nn:=3) (e:=3) (cur:=[.int .i64 r.op, .int .i64 r.err, .int .i64 r.value]) (xs:=[.int .i64 r.op, .int .i64 r.err, .int .i64 r.value]) 0 rfl rfl (by decide) (by decide) rfl rfl s) (CQ EJ (kj t c (.pointer (some ⟨t,1,none⟩)) v2 (.slice (some ⟨b60,0,none⟩) (3) (3)) (bs++uD i sm++fJ ((a.at' i).reps.take k)) ([114,101,112,108,121]) [r.op,r.err,r.value] (Or.inr rfl) hv2 (qS (h.rws i r hrm)) (by simp only[ae,am,aw];omega)) (SM [2,2]) (λg_ d s_=>⟨nC (l:=[r.op,r.err,r.value]) 0 rfl rfl g_ d s_,iV hF d⟩) λvR HR hR=>?_);obtain⟨w2,hw2,rfl⟩:=hR;refine ap (ag (ac J17 (ad (AD ?_))));refine PS ?_;refine ap ?_
 exact aI ((k+1,w2):(Nat)×(Value)) ⟨by omega,hw2⟩ (by show(a.at' i).reps.length- (k+1)< (a.at' i).reps.length-k;omega)
  SB
  (λ_ s=>by show bD [ah t [(.pointer (some ⟨c,0,none⟩)),(.pointer (some ⟨t,1,none⟩)),w2] 102,ce w2 (bs++uD i sm++fJ ((a.at' i).reps.take (k+1))) 5,bq c a g,own ur (((a.at' i).reps).length) (ints (List.flatMap ReplyT.flat ((a.at' i).reps))) 47 3] _;rw[rH (a.at' i).reps hkr,←hr,←aS];exact ak [0,0,2,2] rfl s)
 exact nx J15 (ab λ_ J19=>CN (aX (aA (aA (bl (aE (H':=[ah t [(.pointer (some ⟨c,0,none⟩)),(.pointer (some ⟨t,1,none⟩)),v2] 102,ce v2 (bs++lU a i) 5,bq c a g]) (db _) (λ_ s=>by rw[show bs++lU a i=bs++uD i sm++fJ ((a.at' i).reps.take k)by rw[az (by omega),xg hrun hup,aS]];exact ak [0,0,0] rfl s) (bu rfl ⟨_,hv2,rfl⟩)))))));refine aF rfl ?_ ?_;refine CR Ll (nA sm.view.members) (λ_ s=>s) λvR HR hR=>?_
 obtain⟨_,rfl,rfl⟩:=hR;revert vR;intro us;have hsl:=wz sm.view.members;refine ap (E1 2 (AL 5 ?_));refine aQ (cells:=#[(.int .i64 (sm.view.epoch)),(.int .i64 (sm.own.version))]) (aa rfl) rfl rfl rfl iO oD rfl rfl rfl (by as_aux_lemma=>kernel_rfl) (λb32=>ap (E1 3 (AL 9 ?_)));refine cm (H':=[own (.slice (some ⟨b32,0,none⟩) (2) (2)) (2) ([.int .i64 sm.view.epoch, .int .i64 sm.own.version]) 3 1,own us ((px sm.view.members).length) (ints (px sm.view.members)) 3 1,bq c a g,ah b6 (ints sm.view.flat) 32,ah t [(.pointer (some ⟨c,0,none⟩)),A,v] 102,ce v (bs) 5]) (λ_ s=>ny (g:=b32) (cap:=2) (nn:=2) (e:=3) (cur:=[.int .i64 sm.view.epoch, .int .i64 sm.own.version]) (xs:=[.int .i64 sm.view.epoch, .int .i64 sm.own.version]) 0 rfl rfl (by decide) (by decide) rfl rfl s) (cj (k:=0) (news:=ints (px sm.view.members)) (nn':=(D8 sm).length) (xs':=ints (D8 sm)) (aa rfl) rfl rfl rfl iO oD rfl rfl rfl rfl rfl rfl (λ_ s=>Kr 1 rfl rfl s) (bk _) (by simp only[maxLen];omega) (by omega) (by simp only[D8,am];omega) rfl (λv36 ov36=>ap (E1 3 (PD 10 ?_))));refine DN (ac J13 (ad (PS ?_)));refine PS ?_;refine tp (L6 (a:=[109,97,99,104,105,110,101,32]++Lib.itoa ((i:Nat):Int)) (b:=[32,117,112]) rfl rfl rfl (by simp only[ae,am,aw];omega)) ?_;refine PS ?_
 refine CQ EJ (kj t c A v v36 (bs) ([109,97,99,104,105,110,101,32]++Lib.itoa ((i:Nat):Int)++[32,117,112]) (D8 sm) hA hv xX (by have hul:=Ae sm;simp only[ae,am,aw];omega)) (SM [4,4]) (λg_ d s_=>⟨nC (l:=D8 sm) 0 rfl rfl g_ d s_,iV hF d⟩) λvR HR hR=>?_
 obtain⟨w1,hw1,rfl⟩:=hR;refine nx J2 (sr λ_ J20=>PS ?_);refine PS ?_;refine FA 0 DK GK ?_;refine LA 0 NH ?_;refine PS ?_;refine CR HC (oS (i:=i) h.ok (by omega) hi) (SM [4]) λvR HR hR=>?_
 obtain⟨_,h1ur,rfl,rfl⟩:=hR;revert vR;intro ur h1ur;refine gT 1 rfl rfl (λhlr _=>?_);have hrn:=h.reps hi;refine tp (df rfl DI rfl hlr) ?_;refine PS ?_;refine nx J20 (au ?_)
 refine bn (α:=(Nat)×(Value)) (λ⟨k,v2⟩=>k≤(a.at' i).reps.length∧v2.oneCell'=true) (λ⟨k,v2⟩=>[(0,(.pointer (some ⟨t,0,none⟩))),(47,ur),(48,(.int .i64 ((((a.at' i).reps.length:Nat):Int)))),(49,(.int .i64 (((k:Nat):Int))))]) (λ⟨k,v2⟩=>[ah t [(.pointer (some ⟨c,0,none⟩)),(.pointer (some ⟨t,1,none⟩)),v2] 102,ce v2 (bs++uD i sm++fJ ((a.at' i).reps.take k)) 5,bq c a g,own ur (((a.at' i).reps).length) (ints (List.flatMap ReplyT.flat ((a.at' i).reps))) 47 3]) (λ⟨k,v2⟩=>(a.at' i).reps.length-k) (0,w1)
  ⟨aM _,hw1⟩ SB
  (λ_ s=>by show bD [ah t [(.pointer (some ⟨c,0,none⟩)),(.pointer (some ⟨t,1,none⟩)),w1] 102,ce w1 (bs++uD i sm++fJ ((a.at' i).reps.take 0)) 5,bq c a g,own ur (((a.at' i).reps).length) (ints (List.flatMap ReplyT.flat ((a.at' i).reps))) 47 3] _;rw[show bs++uD i sm++fJ ((a.at' i).reps.take 0)=bs++uD i sm from aP _];exact ak [2,2,0,0] rfl s) (λ⟨k,v2⟩ hinv=>?_)
 obtain⟨hk,hv2⟩:=hinv;have hrl:=n5 (l:=(a.at' i).reps.take k) (λr hr=>h.rws i r (ey hr));rw[bh]at hrl;have hhd:(uD i sm).length≤200:=Ad hi;refine sr λ_ J21=>PS ?_
 refine ao (λh50=>?_) (λh50=>?_);have hkr:k< (a.at' i).reps.length:=by omega
 obtain⟨r,hr⟩: ∃r,r=(a.at' i).reps[k]:=⟨_,rfl⟩;have hrm:r∈(a.at' i).reps:=by rw[hr];exact cH hkr
 have hfr:=s7 Il (a.at' i).reps hkr;rw[←hr]at hfr;refine hY 3 rfl rfl (by omega) (λgr capr hvr hcapr=>nx J21 (ab λ_ J22=>CY (qx J22 (ab λ_ J23=>au (sr λ_ J24=>tp (bd (r:=k*3) hvr rfl DI Al rfl rfl (by omega) (by omega) (by omega)) ?_)))));refine tp (sj (vs:=ints r.flat) rfl Ii rfl Al rfl (fD 3 rfl hvr rfl) (pD _) hfr) ?_;refine XA PH λb9=>?_
 change TL _ _ _ _ _ _ _ _ _ [ah b9 (ints ReplyT.zero.flat) 47,ah t [(.pointer (some ⟨c,0,none⟩)),(.pointer (some ⟨t,1,none⟩)),v2] 102,ce v2 (bs++uD i sm++fJ ((a.at' i).reps.take k)) 5,bq c a g,own ur (((a.at' i).reps).length) (ints (List.flatMap ReplyT.flat ((a.at' i).reps))) 47 3];refine bO (vs:=ints r.flat) (i:=0) (aa rfl) rfl rfl rfl rfl rfl (by rw[(pD r)];exact Al) (bk _) rfl rfl (LC (pD _) (pD _)) (ct ((pD ReplyT.zero).trans (pD r).symm)) rfl (nx J24 (ad (PS ?_)));refine FA 0 Ii aR ?_;refine tp (e4 (v:=(.int .i64 (r.op))) rfl Y3 rfl rfl (RO 0) (QV r rfl)) ?_;refine FA 1 Ii MX ?_;refine tp (e4 (v:=(.int .i64 (r.err))) rfl Tryz.underlying45 rfl rfl (RO 0) (Qx r rfl)) ?_;refine FA 2 Ii aR ?_;refine tp (e4 (v:=(.int .i64 (r.value))) rfl Y3 rfl rfl (RO 0) (NI r rfl)) ?_;refine aQ (cells:=#[(.int .i64 (r.op)),(.int .i64 (r.err)),(.int .i64 (r.value))]) (aa rfl) rfl rfl rfl iO oD rfl rfl rfl (by as_aux_lemma=>kernel_rfl) (λb60=>?_);change TL _ _ _ _ _ _ _ _ _ [ah b60 [(.int .i64 (r.op)),(.int .i64 (r.err)),(.int .i64 (r.value))] 3,ah b9 (ints r.flat) 47,ah t [(.pointer (some ⟨c,0,none⟩)),(.pointer (some ⟨t,1,none⟩)),v2] 102,ce v2 (bs++uD i sm++fJ ((a.at' i).reps.take k)) 5,bq c a g,own ur (((a.at' i).reps).length) (ints (List.flatMap ReplyT.flat ((a.at' i).reps))) 47 3]
 refine cm (H':=[own (.slice (some ⟨b60,0,none⟩) (3) (3)) (3) ([.int .i64 r.op, .int .i64 r.err, .int .i64 r.value]) 3 1,ah b9 (ints r.flat) 47,ah t [(.pointer (some ⟨c,0,none⟩)),(.pointer (some ⟨t,1,none⟩)),v2] 102,ce v2 (bs++uD i sm++fJ ((a.at' i).reps.take k)) 5,bq c a g,own ur (((a.at' i).reps).length) (ints (List.flatMap ReplyT.flat ((a.at' i).reps))) 47 3]) (λ_ s=>ny (g:=b60) (cap:=3) (nn:=3) (e:=3) (cur:=[.int .i64 r.op, .int .i64 r.err, .int .i64 r.value]) (xs:=[.int .i64 r.op, .int .i64 r.err, .int .i64 r.value]) 0 rfl rfl (by decide) (by decide) rfl rfl s) (CQ EJ (kj t c (.pointer (some ⟨t,1,none⟩)) v2 (.slice (some ⟨b60,0,none⟩) (3) (3)) (bs++uD i sm++fJ ((a.at' i).reps.take k)) ([114,101,112,108,121]) [r.op,r.err,r.value] (Or.inr rfl) hv2 (qS (h.rws i r hrm)) (by simp only[ae,am,aw];omega)) (SM [2,2]) (λg_ d s_=>⟨nC (l:=[r.op,r.err,r.value]) 0 rfl rfl g_ d s_,iV hF d⟩) λvR HR hR=>?_);obtain⟨w2,hw2,rfl⟩:=hR;refine ap (ag (ac J23 (ad (AD ?_))));refine PS ?_;refine ap ?_
 exact aI ((k+1,w2):(Nat)×(Value)) ⟨by omega,hw2⟩ (by show(a.at' i).reps.length- (k+1)< (a.at' i).reps.length-k;omega)
  SB
  (λ_ s=>by show bD [ah t [(.pointer (some ⟨c,0,none⟩)),(.pointer (some ⟨t,1,none⟩)),w2] 102,ce w2 (bs++uD i sm++fJ ((a.at' i).reps.take (k+1))) 5,bq c a g,own ur (((a.at' i).reps).length) (ints (List.flatMap ReplyT.flat ((a.at' i).reps))) 47 3] _;rw[rH (a.at' i).reps hkr,←hr,←aS];exact ak [0,0,2,2] rfl s)
 exact nx J21 (ab λ_ J25=>CN (aX (aA (aA (bl (aE (H':=[ah t [(.pointer (some ⟨c,0,none⟩)),(.pointer (some ⟨t,1,none⟩)),v2] 102,ce v2 (bs++lU a i) 5,bq c a g]) (db _) (λ_ s=>by rw[show bs++lU a i=bs++uD i sm++fJ ((a.at' i).reps.take k)by rw[az (by omega),xg hrun hup,aS]];exact ak [0,0,0] rfl s) (bu rfl ⟨_,hv2,rfl⟩)))))));exact bB
def Ky(a:CL)(k:Nat):Vector Int 5:=⟨(qJ (bi a) ((k:Nat):Int) (fK a) 5).toArray,by simp[iK]⟩
theorem B2(a:CL)(k:Nat):(Ky a k).toList=qJ (bi a) ((k:Nat):Int) (fK a) 5:=by simp[Ky]
theorem LL(a:CL)(k:Nat):yz a k=((k:Nat):Int)::gF (bi a) ((k:Nat):Int)::(Ky a k).toList:=by rw[B2];rfl
theorem GI(a:CL):0< (gG a).length:=by
 have:0< (Dg a 3).length:=by unfold Dg m9;simp only[ae,am];omega
 rw[gG,ae,o9,ae];omega
theorem y3{n:Nat}{a:CL}(h:TOk n a)(hn:n≤1200):(gG a).length≤1000000:=by
 have h1:=rM h (i:=5) (by omega);have h2:=uo a (k:=4) (by omega);rw[gG,ae];omega
theorem wl(c:Nat)(a:CL)(g:CX)(n:Nat)(h:TOk n a)(hn:n≤1200):
 DT 19 #[(.pointer (some ⟨c,0,none⟩))] (TabR) [bq c a g] (RI (lH (gG a)) [bq c a g]):=by
 refine BD 40 Tryz.func19 rfl rfl rfl λw0 F hF=>sr λ_ J1=>PS ?_
 refine nx J1 (sr λ_ J2=>PS ?_);refine BV #[(.pointer (some ⟨c,0,none⟩)),(.pointer none),(.slice none 0 0)] ?_;refine XB λb10=>?_
 refine PS ?_;refine nx J2 (ab λ_ J3=>sr λ_ J4=>PS ?_);refine nx J4 (au ?_)
 refine bn (α:=(Nat)×(Value)×(Value)) (λ⟨i,A,v⟩=>i≤5∧(A= .pointer none∨A=(.pointer (some ⟨b10,1,none⟩)))∧v.oneCell'=true∧(0<i→A=(.pointer (some ⟨b10,1,none⟩)))) (λ⟨i,A,v⟩=>[(0,(.pointer (some ⟨c,0,none⟩))),(2,(lH ([]))),(3,(.pointer (some ⟨b10,0,none⟩))),(11,(.int .i64 (((i:Nat):Int))))]) (λ⟨i,A,v⟩=>[ah b10 [(.pointer (some ⟨c,0,none⟩)),A,v] 102,ce v (ji a i) 5,bq c a g]) (λ⟨i,A,v⟩=>5-i) (0, .pointer none, .slice none 0 0)
  ⟨aM _,Or.inl rfl,rfl,λh=>absurd h (by decide)⟩ SB
  (λ_ s=>aC [1,0,0] rfl (fR 5 1 s)) (λ⟨i,A,v⟩ hinv=>?_)
 obtain⟨hi,hA,hv,hself⟩:=hinv;have hml:=rM h (i:=i) (by omega);have hml5:i* (200+72*n)≤5* (200+72*n):=fN _ (by omega);refine sr λ_ J5=>PS ?_
 refine ao ?_ ?_<;>intro h12;refine nx J5 (ab λ_ J6=>CY (qx J6 (ab λ_ J7=>au (sr λ_ J8=>P2 ?_))));refine nx J8 (ad (P2 ?_));refine CQ Qf (BF b10 c A v (ji a i) a g i (by omega) hA hv (by omega) n h hn) ID (λ_ d _=>iV hF d) λvR HR hR=>?_
 obtain⟨w1,hw1,rfl⟩:=hR;refine ap (ag (ac J7 (ad (AD ?_))));refine PS ?_;refine ap ?_
 exact aI ((i+1,(.pointer (some ⟨b10,1,none⟩)),w1):(Nat)×(Value)×(Value)) ⟨by omega,Or.inr rfl,hw1,λ_=>rfl⟩ (by show 5- (i+1)<5-i;omega)
  SB
  (λ_ s=>by
   show bD [ah b10 [(.pointer (some ⟨c,0,none⟩)),(.pointer (some ⟨b10,1,none⟩)),w1] 102,ce w1 (ji a (i+1)) 5,bq c a g] _;rw[qe]
   exact ak [0,0,0] rfl s)
 obtain rfl:A=(.pointer (some ⟨b10,1,none⟩)):=hself (by omega);obtain rfl:i=5:=by omega
 refine nx J5 (ab λ_ J9=>CN (aX (aA (aA (bl (ac J3 (sr λ_ J10=>PS ?_)))))));refine CR OF (uE c n a g h.ok) (SM [2]) λvR HR hR=>?_
 obtain⟨bt,d,r,rfl,rfl⟩:=hR;refine PS ?_;refine nx J10 (ab λ_ J11=>sr λ_ J12=>PS ?_);refine nx J12 (au ?_)
 refine bn (α:=(Nat)×(Value)) (λ⟨k,v⟩=>k≤4∧v.oneCell'=true) (λ⟨k,v⟩=>[(0,(.pointer (some ⟨c,0,none⟩))),(2,(lH ([]))),(3,(.pointer (some ⟨b10,0,none⟩))),(5,(.pointer (some ⟨bt,0,none⟩))),(20,(.int .i64 (((k:Nat):Int))))]) (λ⟨k,v⟩=>[ah b10 [(.pointer (some ⟨c,0,none⟩)),(.pointer (some ⟨b10,1,none⟩)),v] 102,ce v (ji a 5++oq a k) 5,bq c a g,ah bt (ints (bi a).flat) 85]) (λ⟨k,v⟩=>4-k) (0,v)
  ⟨aM _,hv⟩ SB
  (λ_ s=>by
  show bD [ah b10 [(.pointer (some ⟨c,0,none⟩)),(.pointer (some ⟨b10,1,none⟩)),v] 102,ce v (ji a 5++oq a 0) 5,bq c a g,ah bt (ints (bi a).flat) 85] _;rw[show ji a 5++oq a 0=ji a 5 from aP _]
  exact ak [3,3,0,1] rfl s) (λ⟨k,v⟩ hinv=>?_)
 obtain⟨hk,hv⟩:=hinv;have hcl:=uo a (k:=k) (by omega);refine sr λ_ J13=>PS ?_
 refine ao ?_ ?_<;>intro h21;refine nx J13 (ab λ_ J14=>CY (qx J14 (ab λ_ J15=>au (sr λ_ J16=>P2 ?_))));refine nx J16 (sr λ_ J17=>P2 ?_);refine CR Qn (Ao c n a g h.ok ((k:Nat):Int)) (SM [2]) λvR HR hR=>?_
 obtain⟨_,d2,r2,hv3,rfl⟩:=hR.resolve_left (λq=>q.1 (by omega));rw[←B2]at hv3;obtain rfl:vR=(.agg (ints (Ky a k).toList).toArray):=hv3;refine XZ NU (ints (#v[0,0,0,0,0]).toList) λb7=>?_
 refine bO (vs:=ints (Ky a k).toList) (i:=0) (aa rfl) rfl rfl rfl rfl rfl (by rw[(dq (Ky a k))];exact eW) (bk _) rfl rfl (by have h0:=(dq (#v[0,0,0,0,0]));have h1:=(dq (Ky a k));omega) (ct ((dq (#v[0,0,0,0,0])).trans (dq (Ky a k)).symm)) rfl (nx J17 (D0 dp ?_));refine PD 0 ?_;refine PD 1 ?_;refine PD 2 ?_;refine PD 3 ?_;refine ta 6 rfl (l5 rfl jO aR rfl) ?_;refine AL 4 ?_;refine CE Oz (qu bt 0 85 (λx=>ints x.flat) Arnd.whole (bi a) ((k:Nat):Int)) (SM [5]) ?_;refine EN (AL 5 ?_);refine aQ (cells:=#[(.int .i64 (((k:Nat):Int))),(.int .i64 ((gF (bi a) ((k:Nat):Int))))]) (aa rfl) rfl rfl rfl iO oD rfl rfl rfl (by as_aux_lemma=>kernel_rfl) (λb31=>EN (AL 7 ?_))
 refine cm (H':=[own (.slice (some ⟨b31,0,none⟩) (2) (2)) (2) ([.int .i64 ((k:Nat):Int), .int .i64 (gF (bi a) ((k:Nat):Int))]) 3 1,ah bt (ints (bi a).flat) 85,ah b7 (ints (Ky a k).toList) 30,bq c a g,nQ a d2 r2,ah b10 [(.pointer (some ⟨c,0,none⟩)),(.pointer (some ⟨b10,1,none⟩)),v] 102,ce v (ji a 5++oq a k) 5]) (λ_ s=>ny (g:=b31) (cap:=2) (nn:=2) (e:=3) (cur:=[.int .i64 ((k:Nat):Int), .int .i64 (gF (bi a) ((k:Nat):Int))]) (xs:=[.int .i64 ((k:Nat):Int), .int .i64 (gF (bi a) ((k:Nat):Int))]) 0 rfl rfl (by decide) (by decide) rfl rfl s) (cj (k:=0) (news:=ints (Ky a k).toList) (nn':=(yz a k).length) (xs':=ints (yz a k)) (aa rfl) rfl rfl rfl iO oD rfl rfl rfl rfl rfl rfl (λ_ _=>gW (by rw[ints_length,aB]) (RO 2) (by rw[aV];exact az (aL _))) (bk _) (by decide) (by decide) (by rw[xN]) (by rw[LL];rfl) (λv33 ov33=>EN (AL 8 ?_)));refine CQ EJ (kj b10 c (.pointer (some ⟨b10,1,none⟩)) v v33 (ji a 5++oq a k) cW (yz a k) (Or.inr rfl) hv (zP a (by omega)) (by rw[ae,xN];simp only[cW,am,aw];omega)) (SM [5,5]) (λg_ d s_=>⟨nC (l:=yz a k) 0 rfl rfl g_ d s_,iV hF d⟩) λvR HR hR=>?_
 obtain⟨w2,hw2,rfl⟩:=hR;refine EN (DN (ag (ac J15 (ad (AD ?_)))));refine PS ?_;refine ap ?_
 exact aI ((k+1,w2):(Nat)×(Value)) ⟨by omega,hw2⟩ (by show 4- (k+1)<4-k;omega)
  SB
  (λ_ s=>by
   show bD [ah b10 [(.pointer (some ⟨c,0,none⟩)),(.pointer (some ⟨b10,1,none⟩)),w2] 102,ce w2 (ji a 5++oq a (k+1)) 5,bq c a g,ah bt (ints (bi a).flat) 85] _;rw[o9,←aS]
   exact ak [0,0,3,1] rfl s)
 obtain rfl:k=4:=by omega
 refine nx J13 (ab λ_ J18=>CN (aX (aA (aA (bl (ac J11 (sr λ_ J19=>P2 ?_)))))));refine FA 1 DK wt ?_;refine CE Qe (BO b10 c v (gG a) (GI a) (y3 h hn)) ID ?_;refine PS ?_;exact nx J19 (ai (WK [1] (av rfl rfl ⟨rfl,rfl⟩)))
theorem pV(c:Nat)(a:CL)(n:Nat)(h:TOk n a)(hn:n≤1200):DT 19 #[.pointer (some ⟨c,0,none⟩)] TabR [fY c a] (RI (lH (gG a)) [fY c a]):=
 Leg.Does.ex (A':=λg=>[bq c a g]) (λh s=>JX s) λg=>Leg.Does.fold (wl c a g n h hn) λe H hp=>by
  cases e with
  |returned v=>obtain⟨rfl,rfl⟩:=hp;exact⟨_,λ_ s=>H8 s,rfl,rfl⟩
  |panicked c=>exact hp.elim
  |outgrown=>exact hp.elim
end Go.Proofs.YtfocodjhmkokpaaGreatDoor
end

section
namespace Api
open Go Leg Codec Wal
theorem ND: ∀b:Fin 256,qU .u8 ((b.val:Nat):Int) 15=((b.val%16:Nat):Int):=by decide+kernel
theorem N0: ∀b:Fin 256,((b.val:Nat):Int).fdiv (2^min (4:Int).toNat IntKind.u8.bits)=((b.val / 16:Nat):Int):=by decide+kernel
def jN(b:UInt8):Int:=((b.toNat%16:Nat):Int)
def km(b:UInt8):Int:=((b.toNat / 16:Nat):Int)
def n8(b:UInt8):Int:=((b.toNat:Nat):Int)
def ie(b0 b1 b2 b3 b4:UInt8):OpT:=
 if jN b0=4 then⟨jN b0,km b0,jN b1,km b1,n8 b2,⟨jN b3,km b3,n8 b4⟩,0,0,0⟩
 else if jN b0=10 then⟨jN b0,km b0,jN b1,km b1,n8 b2, .zero,n8 b3,n8 b4-1,n8 b2⟩
 else⟨jN b0,km b0,jN b1,km b1,n8 b2, .zero,0,0,0⟩
def ld:List UInt8→List OpT
 |b0::b1::b2::b3::b4::r=>ie b0 b1 b2 b3 b4::ld r
 |_=>[]
def sF(o:OpT):OpT:=
 if o.kind%16=4 then⟨o.kind%16,o.at'%16,o.to'%16,o.key%16,o.n%256,⟨o.change.kind%16,o.change.who%16,o.change.heir%256⟩,0,0,0⟩
 else if o.kind%16=10 then⟨o.kind%16,o.at'%16,o.to'%16,o.key%16,o.n%256, .zero,o.mask%256,(o.torn+1)%256-1,o.n%256⟩
 else⟨o.kind%16,o.at'%16,o.to'%16,o.key%16,o.n%256, .zero,0,0,0⟩
theorem oc{r:List UInt8}(h:5≤r.length):ld r=ie (r.getD 0 0) (r.getD 1 0) (r.getD 2 0) (r.getD 3 0) (r.getD 4 0)::ld (r.drop 5):=by
 match r,h with
 |b0::b1::b2::b3::b4::r,_=>rfl
theorem tZ{r:List UInt8}(h:r.length<5):ld r=[]:=by
 match r,h with
 | [],_| [_],_| [_,_],_| [_,_,_],_| [_,_,_,_],_=>rfl
theorem Jb(n:Nat): ∀r:List UInt8,r.length=n→(ld r).length=n / 5:=by
 induction n using Nat.strongRecOn with
 |ind n ih=>
  intro r hr
  by_cases h:5≤r.length
  · rw[oc h,am,ih (n-5) (by omega) (r.drop 5) (by rw[bG];omega)];omega
  · rw[tZ (by omega)];simp;omega
theorem ET(b:UInt8):0≤jN b∧jN b<16:=by unfold jN;omega
theorem E8(b:UInt8):0≤km b∧km b<16:=by unfold km;have:=b.toNat_lt;omega
theorem Cx(b:UInt8):0≤n8 b∧n8 b<256:=by unfold n8;have:=b.toNat_lt;omega
theorem JS(b0 b1 b2 b3 b4:UInt8):sF (ie b0 b1 b2 b3 b4)=ie b0 b1 b2 b3 b4:=by
 have h0:=ET b0;have h1:=E8 b0;have h2:=ET b1;have h3:=E8 b1;have h4:=Cx b2;have h5:=ET b3;have h6:=E8 b3;have h7:=Cx b3;have h8:=Cx b4;unfold ie;split
 · rename_i c
   unfold sF;simp only;rw[if_pos (by omega)];simp only[OpT.mk.injEq,ChangeT.mk.injEq,and_true];omega
 split
 · rename_i c
   unfold sF;simp only;rw[if_neg (by omega),if_pos (by omega)];simp only[OpT.mk.injEq,true_and];omega
 · rename_i c c2
   unfold sF;simp only;rw[if_neg (by omega),if_neg (by omega)];simp only[OpT.mk.injEq,and_true];omega
theorem Ht(n:Nat): ∀r:List UInt8,r.length=n→∀o∈ld r,sF o=o:=by
 induction n using Nat.strongRecOn with
 |ind n ih=>
  intro r hr o ho
  by_cases h:5≤r.length
  · rw[oc h]at ho
    rcases bJ.1 ho with rfl|ho
    · exact JS _ _ _ _ _
    · exact ih (n-5) (by omega) (r.drop 5) (by rw[bG];omega) o ho
  · rw[tZ (by omega)]at ho;cases ho
theorem IG(o:OpT): ∀n∈(sF o).flat, -1≤n∧n<256:=by
 intro n hn;unfold sF at hn;split at hn
 · simp only[OpT.flat,ChangeT.flat,iu,bK,bJ,List.not_mem_nil,or_false]at hn
   omega
 split at hn
 · simp only[OpT.flat,ChangeT.flat,ChangeT.zero,iu,bK,bJ,List.not_mem_nil,or_false]at hn
   omega
 · simp only[OpT.flat,ChangeT.flat,ChangeT.zero,iu,bK,bJ,List.not_mem_nil,or_false]at hn
   omega
theorem IF(o:OpT):WF (sF o).flat:=λn hn=>by
 have:=IG o n hn;have m1:IntKind.i64.min= -9223372036854775808:=by decide
 have m2:IntKind.i64.max=9223372036854775807:=by decide
 simp only[Lit.wf,m1,m2,ay,decide_eq_true_eq];omega
theorem Jc(bs:List UInt8){k:Nat}(h:k< (ld bs).length):sF (ld bs)[k]=(ld bs)[k]:=Ht _ bs rfl _ (cH h)
theorem KZ(bs:List UInt8){k:Nat}(h:k< (ld bs).length):WF ((ld bs)[k]).flat:=by rw[←Jc bs h];exact IF _
theorem OpT.flat_length(o:OpT):o.flat.length=11:=by simp[OpT.flat,ChangeT.flat]
theorem OpT.of(l:List Int)(h:l.length=11): ∃x:OpT,x.flat=l:=by
 match l,h with
 | [a,b,c,d,e,f,g,i,j,k,m],_=>exact⟨⟨a,b,c,d,e,⟨f,g,i⟩,j,k,m⟩,rfl⟩
end Api
end

section
namespace Go.Proofs.YtfocodjhmkokpaaGreatDoor
open Go Leg Codec Api Dsk Wal
theorem Kn(b:UInt8):qU .u8 (((b.toNat:Nat):Nat):Int) 15=(((b.toNat%16:Nat):Nat):Int):=ND ⟨b.toNat,b.toNat_lt⟩
theorem MZ(b:UInt8):(((b.toNat:Nat):Nat):Int).fdiv (2^min (4:Int).toNat IntKind.u8.bits)=(((b.toNat / 16:Nat):Nat):Int):=N0 ⟨b.toNat,b.toNat_lt⟩
theorem xk(b:UInt8):IntKind.i64.wrap (((b.toNat%16:Nat):Nat):Int)=jN b:=by unfold jN;exact bH (by omega) (by omega)
theorem xu(b:UInt8):IntKind.i64.wrap (((b.toNat / 16:Nat):Nat):Int)=km b:=by unfold km;have:=b.toNat_lt;exact bH (by omega) (by omega)
theorem vJ(b:UInt8):IntKind.i64.wrap (((b.toNat:Nat):Nat):Int)=n8 b:=by unfold n8;have:=b.toNat_lt;exact bH (by omega) (by omega)
theorem xM{v:Value}{k:Nat}(h:v.oneCell'=true):(vn v k).oneCell'=true:=by
 unfold vn;split
 · rfl
 · exact h
theorem w7(x:Value)(bs:List UInt8)(hl:bs.length≤1000000):
 DT 22 #[x] (IsB x bs) [] (dm (λr' H=>∃u,r'=u∧H=[own u ((ld bs).length) (ints (List.flatMap OpT.flat (ld bs))) 63 11])):=by
 refine BD 76 Tryz.func22 rfl rfl rfl λw0 F hF=>sr λ_ J1=>PS ?_
 refine nx J1 (sr λ_ J2=>PS ?_);refine nx J2 (ab λ_ J3=>au ?_)
 refine bn (α:=(List UInt8)×(Value)×(List OpT)×(Value)) (λ⟨r,xv,done,u⟩=>IsB xv r F∧r.length≤1000000∧done.length+r.length / 5≤1000000∧ld bs=done++ld r∧xv.oneCell'=true∧u.oneCell'=true) (λ⟨r,xv,done,u⟩=>[(0,xv),(2,(.slice none 0 0)),(3,u)]) (λ⟨r,xv,done,u⟩=>[own u (done.length) (ints (List.flatMap OpT.flat done)) 63 11]) (λ⟨r,xv,done,u⟩=>r.length) (bs,x,[],(.slice none 0 0))
  ⟨hF,hl,by simp;omega,rfl,hF.one,rfl⟩ SB
  (λ_ s=>fR 63 11 s) (λ⟨r,xv,done,u⟩ hinv=>?_)
 obtain⟨hB,hr,hd,ho,hx,hu⟩:=hinv;have hU:IsW xv r F:=Gv hB;have hUl:=hB.len;refine ab λ_ J4=>sr λ_ J5=>PS ?_
 refine tp (df rfl fE rfl hUl) ?_;refine PS ?_;refine ao ?_ ?_<;>intro h7;obtain⟨b_b,off_b,cap_b,cs_b,T_b,z_b,hv_b,hb_b,hcs_b,hcp_b⟩:=IsW.at hU (j:=0) (by omega);have hlt_b:=IsW.lt hU;refine nx J5 (CY (qx J4 (ab λ_ J6=>au (ab λ_ J7=>D0 mixed ?_))));refine PD 0 ?_;refine ta 1 rfl (bd (r:=off_b) hv_b rfl fE jK rfl rfl (by omega) (by omega) (by omega)) ?_;refine ta 2 rfl (ca (v:=(.int .u8 (((((r).getD 0 0).toNat:Nat):Int)))) rfl Y5 rfl rfl (iG hb_b (λ_ h=>h.1)) (hcs_b 0 (by omega))) ?_;refine ta 3 rfl (pG (r:=((((r.getD 0 0).toNat%16:Nat):Nat):Int)) rfl rfl rfl (Kn _)) ?_;refine ta 4 rfl (cI (r:=(jN (r.getD 0 0))) rfl Y5 Y3 rfl (xk _)) ?_;refine PD 5 ?_;refine ta 6 rfl (bd (r:=off_b) hv_b rfl fE jK rfl rfl (by omega) (by omega) (by omega)) ?_;refine ta 7 rfl (ca (v:=(.int .u8 (((((r).getD 0 0).toNat:Nat):Int)))) rfl Y5 rfl rfl (iG hb_b (λ_ h=>h.1)) (hcs_b 0 (by omega))) ?_;refine ta 8 rfl (j5 (r:=((((r.getD 0 0).toNat / 16:Nat):Nat):Int)) rfl rfl rfl (by omega) (MZ _)) ?_;refine ta 9 rfl (cI (r:=(km (r.getD 0 0))) rfl Y5 Y3 rfl (xu _)) ?_;refine PD 10 ?_;refine ta 11 rfl (bd (r:=off_b+1) hv_b rfl fE jK rfl rfl (by omega) (by omega) (by omega)) ?_;refine ta 12 rfl (ca (v:=(.int .u8 (((((r).getD 1 0).toNat:Nat):Int)))) rfl Y5 rfl rfl (iG hb_b (λ_ h=>h.1)) (hcs_b 1 (by omega))) ?_;refine ta 13 rfl (pG (r:=((((r.getD 1 0).toNat%16:Nat):Nat):Int)) rfl rfl rfl (Kn _)) ?_
 refine ta 14 rfl (cI (r:=(jN (r.getD 1 0))) rfl Y5 Y3 rfl (xk _)) ?_;refine PD 15 ?_;refine ta 16 rfl (bd (r:=off_b+1) hv_b rfl fE jK rfl rfl (by omega) (by omega) (by omega)) ?_;refine ta 17 rfl (ca (v:=(.int .u8 (((((r).getD 1 0).toNat:Nat):Int)))) rfl Y5 rfl rfl (iG hb_b (λ_ h=>h.1)) (hcs_b 1 (by omega))) ?_;refine ta 18 rfl (j5 (r:=((((r.getD 1 0).toNat / 16:Nat):Nat):Int)) rfl rfl rfl (by omega) (MZ _)) ?_;refine ta 19 rfl (cI (r:=(km (r.getD 1 0))) rfl Y5 Y3 rfl (xu _)) ?_;refine PD 20 ?_;refine ta 21 rfl (bd (r:=off_b+2) hv_b rfl fE jK rfl rfl (by omega) (by omega) (by omega)) ?_;refine ta 22 rfl (ca (v:=(.int .u8 (((((r).getD 2 0).toNat:Nat):Int)))) rfl Y5 rfl rfl (iG hb_b (λ_ h=>h.1)) (hcs_b 2 (by omega))) ?_;refine ta 23 rfl (cI (r:=(n8 (r.getD 2 0))) rfl Y5 Y3 rfl (vJ _)) ?_;refine ta 24 rfl (lv OpT.zero (OpT.mk (jN (r.getD 0 0)) (km (r.getD 0 0)) (jN (r.getD 1 0)) (km (r.getD 1 0)) (n8 (r.getD 2 0)) ChangeT.zero 0 0 0) [(0,[Value.int .i64 (jN (r.getD 0 0))]),(1,[Value.int .i64 (km (r.getD 0 0))]),(2,[Value.int .i64 (jN (r.getD 1 0))]),(3,[Value.int .i64 (km (r.getD 1 0))]),(4,[Value.int .i64 (n8 (r.getD 2 0))])] ff l6 (g:=OpT.sg)) ?_;refine AL 25 ?_;refine XZ PG (ints OpT.zero.flat) λb4=>?_
 refine EN (AL 26 ?_);refine SW 0 qT gg ?_;refine EN (DN (ac J7 (ab λ_ J8=>sr λ_ J9=>FA 0 ff aR ?_)));refine LT 0 Y3 (.int .i64 ((jN (r.getD 0 0)))) ?_ (hc:=by exact cN _ rfl);refine nx J9 (au (sr λ_ J10=>PS ?_));refine ao ?_ ?_<;>intro h38;refine PS ?_;refine nx J10 (CY (D0 mixed ?_));refine PD 0 ?_;refine ta 1 rfl (bd (r:=off_b+3) hv_b rfl fE jK rfl rfl (by omega) (by omega) (by omega)) ?_;refine ta 2 rfl (ca (v:=(.int .u8 (((((r).getD 3 0).toNat:Nat):Int)))) rfl Y5 rfl rfl (iG hb_b (λ_ h=>h.1)) (hcs_b 3 (by omega))) ?_;refine ta 3 rfl (pG (r:=((((r.getD 3 0).toNat%16:Nat):Nat):Int)) rfl rfl rfl (Kn _)) ?_;refine ta 4 rfl (cI (r:=(jN (r.getD 3 0))) rfl Y5 Y3 rfl (xk _)) ?_;refine PD 5 ?_;refine ta 6 rfl (bd (r:=off_b+3) hv_b rfl fE jK rfl rfl (by omega) (by omega) (by omega)) ?_;refine ta 7 rfl (ca (v:=(.int .u8 (((((r).getD 3 0).toNat:Nat):Int)))) rfl Y5 rfl rfl (iG hb_b (λ_ h=>h.1)) (hcs_b 3 (by omega))) ?_;refine ta 8 rfl (j5 (r:=((((r.getD 3 0).toNat / 16:Nat):Nat):Int)) rfl rfl rfl (by omega) (MZ _)) ?_;refine ta 9 rfl (cI (r:=(km (r.getD 3 0))) rfl Y5 Y3 rfl (xu _)) ?_;refine PD 10 ?_;refine ta 11 rfl (bd (r:=off_b+4) hv_b rfl fE jK rfl rfl (by omega) (by omega) (by omega)) ?_;refine ta 12 rfl (ca (v:=(.int .u8 (((((r).getD 4 0).toNat:Nat):Int)))) rfl Y5 rfl rfl (iG hb_b (λ_ h=>h.1)) (hcs_b 4 (by omega))) ?_;refine ta 13 rfl (cI (r:=(n8 (r.getD 4 0))) rfl Y5 Y3 rfl (vJ _)) ?_
 refine ta 14 rfl (lv ChangeT.zero (ChangeT.mk (jN (r.getD 3 0)) (km (r.getD 3 0)) (n8 (r.getD 4 0))) [(0,[Value.int .i64 (jN (r.getD 3 0))]),(1,[Value.int .i64 (km (r.getD 3 0))]),(2,[Value.int .i64 (n8 (r.getD 4 0))])] ng Ip (g:=ChangeT.sg)) ?_;refine FD 15 5 ff fq ?_;refine AL 16 ?_;refine SP 0 fq aJ gg OpT.wp_change ?_;refine EN (DN (ag (ac J8 (ad ?_))));have hop:(OpT.mk (jN (r.getD 0 0)) (km (r.getD 0 0)) (jN (r.getD 1 0)) (km (r.getD 1 0)) (n8 (r.getD 2 0)) (ChangeT.mk (jN (r.getD 3 0)) (km (r.getD 3 0)) (n8 (r.getD 4 0))) 0 0 0)=ie (r.getD 0 0) (r.getD 1 0) (r.getD 2 0) (r.getD 3 0) (r.getD 4 0):=by first| (rw[ie,if_pos h38];try rfl)| (rw[ie,if_neg h38,if_pos h56];try rfl)| (rw[ie,if_neg h38,if_neg h56];try rfl)
 refine PS ?_;refine LW 0 ff qT gg ?_;refine aQ (cells:=(ints (OpT.mk (jN (r.getD 0 0)) (km (r.getD 0 0)) (jN (r.getD 1 0)) (km (r.getD 1 0)) (n8 (r.getD 2 0)) (ChangeT.mk (jN (r.getD 3 0)) (km (r.getD 3 0)) (n8 (r.getD 4 0))) 0 0 0).flat).toArray) (aa rfl) rfl rfl rfl Kq HQ rfl rfl rfl (kd (gg (OpT.mk (jN (r.getD 0 0)) (km (r.getD 0 0)) (jN (r.getD 1 0)) (km (r.getD 1 0)) (n8 (r.getD 2 0)) (ChangeT.mk (jN (r.getD 3 0)) (km (r.getD 3 0)) (n8 (r.getD 4 0))) 0 0 0)) (by simp)) (λb73=>?_);change TL _ _ _ _ _ _ _ _ _ [ah b73 (ints (OpT.mk (jN (r.getD 0 0)) (km (r.getD 0 0)) (jN (r.getD 1 0)) (km (r.getD 1 0)) (n8 (r.getD 2 0)) (ChangeT.mk (jN (r.getD 3 0)) (km (r.getD 3 0)) (n8 (r.getD 4 0))) 0 0 0).flat) 63,ah b4 (ints (OpT.mk (jN (r.getD 0 0)) (km (r.getD 0 0)) (jN (r.getD 1 0)) (km (r.getD 1 0)) (n8 (r.getD 2 0)) (ChangeT.mk (jN (r.getD 3 0)) (km (r.getD 3 0)) (n8 (r.getD 4 0))) 0 0 0).flat) 63,own u (done.length) (ints (List.flatMap OpT.flat done)) 63 11]
 refine cj (k:=2) (news:=ints (OpT.mk (jN (r.getD 0 0)) (km (r.getD 0 0)) (jN (r.getD 1 0)) (km (r.getD 1 0)) (n8 (r.getD 2 0)) (ChangeT.mk (jN (r.getD 3 0)) (km (r.getD 3 0)) (n8 (r.getD 4 0))) 0 0 0).flat) (nn':=(done++[ie (r.getD 0 0) (r.getD 1 0) (r.getD 2 0) (r.getD 3 0) (r.getD 4 0)]).length) (xs':=ints (List.flatMap OpT.flat (done++[ie (r.getD 0 0) (r.getD 1 0) (r.getD 2 0) (r.getD 3 0) (r.getD 4 0)]))) (aa rfl) rfl rfl rfl Kq HQ rfl rfl rfl rfl rfl rfl (λ_ _=>gW (gg _) (RO 0) (by rw[aV,dC])) (bk _) (by simp only[maxLen];omega) (by omega) (by simp) (by rw[←hop];simp[ints]) (λv74 ov74=>PS ?_);refine ap (ag (ac J6 (ad (PS ?_))));refine tp (Gu (yN (k:=5) rfl fE jK (by rw[←hv_b];rfl) rfl (by omega) (by omega) rfl) (congrArg (λq=>vn q 5) hv_b.symm)) ?_;refine PS ?_;refine ap ?_
 exact aI (((r.drop 5),(vn xv 5),(done++[ie (r.getD 0 0) (r.getD 1 0) (r.getD 2 0) (r.getD 3 0) (r.getD 4 0)]),v74):(List UInt8)×(Value)×(List OpT)×(Value)) ⟨hB.cut 5 (by omega),by rw[bG];omega,by rw[ae,bG];simp;omega,by rw[ho,oc (by omega)];simp,xM hx,ov74⟩ (by show(r.drop 5).length<r.length;rw[bG];omega)
  SB
  (λ_ s=>ak [2] rfl s)
 refine PS ?_;refine nx J10 (CN (sr λ_ J11=>PS ?_));refine ao ?_ ?_<;>intro h56;refine PS ?_;refine nx J11 (CY (D0 mixed ?_));refine PD 0 ?_;refine ta 1 rfl (bd (r:=off_b+3) hv_b rfl fE jK rfl rfl (by omega) (by omega) (by omega)) ?_;refine ta 2 rfl (ca (v:=(.int .u8 (((((r).getD 3 0).toNat:Nat):Int)))) rfl Y5 rfl rfl (iG hb_b (λ_ h=>h.1)) (hcs_b 3 (by omega))) ?_;refine ta 3 rfl (cI (r:=(n8 (r.getD 3 0))) rfl Y5 Y3 rfl (vJ _)) ?_;refine PD 4 ?_;refine ta 5 rfl (bd (r:=off_b+4) hv_b rfl fE jK rfl rfl (by omega) (by omega) (by omega)) ?_;refine ta 6 rfl (ca (v:=(.int .u8 (((((r).getD 4 0).toNat:Nat):Int)))) rfl Y5 rfl rfl (iG hb_b (λ_ h=>h.1)) (hcs_b 4 (by omega))) ?_;refine ta 7 rfl (cI (r:=(n8 (r.getD 4 0))) rfl Y5 Y3 rfl (vJ _)) ?_;refine ta 8 rfl (iz (r:=(n8 (r.getD 4 0)-1)) rfl rfl rfl (bH (by have:=Cx (r.getD 4 0);omega) (by have:=Cx (r.getD 4 0);omega))) ?_;refine FD 9 4 ff aR ?_;refine AL 10 ?_;refine LT 0 Y3 (.int .i64 ((n8 (r.getD 2 0)))) ?_ (hc:=by exact tu _ rfl);refine EN (FD 11 8 ff aR ?_);refine AL 12 ?_;refine SS 0 aR (gg _) (OpT.set_mask _ rfl _) ?_;refine EN (FD 13 9 ff aR ?_);refine AL 14 ?_;refine SS 0 aR (gg _) (OpT.set_torn _ rfl _) ?_;refine EN (FD 15 10 ff aR ?_);refine AL 16 ?_;refine SS 0 aR (gg _) (OpT.set_cut _ rfl _) ?_;refine EN (DN (ag (ac J8 (ad ?_))))
 have hop:(OpT.mk (jN (r.getD 0 0)) (km (r.getD 0 0)) (jN (r.getD 1 0)) (km (r.getD 1 0)) (n8 (r.getD 2 0)) ChangeT.zero (n8 (r.getD 3 0)) (n8 (r.getD 4 0)-1) (n8 (r.getD 2 0)))=ie (r.getD 0 0) (r.getD 1 0) (r.getD 2 0) (r.getD 3 0) (r.getD 4 0):=by first| (rw[ie,if_pos h38];try rfl)| (rw[ie,if_neg h38,if_pos h56];try rfl)| (rw[ie,if_neg h38,if_neg h56];try rfl)
 refine PS ?_;refine LW 0 ff qT gg ?_;refine aQ (cells:=(ints (OpT.mk (jN (r.getD 0 0)) (km (r.getD 0 0)) (jN (r.getD 1 0)) (km (r.getD 1 0)) (n8 (r.getD 2 0)) ChangeT.zero (n8 (r.getD 3 0)) (n8 (r.getD 4 0)-1) (n8 (r.getD 2 0))).flat).toArray) (aa rfl) rfl rfl rfl Kq HQ rfl rfl rfl (kd (gg (OpT.mk (jN (r.getD 0 0)) (km (r.getD 0 0)) (jN (r.getD 1 0)) (km (r.getD 1 0)) (n8 (r.getD 2 0)) ChangeT.zero (n8 (r.getD 3 0)) (n8 (r.getD 4 0)-1) (n8 (r.getD 2 0)))) (by simp)) (λb73=>?_);change TL _ _ _ _ _ _ _ _ _ [ah b73 (ints (OpT.mk (jN (r.getD 0 0)) (km (r.getD 0 0)) (jN (r.getD 1 0)) (km (r.getD 1 0)) (n8 (r.getD 2 0)) ChangeT.zero (n8 (r.getD 3 0)) (n8 (r.getD 4 0)-1) (n8 (r.getD 2 0))).flat) 63,ah b4 (ints (OpT.mk (jN (r.getD 0 0)) (km (r.getD 0 0)) (jN (r.getD 1 0)) (km (r.getD 1 0)) (n8 (r.getD 2 0)) ChangeT.zero (n8 (r.getD 3 0)) (n8 (r.getD 4 0)-1) (n8 (r.getD 2 0))).flat) 63,own u (done.length) (ints (List.flatMap OpT.flat done)) 63 11]
 refine cj (k:=2) (news:=ints (OpT.mk (jN (r.getD 0 0)) (km (r.getD 0 0)) (jN (r.getD 1 0)) (km (r.getD 1 0)) (n8 (r.getD 2 0)) ChangeT.zero (n8 (r.getD 3 0)) (n8 (r.getD 4 0)-1) (n8 (r.getD 2 0))).flat) (nn':=(done++[ie (r.getD 0 0) (r.getD 1 0) (r.getD 2 0) (r.getD 3 0) (r.getD 4 0)]).length) (xs':=ints (List.flatMap OpT.flat (done++[ie (r.getD 0 0) (r.getD 1 0) (r.getD 2 0) (r.getD 3 0) (r.getD 4 0)]))) (aa rfl) rfl rfl rfl Kq HQ rfl rfl rfl rfl rfl rfl (λ_ _=>gW (gg _) (RO 0) (by rw[aV,dC])) (bk _) (by simp only[maxLen];omega) (by omega) (by simp) (by rw[←hop];simp[ints]) (λv74 ov74=>PS ?_);refine ap (ag (ac J6 (ad (PS ?_))));refine tp (Gu (yN (k:=5) rfl fE jK (by rw[←hv_b];rfl) rfl (by omega) (by omega) rfl) (congrArg (λq=>vn q 5) hv_b.symm)) ?_;refine PS ?_;refine ap ?_
 exact aI (((r.drop 5),(vn xv 5),(done++[ie (r.getD 0 0) (r.getD 1 0) (r.getD 2 0) (r.getD 3 0) (r.getD 4 0)]),v74):(List UInt8)×(Value)×(List OpT)×(Value)) ⟨hB.cut 5 (by omega),by rw[bG];omega,by rw[ae,bG];simp;omega,by rw[ho,oc (by omega)];simp,xM hx,ov74⟩ (by show(r.drop 5).length<r.length;rw[bG];omega)
  SB
  (λ_ s=>ak [2] rfl s)
 refine PS ?_;refine nx J11 (CN (aT (ag (ac J8 (ad ?_)))));have hop:(OpT.mk (jN (r.getD 0 0)) (km (r.getD 0 0)) (jN (r.getD 1 0)) (km (r.getD 1 0)) (n8 (r.getD 2 0)) ChangeT.zero 0 0 0)=ie (r.getD 0 0) (r.getD 1 0) (r.getD 2 0) (r.getD 3 0) (r.getD 4 0):=by first| (rw[ie,if_pos h38];try rfl)| (rw[ie,if_neg h38,if_pos h56];try rfl)| (rw[ie,if_neg h38,if_neg h56];try rfl)
 refine PS ?_;refine LW 0 ff qT gg ?_;refine aQ (cells:=(ints (OpT.mk (jN (r.getD 0 0)) (km (r.getD 0 0)) (jN (r.getD 1 0)) (km (r.getD 1 0)) (n8 (r.getD 2 0)) ChangeT.zero 0 0 0).flat).toArray) (aa rfl) rfl rfl rfl Kq HQ rfl rfl rfl (kd (gg (OpT.mk (jN (r.getD 0 0)) (km (r.getD 0 0)) (jN (r.getD 1 0)) (km (r.getD 1 0)) (n8 (r.getD 2 0)) ChangeT.zero 0 0 0)) (by simp)) (λb73=>?_);change TL _ _ _ _ _ _ _ _ _ [ah b73 (ints (OpT.mk (jN (r.getD 0 0)) (km (r.getD 0 0)) (jN (r.getD 1 0)) (km (r.getD 1 0)) (n8 (r.getD 2 0)) ChangeT.zero 0 0 0).flat) 63,ah b4 (ints (OpT.mk (jN (r.getD 0 0)) (km (r.getD 0 0)) (jN (r.getD 1 0)) (km (r.getD 1 0)) (n8 (r.getD 2 0)) ChangeT.zero 0 0 0).flat) 63,own u (done.length) (ints (List.flatMap OpT.flat done)) 63 11];refine cj (k:=2) (news:=ints (OpT.mk (jN (r.getD 0 0)) (km (r.getD 0 0)) (jN (r.getD 1 0)) (km (r.getD 1 0)) (n8 (r.getD 2 0)) ChangeT.zero 0 0 0).flat) (nn':=(done++[ie (r.getD 0 0) (r.getD 1 0) (r.getD 2 0) (r.getD 3 0) (r.getD 4 0)]).length) (xs':=ints (List.flatMap OpT.flat (done++[ie (r.getD 0 0) (r.getD 1 0) (r.getD 2 0) (r.getD 3 0) (r.getD 4 0)]))) (aa rfl) rfl rfl rfl Kq HQ rfl rfl rfl rfl rfl rfl (λ_ _=>gW (gg _) (RO 0) (by rw[aV,dC])) (bk _) (by simp only[maxLen];omega) (by omega) (by simp) (by rw[←hop];simp[ints]) (λv74 ov74=>PS ?_);refine ap (ag (ac J6 (ad (PS ?_))))
 refine tp (Gu (yN (k:=5) rfl fE jK (by rw[←hv_b];rfl) rfl (by omega) (by omega) rfl) (congrArg (λq=>vn q 5) hv_b.symm)) ?_;refine PS ?_;refine ap ?_
 exact aI (((r.drop 5),(vn xv 5),(done++[ie (r.getD 0 0) (r.getD 1 0) (r.getD 2 0) (r.getD 3 0) (r.getD 4 0)]),v74):(List UInt8)×(Value)×(List OpT)×(Value)) ⟨hB.cut 5 (by omega),by rw[bG];omega,by rw[ae,bG];simp;omega,by rw[ho,oc (by omega)];simp,xM hx,ov74⟩ (by show(r.drop 5).length<r.length;rw[bG];omega)
  SB
  (λ_ s=>ak [2] rfl s)
 refine nx J5 (CN (aX (aA (aA (bl (ac J3 (sr λ_ J12=>P2 ?_)))))));refine nx J12 (ai (WK [0] (av rfl rfl ?_)));obtain rfl:ld bs=done:=by rw[ho,tZ (by omega),aP]
 exact⟨u,rfl,rfl⟩
end Go.Proofs.YtfocodjhmkokpaaGreatDoor
end
