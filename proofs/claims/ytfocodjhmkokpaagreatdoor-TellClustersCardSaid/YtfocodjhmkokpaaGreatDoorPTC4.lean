/-
  Joined texts:what a statement's proof reaches.
-/
import Derived.OpenShut
import Derived.Deep.Slices
import Derived.ChangeArms
import Derived.Shelf.Strconv.Itoa3
import Derived.Test.YtfocodjhmkokpaaGreatDoorProg
import Derived.Lib.ItoaLen
import Derived.Test.YtfocodjhmkokpaaGreatDoorPTC3
set_option maxHeartbeats 8000000
set_option maxRecDepth 100000
set_option linter.unusedSimpArgs false
set_option linter.unusedVariables false
section
namespace Go.Proofs.YtfocodjhmkokpaaGreatDoor
open Go Leg Codec Api
theorem nl(b off T:Nat)(cs:BookT→List Value)(hA:Arnd cs (λx=>ints x.flat) off)(B:BookT)(who:Int):
 DT 87 #[(.pointer (some ⟨b,off,none⟩)),(.int .i64 (who))] T0 [ak b (cs B) T] (RI (.agg (ints (cD B who).flat).toArray) [ak b (cs B) T]):=by
 refine BD 15 Tryz.func87 rfl rfl rfl λw0 F hF=>sr λ_ J1=>XZ vD (ints RowT.zero.flat) λb4=>?_
 refine nx J1 (aa λ_ J2=>sr λ_ J3=>PS ?_);refine CE Oy (l3 who) ID ?_;refine bh ?_ ?_<;>intro h6;have hm:0≤who∧who<5:=of_decide_eq_true h6;refine PS ?_;refine nx J3 (CN (qx J2 (sr λ_ J4=>P3 ?_)));refine tp (bb (r:=off) rfl QG rfl uU rfl rfl) ?_;refine IX (off+who.toNat*174) JC bg ?_;refine tp (aP (vs:=ints (B.rows[who.toNat]'(by omega)).flat) rfl ec rfl bg rfl (RO 1) (am (B.rows[who.toNat]'(by omega))) (Q4 hA (j:=who.toNat*174) (by omega) (LB (y9 _)) (Q0 B (who.toNat*174) (by omega) (by omega) (k9 dO B.rows (i:=who.toNat) 0 (by omega) (by omega) (by decide) (whole (am (B.rows[who.toNat]'(by omega)))))))) ?_;refine SW 0 bg am ?_;refine nx J4 (aj (RC 0 [1] ec bg (am _) ?_));exact⟨by rw[cD,dif_pos h6],rfl⟩;refine PS ?_;refine nx J3 (CY (sr λ_ J5=>BV ((ints RowT.zero.flat).toArray) ?_));refine SW 0 bg am ?_;refine nx J5 (aj (ag (RC 0 [1] ec bg (am _) ?_)));exact⟨by rw[cD,dif_neg (by simp[h6])],rfl⟩
theorem lF(b off T:Nat)(cs:BookT→List Value)(hA:Arnd cs (λx=>ints x.flat) off)(B:BookT)(who:Int)(x:RowT)(hx:WF x.flat):
 DT 34 #[(.pointer (some ⟨b,off,none⟩)),(.int .i64 (who)),(.agg (ints x.flat).toArray)] T0 [ak b (cs B) T] (RI (.bool (fh B who x).2) [ak b (cs (fh B who x).1) T]):=by
 refine BD 33 Tryz.func34 rfl rfl rfl λw0 F hF=>sr λ_ J1=>XY (ints x.flat) λb5=>?_
 refine PS ?_;refine nx J1 (aa λ_ J2=>aa λ_ J3=>D2 0 1 mixed ?_);refine PD 0 ?_;refine AL 1 ?_;refine CE Oy (l3 who) ID ?_;refine bh ?_ ?_<;>intro h8;have hm:0≤who∧who<5:=of_decide_eq_true h8;have hrow:cD B who=B.rows[who.toNat]'(by omega):=by rw[cD,dif_pos h8]
 refine ax (E2 0 1 (PD 2 ?_));refine PD 3 ?_;refine LY 4 ec bg am ?_;refine AL 5 ?_;refine CE KH (kl x hx) ID ?_;refine bh ?_ ?_<;>intro h12;refine ax (E2 0 1 (PD 6 ?_));refine PD 7 ?_;refine PD 8 ?_;refine FD 9 0 ec aR ?_;refine LR 10 Y3 (cB x rfl) ?_;refine PD 11 ?_;refine PD 12 ?_;refine PD 13 ?_;refine tb 14 rfl (bb (r:=off) rfl QG rfl uU rfl rfl) ?_;refine IY 15 (off+who.toNat*174) JC bg ?_;refine tb 16 rfl (bb (r:=off+who.toNat*174) rfl ec rfl aR rfl rfl) ?_;refine LX 17 Y3 (.int .i64 ((B.rows[who.toNat]'(by omega)).version)) ?_ (hc:=by exact Arnd.at hA (j:=who.toNat*174) (by omega) (LB (y9 _)) (BookT.pt_rows B (who.toNat*174) (by omega) (by omega) (oO dO B.rows (i:=who.toNat) 0 (by omega) (by omega) (by decide) (cB _ rfl))));refine PD 18 ?_;refine jA ?_ ?_<;>intro h25;refine PD 19 ?_;refine DN (ae J3 (CY (sr λ_ J4=>PS ?_)));refine nx J4 (aj (ag (WK [1] (aw rfl rfl ?_))));have e:fh B who x=(B,false):=by rw[fh,if_neg (λh=>by simp only[ay,decide_eq_true_iff]at h;rw[hrow]at h;omega)]
 exact⟨by rw[e],by rw[e];rfl⟩;refine PD 19 ?_;refine DN (ae J3 (CN (qx J2 (aa λ_ J5=>D1 0 mixed ?_))));refine PD 0 ?_;refine PD 1 ?_;refine LY 2 ec bg am ?_;refine PD 3 ?_;refine ta 4 rfl (bb (r:=off) rfl QG rfl uU rfl rfl) ?_;refine IY 5 (off+who.toNat*174) JC bg ?_;refine AL 6 ?_;refine bT (vs:=ints x.flat) (i:=1) (ab rfl) rfl rfl rfl rfl rfl (by rw[(am x)];exact bg) (bw _) rfl rfl (by have h0:=(y9 B);have h2:=Arnd.le hA B;have h1:=(am x);omega) (Arnd.wr hA (x:=B) (x':=(BookT.mk (B.rows.set who.toNat x (by omega)))) (j:=who.toNat*174) (by omega) (LC (y9 _) (am _)) (BookT.wr_rows_ B (who.toNat*174) (by omega) (by have h1:=(am x);omega) (vF dO B.rows (i:=who.toNat) 0 (by omega) (by omega) (by have h1:=(am x);omega) (cC ((am (B.rows[who.toNat]'(by omega))).trans (am x).symm))))) rfl (ax (E1 0 (DN (ae J5 (sr λ_ J6=>PS ?_)))));refine nx J6 (aj (WK [1] (aw rfl rfl ?_)));have e:fh B who x=(x7 B who x,true):=by rw[fh,if_pos (by simp only[ay,decide_eq_true_iff,hrow];exact⟨⟨h8,h12⟩,by omega⟩)]
 exact⟨by rw[e],by rw[e,x7,dif_pos h8];rfl⟩;refine ax (E2 0 1 (PD 6 ?_));refine PD 7 ?_;refine PD 8 ?_;refine NT 9 ?_;refine NT 10 ?_;refine NT 11 ?_;refine NT 12 ?_;refine NT 13 ?_;refine NT 14 ?_;refine NT 15 ?_;refine NT 16 ?_;refine NT 17 ?_;refine NT 18 ?_;refine PD 19 ?_;refine DN (ae J3 (CY (sr λ_ J7=>PS ?_)));refine nx J7 (aj (ag (WK [1] (aw rfl rfl ?_))));have e:fh B who x=(B,false):=by rw[fh,if_neg (λh=>by simp only[ay,decide_eq_true_iff]at h;rw[h12]at h;exact absurd h.1.2 (by decide))]
 exact⟨by rw[e],by rw[e];rfl⟩;refine ax (E2 0 1 (PD 2 ?_));refine PD 3 ?_;refine NT 4 ?_;refine NT 5 ?_;refine NT 6 ?_;refine PD 7 ?_;refine PD 8 ?_;refine NT 9 ?_;refine NT 10 ?_;refine NT 11 ?_;refine NT 12 ?_;refine NT 13 ?_;refine NT 14 ?_;refine NT 15 ?_;refine NT 16 ?_;refine NT 17 ?_;refine NT 18 ?_;refine PD 19 ?_;refine DN (ae J3 (CY (sr λ_ J8=>PS ?_)));refine nx J8 (aj (ag (WK [1] (aw rfl rfl ?_))));have e:fh B who x=(B,false):=by rw[fh,if_neg (λh=>by simp only[ay,decide_eq_true_iff]at h;rw[h8]at h;exact absurd h.1.1 (by decide))]
 exact⟨by rw[e],by rw[e];rfl⟩
theorem oJ(b off T:Nat)(cs:BookT→List Value)(hA:Arnd cs (λx=>ints x.flat) off)(B:BookT)(of' key:Int):
 DT 35 #[(.pointer (some ⟨b,off,none⟩)),(.int .i64 (of')),(.int .i64 (key))] T0 [ak b (cs B) T] (RI (.agg (ints (cT B of' key).flat).toArray) [ak b (cs B) T]):=by
 refine BD 35 Tryz.func35 rfl rfl rfl λw0 F hF=>sr λ_ J1=>XZ L8 (ints CellT.zero.flat) λb6=>?_
 refine nx J1 (sr λ_ J2=>XZ L8 (ints CellT.zero.flat) λb7=>?_);refine nx J2 (sr λ_ J3=>PS ?_);refine nx J3 (aa λ_ J4=>sr λ_ J5=>PS ?_);refine nx J5 (av ?_)
 refine bz (α:=(Nat)×(CellT)×(Int)) (λ⟨k,c,n⟩=>k≤5∧(c,n)=vz B of' key k) (λ⟨k,c,n⟩=>[(0,(.pointer (some ⟨b,off,none⟩))),(1,(.int .i64 (of'))),(2,(.int .i64 (key))),(6,(.pointer (some ⟨b6,0,none⟩))),(7,(.pointer (some ⟨b7,0,none⟩))),(8,(.int .i64 (n))),(12,(.int .i64 (((k:Nat):Int))))]) (λ⟨k,c,n⟩=>[ak b7 (ints c.flat) 35,ak b6 (ints CellT.zero.flat) 35,ak b (cs B) T]) (λ⟨k,c,n⟩=>5-k) (0,CellT.zero, -1)
  ⟨aO _,rfl⟩ SB
  (λ_ s=>s) (λ⟨k,c,n⟩ hinv=>?_)
 obtain⟨hk,hc⟩:=hinv;refine sr λ_ J6=>PS ?_
 refine aq ?_ ?_<;>intro h13;refine nx J6 (aa λ_ J7=>CY (qx J7 (aa λ_ J8=>av (sr λ_ J9=>P2 ?_))));refine nx J9 (sr λ_ J10=>P3 ?_);refine tp (bb (r:=off) rfl QG rfl uU rfl rfl) ?_;refine IX (off+k*174) JC bg ?_;refine tp (aP (vs:=ints (B.rows[k]'(by omega)).flat) rfl ec rfl bg rfl (RO 2) (am (B.rows[k]'(by omega))) (Q4 hA (j:=k*174) (by omega) (LB (y9 _)) (Q0 B (k*174) (by omega) (by omega) (k9 dO B.rows (i:=k) 0 (by omega) (by omega) (by decide) (whole (am (B.rows[k]'(by omega)))))))) ?_;refine P3 ?_;refine CE Ry (BI (B.rows[k]'(by omega)) ((k:Nat):Int) of' key) ID ?_;refine P3 ?_;refine XZ L8 (ints CellT.zero.flat) λb10=>?_
 refine SW 0 fN bu ?_;refine PS ?_;refine nx J10 (sr λ_ J11=>P3 ?_);refine aq ?_ ?_<;>intro h30;refine nx J11 (CY (af (LW 0 nw fN bu ?_)));refine PS ?_;refine SW 1 fN bu ?_;refine PS ?_;refine ax (ai (ae J8 (af (AD ?_))));refine PS ?_;refine ax ?_
 exact aM ((k+1,(ju (B.rows[k]'(by omega)) ((k:Nat):Int) of' key).1,(ju (B.rows[k]'(by omega)) ((k:Nat):Int) of' key).2):(Nat)×(CellT)×(Int)) ⟨by omega,by rw[ri,←hc,rj,yV B (by omega)];simp[h30]⟩ (by show 5- (k+1)<5-k;omega)
  SB
  (λ_ s=>an [1,1,1] rfl s)
 refine nx J11 (CN (aV (ai (ae J8 (af (AD ?_))))));refine PS ?_;refine ax ?_
 exact aM ((k+1,c,n):(Nat)×(CellT)×(Int)) ⟨by omega,by rw[ri,←hc,rj,yV B (by omega)];simp[h30]⟩ (by show 5- (k+1)<5-k;omega)
  SB
  (λ_ s=>an [1,1,1] rfl s)
 refine nx J6 (aa λ_ J12=>CN (aX (aC (aC (bq (ae J4 (sr λ_ J13=>LW 0 nw fN bu ?_)))))));refine SW 1 fN bu ?_;refine nx J13 (aj (RC 1 [2] nw fN (bu _) ?_));obtain rfl:k=5:=by omega
 exact⟨by rw[cT,←hc],rfl⟩
theorem nW(b off T:Nat)(cs:BookT→List Value)(hA:Arnd cs (λx=>ints x.flat) off)(B:BookT)(key:Int):
 DT 17 #[(.pointer (some ⟨b,off,none⟩)),(.int .i64 (key))] T0 [ak b (cs B) T] (RI (.int .i64 (eN B key)) [ak b (cs B) T]):=by
 refine BD 24 Tryz.func17 rfl rfl rfl λw0 F hF=>sr λ_ J1=>PS ?_
 refine nx J1 (sr λ_ J2=>PS ?_);refine nx J2 (aa λ_ J3=>sr λ_ J4=>PS ?_);refine nx J4 (av ?_)
 refine bz (α:=(Nat)×(Int)) (λ⟨k,n⟩=>k≤5∧n=m4 B key k) (λ⟨k,n⟩=>[(0,(.pointer (some ⟨b,off,none⟩))),(1,(.int .i64 (key))),(4,(.int .i64 0)),(5,(.int .i64 (n))),(8,(.int .i64 (((k:Nat):Int))))]) (λ⟨k,n⟩=>[ak b (cs B) T]) (λ⟨k,n⟩=>5-k) (0,0)
  ⟨aO _,rfl⟩ SB
  (λ_ s=>s) (λ⟨k,n⟩ hinv=>?_)
 obtain⟨hk,hc⟩:=hinv;refine sr λ_ J5=>PS ?_
 refine aq ?_ ?_<;>intro h9;refine nx J5 (aa λ_ J6=>CY (qx J6 (aa λ_ J7=>av (sr λ_ J8=>P2 ?_))));refine nx J8 (sr λ_ J9=>P3 ?_);refine CE OB (oJ b off T cs hA B ((k:Nat):Int) key) ID ?_;refine XZ L8 (ints CellT.zero.flat) λb7=>?_
 refine SW 0 fN bu ?_;refine nx J9 (af (PS ?_));refine FA 0 nw aR ?_;refine LT 0 Y3 (.int .i64 ((cT B ((k:Nat):Int) key).inn)) ?_ (hc:=by exact ti _ rfl);refine FA 1 nw aR ?_;refine LT 0 Y3 (.int .i64 ((cT B ((k:Nat):Int) key).out)) ?_ (hc:=by exact th _ rfl);refine tp (jC (r:=(fR (((cT B ((k:Nat):Int) key).inn)- ((cT B ((k:Nat):Int) key).out)))) rfl rfl rfl rfl) ?_;refine tp (cN (r:=(fR (n+(fR (((cT B ((k:Nat):Int) key).inn)- ((cT B ((k:Nat):Int) key).out)))))) rfl rfl rfl rfl) ?_;refine PS ?_;refine ax (ai (ae J7 (af (AD ?_))));refine PS ?_;refine ax ?_
 exact aM ((k+1,(fR (n+(fR (((cT B ((k:Nat):Int) key).inn)- ((cT B ((k:Nat):Int) key).out)))))):(Nat)×(Int)) ⟨by omega,by rw[m3,←hc]⟩ (by show 5- (k+1)<5-k;omega)
  SB
  (λ_ s=>an [1] rfl s)
 refine nx J5 (aa λ_ J10=>CN (aX (aC (aC (bq (ae J3 (sr λ_ J11=>P2 ?_)))))));refine nx J11 (aj (WK [0] (aw rfl rfl ?_)));obtain rfl:k=5:=by omega
 exact⟨by rw[hc];rfl,rfl⟩
theorem p4(b off T:Nat)(cs:BookT→List Value)(hA:Arnd cs (λx=>ints x.flat) off)(B:BookT)(who key:Int):
    DT 113 #[(.pointer (some ⟨b,off,none⟩)),(.int .i64 (who)),(.int .i64 (key))] T0 [ak b (cs B) T] (RI (.int .i64 (nX B who key)) [ak b (cs B) T]):=by
 refine BD 71 Tryz.func113 rfl rfl rfl λw0 F hF=>sr λ_ J1=>PS ?_
 refine nx J1 (aa λ_ J2=>sr λ_ J3=>PS ?_);refine CE Oy (l3 who) ID ?_;refine bh ?_ ?_<;>intro h14;have hm:0≤who∧who<5:=of_decide_eq_true h14;refine PS ?_;refine nx J3 (CN (qx J2 (sr λ_ J4=>XZ Sc (ints ((#v[CellT.zero,CellT.zero,CellT.zero,CellT.zero,CellT.zero]).toList.flatMap CellT.flat)) λb7=>?_)));refine nx J4 (aa λ_ J5=>sr λ_ J6=>PS ?_);refine nx J6 (av ?_)
 refine bz (α:=(Nat)×(Vector CellT 5)) (λ⟨k,C⟩=>k≤5∧∀(j:Nat) (h:j<5),j<k→C[j]=cT B j key) (λ⟨k,C⟩=>[(0,(.pointer (some ⟨b,off,none⟩))),(1,(.int .i64 (who))),(2,(.int .i64 (key))),(6,(.int .i64 0)),(7,(.pointer (some ⟨b7,0,none⟩))),(16,(.int .i64 (((k:Nat):Int))))]) (λ⟨k,C⟩=>[ak b7 (ints (C.toList.flatMap CellT.flat)) 94,ak b (cs B) T]) (λ⟨k,C⟩=>5-k) (0, #v[CellT.zero,CellT.zero,CellT.zero,CellT.zero,CellT.zero])
     ⟨aO _,λj _ h=>absurd h (by omega)⟩ SB
     (λ_ s=>an [0,0] rfl s) (λ⟨k,C⟩ hinv=>?_)
 obtain⟨hk,hC⟩:=hinv;refine sr λ_ J7=>PS ?_
 refine aq ?_ ?_<;>intro h17;refine nx J7 (aa λ_ J8=>CY (qx J8 (aa λ_ J9=>av (sr λ_ J10=>P2 ?_))));refine nx J10 (af (P4 ?_));refine CE OB (oJ b off T cs hA B ((k:Nat):Int) key) (SM [1]) ?_;refine IX (k*7) Mc fN ?_;refine bT (vs:=ints (cT B ((k:Nat):Int) key).flat) (i:=1) (ab rfl) rfl rfl rfl rfl rfl (by rw[(bu (cT B ((k:Nat):Int) key))];exact fN) (bw _) rfl rfl (by have h0:=(Mh C);have h1:=(bu (cT B ((k:Nat):Int) key));omega) (vF bD C (i:=k) 0 (by omega) (by omega) (by have h1:=(bu (cT B ((k:Nat):Int) key));omega) (cC ((bu (C[k]'(by omega))).trans (bu (cT B ((k:Nat):Int) key)).symm))) rfl (ax (ai (ae J9 (af (AD ?_)))));refine PS ?_;refine ax ?_
 exact aM ((k+1,(C.set k (cT B ((k:Nat):Int) key) (by omega))):(Nat)×(Vector CellT 5)) ⟨by omega,λj h hj=>by
        rw[Vector.getElem_set];split
        · subst_vars;rfl
        · exact hC j h (by omega)⟩ (by show 5- (k+1)<5-k;omega)
   SB
   (λ_ s=>an [1,0] rfl s)
 refine nx J7 (aa λ_ J11=>CN (aX (aC (aC (bq (ae J5 (sr λ_ J12=>PS ?_)))))));refine nx J12 (aa λ_ J13=>sr λ_ J14=>P3 ?_);refine tp (bb (r:=off) rfl QG rfl uU rfl rfl) ?_;refine IX (off+who.toNat*174) JC bg ?_;refine tp (aP (vs:=ints (B.rows[who.toNat]'(by omega)).flat) rfl ec rfl bg rfl (RO 1) (am (B.rows[who.toNat]'(by omega))) (Q4 hA (j:=who.toNat*174) (by omega) (LB (y9 _)) (Q0 B (who.toNat*174) (by omega) (by omega) (k9 dO B.rows (i:=who.toNat) 0 (by omega) (by omega) (by decide) (whole (am (B.rows[who.toNat]'(by omega)))))))) ?_;refine PS ?_;have hbr:B.rows[who.toNat]'(by omega)=cD B who:=by rw[cD,dif_pos h14]
 rw[hbr];refine CR P6 (DI (cD B who) who) ID λvR HR hR=>?_
 obtain⟨_,rfl,rfl⟩:=hR;revert vR;intro ul1;refine iV 0 rfl rfl (λhlul1 houl1=>tp (dI rfl jx rfl hlul1) ?_);refine PS ?_;refine nx J14 (av ?_)
 refine bz (α:=(Nat)×(Int)) (λ⟨i,r⟩=>i≤(gM (cD B who) who).length∧r=((gM (cD B who) who).take i).foldl (pB B key) 0) (λ⟨i,r⟩=>[(0,(.pointer (some ⟨b,off,none⟩))),(6,(.int .i64 0)),(7,(.pointer (some ⟨b7,0,none⟩))),(9,(.int .i64 (r))),(33,ul1),(34,(.int .i64 ((((gM (cD B who) who).length:Nat):Int)))),(35,(.int .i64 (((i:Nat):Int))))]) (λ⟨i,r⟩=>[own ul1 ((gM (cD B who) who).length) (ints (gM (cD B who) who)) 3 1,ak b7 (ints (C.toList.flatMap CellT.flat)) 94,ak b (cs B) T]) (λ⟨i,r⟩=>(gM (cD B who) who).length-i) (0,0)
     ⟨aO _,rfl⟩ SB
     (λ_ s=>an [0,0,0] rfl s) (λ⟨i,r⟩ hinv=>?_)
 obtain⟨hi,hr⟩:=hinv;have hE: ∀(j:Nat) (h:j<5),C[j]=cT B j key:=λj h=>hC j h (by omega)
 refine sr λ_ J15=>PS ?_
 refine aq ?_ ?_<;>intro h36;refine nx J15 (aa λ_ J16=>CY (qx J16 (aa λ_ J17=>av (sr λ_ J18=>iI 0 rfl rfl (by omega) (λga capa hva hcapa=>?_)))));obtain⟨q,hq,hq5⟩: ∃q:Nat,(gM (cD B who) who)[i]=((q:Nat):Int)∧q<5:=by have:=FT (cD B who) who _ (df (show i< (gM (cD B who) who).length by omega));exact⟨(gM (cD B who) who)[i].toNat,by omega,by omega⟩
 have hE2:C[q]=cT B (gM (cD B who) who)[i] key:=by rw[hE q hq5,hq]
 refine tp (bO (r:=i) hva rfl jx aR rfl rfl (by omega) (by omega) (by omega)) ?_;refine tp (de (v:=(.int .i64 (((q:Nat):Int)))) rfl Y3 rfl rfl (fQ 0 rfl hva rfl) (by rw[←hq];simp[ints,show i< (gM (cD B who) who).length by omega])) ?_;refine PS ?_;refine nx J18 (aa λ_ J19=>D1 1 mixed ?_);refine PD 0 ?_;refine PD 1 ?_;refine IY 2 (q*7) Mc fN ?_;refine ta 3 rfl (bb (r:=q*7) rfl nw rfl aR rfl rfl) ?_;refine LX 4 Y3 (.int .i64 ((C[q]'(by omega)).inn)) ?_ (hc:=by exact oO bD C (i:=q) 0 (by omega) (by omega) (by decide) (ti _ rfl));refine PD 5 ?_;refine IY 6 (q*7) Mc fN ?_;refine ta 7 rfl (bb (r:=q*7+1) rfl nw rfl aR rfl rfl) ?_;refine LX 8 Y3 (.int .i64 ((C[q]'(by omega)).out)) ?_ (hc:=by exact oO bD C (i:=q) 1 (by omega) (by omega) (by decide) (th _ rfl));refine ta 9 rfl (jC (r:=(fR (((C[q]'(by omega)).inn)- ((C[q]'(by omega)).out)))) rfl rfl rfl rfl) ?_;refine ta 10 rfl (cN (r:=(fR (r+(fR (((C[q]'(by omega)).inn)- ((C[q]'(by omega)).out)))))) rfl rfl rfl rfl) ?_;refine PD 11 ?_;refine DN (ae J19 (sr λ_ J20=>PS ?_));refine nx J20 (av ?_)
 refine bz (α:=(Nat)×(Int)) (λ⟨o,r3⟩=>o≤5∧r3=qS B key (gM (cD B who) who)[i] (fR (r+fR (C[q].inn-C[q].out))) o) (λ⟨o,r3⟩=>[(0,(.pointer (some ⟨b,off,none⟩))),(6,(.int .i64 0)),(7,(.pointer (some ⟨b7,0,none⟩))),(9,(.int .i64 (r3))),(11,(.int .i64 (((q:Nat):Int)))),(33,ul1),(34,(.int .i64 ((((gM (cD B who) who).length:Nat):Int)))),(35,(.int .i64 (((i:Nat):Int)))),(50,(.int .i64 (((o:Nat):Int))))]) (λ⟨o,r3⟩=>[own ul1 ((gM (cD B who) who).length) (ints (gM (cD B who) who)) 3 1,ak b7 (ints (C.toList.flatMap CellT.flat)) 94,ak b (cs B) T]) (λ⟨o,r3⟩=>5-o) (0,(fR (r+(fR (((C[q]'(by omega)).inn)- ((C[q]'(by omega)).out))))))
     ⟨aO _,rfl⟩ SB
     (λ_ s=>an [0,0,0] rfl s) (λ⟨o,r3⟩ hinv=>?_)
 obtain⟨ho,hr3⟩:=hinv;refine sr λ_ J21=>PS ?_
 refine aq ?_ ?_<;>intro h51;refine nx J21 (aa λ_ J22=>CY (qx J22 (aa λ_ J23=>av (sr λ_ J24=>P2 ?_))));refine nx J24 (D1 1 mixed ?_);refine PD 0 ?_;refine PD 1 ?_;refine PD 2 ?_;refine IY 3 (o*7) Mc fN ?_;refine ta 4 rfl (bb (r:=o*7+2) rfl nw rfl e8 rfl rfl) ?_;refine IY 5 (o*7+2+q) ke aR ?_;refine LX 6 Y3 (.int .i64 ((((C[o]'(by omega)).given)[q]'(by omega)))) ?_ (hc:=by exact oO bD C (i:=o) (2+q) (by omega) (by omega) (by omega) (QX (C[o]'(by omega)) q (by omega) (by omega) (kN ((C[o]'(by omega)).given) (by omega))));refine PD 7 ?_;refine PD 8 ?_;refine IY 9 (q*7) Mc fN ?_;refine ta 10 rfl (bb (r:=q*7+2) rfl nw rfl e8 rfl rfl) ?_;refine IY 11 (q*7+2+o) ke aR ?_;refine LX 12 Y3 (.int .i64 ((((C[q]'(by omega)).given)[o]'(by omega)))) ?_ (hc:=by exact oO bD C (i:=q) (2+o) (by omega) (by omega) (by omega) (QX (C[q]'(by omega)) o (by omega) (by omega) (kN ((C[q]'(by omega)).given) (by omega))));refine ta 13 rfl (jC (r:=(fR ((((C[o]'(by omega)).given)[q]'(by omega))- (((C[q]'(by omega)).given)[o]'(by omega))))) rfl rfl rfl rfl) ?_;refine ta 14 rfl (cN (r:=(fR (r3+(fR ((((C[o]'(by omega)).given)[q]'(by omega))- (((C[q]'(by omega)).given)[o]'(by omega))))))) rfl rfl rfl rfl) ?_;refine PD 15 ?_;refine DN (ai (ae J23 (af (AD ?_))));refine PS ?_;refine ax ?_
 exact aM ((o+1,(fR (r3+(fR ((((C[o]'(by omega)).given)[q]'(by omega))- (((C[q]'(by omega)).given)[o]'(by omega))))))):(Nat)×(Int)) ⟨by omega,by rw[zj,←hr3,yB _ (by omega),hq,yB _ hq5,←hE o (by omega),←hE q hq5]⟩ (by show 5- (o+1)<5-o;omega)
   SB
   (λ_ s=>an [0,0,0] rfl s)
 refine nx J21 (aa λ_ J25=>CN (aX (aC (aC (bq (ai (ae J17 (af (AD ?_)))))))));refine PS ?_;refine ax ?_
 exact aM ((i+1,r3):(Nat)×(Int)) ⟨by omega,by
          have h5:o=5:=by omega
          rw[bU (by omega),e5,←hr];show r3=pB B key r _
          rw[hr3,h5,pB,←hE2]⟩ (by show(gM (cD B who) who).length- (i+1)< (gM (cD B who) who).length-i;omega)
   SB
   (λ_ s=>an [0,0,0] rfl s)
 refine nx J15 (aa λ_ J26=>CN (aX (aC (aC (bq (ae J13 (sr λ_ J27=>P2 ?_)))))));refine nx J27 (aj (WK [2] (aw rfl rfl ?_)));obtain rfl:i=(gM (cD B who) who).length:=by omega
 exact⟨by rw[nX,if_pos h14,hr,iX],rfl⟩;refine PS ?_;refine nx J3 (CY (sr λ_ J28=>PS ?_));refine nx J28 (aj (ag (WK [0] (aw rfl rfl ?_))));exact⟨by rw[nX,if_neg (by simp[h14])],rfl⟩
theorem mq(b off T:Nat)(cs:MirT→List Value)(hA:Arnd cs MirT.cells off)(M:MirT)(who:Int):
 DT 56 #[(.pointer (some ⟨b,off,none⟩)),(.int .i64 (who))] T0 [ak b (cs M) T] (RI (.agg (ints (dF M who).flat).toArray) [ak b (cs M) T]):=by
 refine BD 15 Tryz.func56 rfl rfl rfl λw0 F hF=>sr λ_ J1=>XZ vD (ints RowT.zero.flat) λb4=>?_
 refine nx J1 (aa λ_ J2=>sr λ_ J3=>PS ?_);refine CE MG (iR who) ID ?_;refine bh ?_ ?_<;>intro h6;have hm:0≤who∧who<5:=of_decide_eq_true h6;refine PS ?_;refine nx J3 (CN (qx J2 (sr λ_ J4=>P3 ?_)));refine tp (bb (r:=off) rfl OY rfl uU rfl rfl) ?_;refine IX (off+who.toNat*174) JC bg ?_;refine tp (aP (vs:=ints (M.rows[who.toNat]'(by omega)).flat) rfl ec rfl bg rfl (RO 1) (am (M.rows[who.toNat]'(by omega))) (Q4 hA (j:=who.toNat*174) (by omega) (LB (ru _)) (MirT.sub_rows M (who.toNat*174) (by omega) (by omega) (k9 dO M.rows (i:=who.toNat) 0 (by omega) (by omega) (by decide) (whole (am (M.rows[who.toNat]'(by omega)))))))) ?_;refine SW 0 bg am ?_;refine nx J4 (aj (RC 0 [1] ec bg (am _) ?_));exact⟨by rw[dF,dif_pos h6],rfl⟩;refine PS ?_;refine nx J3 (CY (sr λ_ J5=>BV ((ints RowT.zero.flat).toArray) ?_));refine SW 0 bg am ?_;refine nx J5 (aj (ag (RC 0 [1] ec bg (am _) ?_)));exact⟨by rw[dF,dif_neg (by simp[h6])],rfl⟩
theorem nO(b off T:Nat)(cs:MirT→List Value)(hA:Arnd cs MirT.cells off)(M:MirT)(who:Int):
 DT 57 #[(.pointer (some ⟨b,off,none⟩)),(.int .i64 (who))] T0 [ak b (cs M) T] (RI (.bool (fz M who)) [ak b (cs M) T]):=by
 refine BD 15 Tryz.func57 rfl rfl rfl λw0 F hF=>sr λ_ J1=>PS ?_
 refine nx J1 (sr λ_ J2=>PS ?_);refine CE MG (iR who) ID ?_;refine bh ?_ ?_<;>intro h6;have hm:0≤who∧who<5:=of_decide_eq_true h6;refine P4 ?_;refine tq (bb (r:=off+870) rfl OY rfl Ob rfl rfl) ?_;refine IX (off+870+who.toNat) Tryz.underlying76 lK ?_;refine LT 0 Y4 (.bool ((M.sealed[who.toNat]'(by omega)))) ?_ (hc:=by exact Arnd.at hA (j:=870+who.toNat) (by omega) (LB (ru _)) (MirT.pt_sealed M (who.toNat) (by omega) (by omega) (Nq M.sealed (by omega))));refine P2 ?_;refine nx J2 (aj (WK [0] (aw rfl rfl ?_)));exact⟨by simp[fz, *],rfl⟩;refine PS ?_
 iterate 6 refine UF ?_
 refine P2 ?_;refine nx J2 (aj (WK [0] (aw rfl rfl ?_)));exact⟨by simp[fz, *],rfl⟩
theorem sd(b off T:Nat)(cs:MirT→List Value)(hA:Arnd cs MirT.cells off)(M:MirT)(who:Int)(x:RowT)(hx:WF x.flat):
 DT 148 #[(.pointer (some ⟨b,off,none⟩)),(.int .i64 (who)),(.agg (ints x.flat).toArray)] T0 [ak b (cs M) T] (RI (.bool (mp M who x)) [ak b (cs M) T]):=by
 refine BD 34 Tryz.func148 rfl rfl rfl λw0 F hF=>sr λ_ J1=>XY (ints x.flat) λb5=>?_
 refine PS ?_;refine nx J1 (aa λ_ J2=>D2 1 0 mixed ?_);refine PD 0 ?_;refine AL 1 ?_;refine CE MG (iR who) ID ?_;refine bh ?_ ?_<;>intro h8;have hm:0≤who∧who<5:=of_decide_eq_true h8;refine EN (PD 2 ?_);refine PD 3 ?_;refine PD 4 ?_;refine PD 5 ?_;refine tb 6 rfl (bb (r:=off+870) rfl OY rfl Ob rfl rfl) ?_;refine IY 7 (off+870+who.toNat) Tryz.underlying76 lK ?_;refine LX 8 Y4 (.bool ((M.sealed[who.toNat]'(by omega)))) ?_ (hc:=by exact Arnd.at hA (j:=870+who.toNat) (by omega) (LB (ru _)) (MirT.pt_sealed M (who.toNat) (by omega) (by omega) (Nq M.sealed (by omega))));refine pj ?_ ?_<;>intro h15;refine PD 9 ?_;refine PD 10 ?_;refine PD 11 ?_;refine NT 12 ?_;refine NT 13 ?_;refine PD 14 ?_;refine PD 15 ?_;refine NT 16 ?_;refine NT 17 ?_;refine NT 18 ?_;refine NT 19 ?_;refine NT 20 ?_;refine NT 21 ?_;refine NT 22 ?_;refine NT 23 ?_;refine NT 24 ?_;refine NT 25 ?_;refine PD 26 ?_;refine PD 27 ?_;refine DN (ae J2 (aj (WK [1] (aw rfl rfl ?_))));exact⟨by simp[mp,fz,dF, *],rfl⟩;refine PD 9 ?_;refine PD 10 ?_;refine PD 11 ?_;refine LY 12 ec bg am ?_;refine AL 13 ?_;refine CE KH (kl x hx) ID ?_;refine bh ?_ ?_<;>intro h20;refine EN (PD 14 ?_);refine PD 15 ?_;refine FD 16 0 ec aR ?_;refine LR 17 Y3 (cB x rfl) ?_;refine PD 18 ?_;refine PD 19 ?_;refine PD 20 ?_;refine tb 21 rfl (bb (r:=off) rfl OY rfl uU rfl rfl) ?_;refine IY 22 (off+who.toNat*174) JC bg ?_;refine tb 23 rfl (bb (r:=off+who.toNat*174) rfl ec rfl aR rfl rfl) ?_
 refine LX 24 Y3 (.int .i64 ((M.rows[who.toNat]'(by omega)).version)) ?_ (hc:=by exact Arnd.at hA (j:=who.toNat*174) (by omega) (LB (ru _)) (MirT.pt_rows M (who.toNat*174) (by omega) (by omega) (oO dO M.rows (i:=who.toNat) 0 (by omega) (by omega) (by decide) (cB _ rfl))));refine PD 25 ?_;refine PD 26 ?_;refine PD 27 ?_;refine DN (ae J2 (aj (WK [1] (aw rfl rfl ?_))));exact⟨by simp[mp,fz,dF, *],rfl⟩;refine EN (PD 14 ?_);refine PD 15 ?_;refine NT 16 ?_;refine NT 17 ?_;refine NT 18 ?_;refine NT 19 ?_;refine NT 20 ?_;refine NT 21 ?_;refine NT 22 ?_;refine NT 23 ?_;refine NT 24 ?_;refine NT 25 ?_;refine PD 26 ?_;refine PD 27 ?_;refine DN (ae J2 (aj (WK [1] (aw rfl rfl ?_))));exact⟨by simp[mp,fz,dF, *],rfl⟩;refine EN (PD 2 ?_);refine NT 3 ?_;refine NT 4 ?_;refine NT 5 ?_;refine NT 6 ?_;refine NT 7 ?_;refine NT 8 ?_;refine NT 9 ?_;refine PD 10 ?_;refine PD 11 ?_;refine NT 12 ?_;refine NT 13 ?_;refine PD 14 ?_;refine PD 15 ?_;refine NT 16 ?_;refine NT 17 ?_;refine NT 18 ?_;refine NT 19 ?_;refine NT 20 ?_;refine NT 21 ?_;refine NT 22 ?_;refine NT 23 ?_;refine NT 24 ?_;refine NT 25 ?_;refine PD 26 ?_;refine PD 27 ?_;refine DN (ae J2 (aj (WK [1] (aw rfl rfl ?_))));exact⟨by simp[mp,fz,dF, *],rfl⟩
theorem uk(b off T:Nat)(cs:MirT→List Value)(hA:Arnd cs MirT.cells off)(M:MirT)(who:Int)(x:RowT)(hx:WF x.flat):
 DT 108 #[(.pointer (some ⟨b,off,none⟩)),(.int .i64 (who)),(.agg (ints x.flat).toArray)] T0 [ak b (cs M) T] (RI (.bool (m9 M who x).2) [ak b (cs (m9 M who x).1) T]):=by
 refine BD 18 Tryz.func108 rfl rfl rfl λw0 F hF=>sr λ_ J1=>XY (ints x.flat) λb5=>?_
 refine PS ?_;refine nx J1 (aa λ_ J2=>sr λ_ J3=>P2 ?_);refine LW 0 ec bg am ?_;refine CE NJ (sd b off T cs hA M who x hx) (SM [1]) ?_;refine bh ?_ ?_<;>intro h10;have hm0:cO who=true:=by have:=h10;simp only[mp,ay]at this;exact this.1.1.1
 have hm:0≤who∧who<5:=of_decide_eq_true hm0;refine PS ?_;refine nx J3 (CN (qx J2 (aa λ_ J4=>D1 1 mixed ?_)));refine PD 0 ?_;refine PD 1 ?_;refine LY 2 ec bg am ?_;refine PD 3 ?_;refine ta 4 rfl (bb (r:=off) rfl OY rfl uU rfl rfl) ?_;refine IY 5 (off+who.toNat*174) JC bg ?_;refine AL 6 ?_;refine bT (vs:=ints x.flat) (i:=0) (ab rfl) rfl rfl rfl rfl rfl (by rw[(am x)];exact bg) (bw _) rfl rfl (by have h0:=(ru M);have h2:=Arnd.le hA M;have h1:=(am x);omega) (Arnd.wr hA (x:=M) (x':=(MirT.mk (M.rows.set who.toNat x (by omega)) M.sealed)) (j:=who.toNat*174) (by omega) (LC (ru _) (am _)) (MirT.wr_rows_ M (who.toNat*174) (by omega) (by have h1:=(am x);omega) (vF dO M.rows (i:=who.toNat) 0 (by omega) (by omega) (by have h1:=(am x);omega) (cC ((am (M.rows[who.toNat]'(by omega))).trans (am x).symm))))) rfl (ax (E1 1 (DN (ae J4 (sr λ_ J5=>PS ?_)))));refine nx J5 (aj (WK [0] (aw rfl rfl ?_)));have e:m9 M who x=(B5 M who x,true):=by rw[m9,if_pos h10]
 exact⟨by rw[e],by rw[e,B5,dif_pos hm0];rfl⟩;refine PS ?_;refine nx J3 (CY (sr λ_ J6=>PS ?_));refine nx J6 (aj (ag (WK [0] (aw rfl rfl ?_))));have e:m9 M who x=(M,false):=by rw[m9,if_neg (by simp[h10])]
 exact⟨by rw[e],by rw[e];rfl⟩
theorem uj(b off T:Nat)(cs:MirT→List Value)(hA:Arnd cs MirT.cells off)(M:MirT)(who:Int):
 DT 109 #[(.pointer (some ⟨b,off,none⟩)),(.int .i64 (who))] T0 [ak b (cs M) T] (RI (.tuple #[.agg (ints (dF M who).flat).toArray, .bool (cO who)]) [ak b (cs (o9 M who)) T]):=by
 refine Leg.Does.body (vs:=[(.pointer (some ⟨b,off,none⟩)),(.int .i64 (who))]) (n:=21) Tryz.func109 rfl rfl rfl (λw0 F hF=>?_);refine sr λ_ J1=>?_
 refine rr (ab rfl) rfl rfl rfl vD (λb4=>?_);change TL _ _ _ _ _ _ _ _ _ [ak b4 (ints RowT.zero.flat) 39,ak b (cs M) T];refine qn ?_;refine nx J1 ?_;clear J1;refine aa λ_ J2=>?_
 refine sr λ_ J3=>?_
 refine mv ?_;refine lG (ab rfl) rfl rfl rfl MG rfl (iR who) (λ_ s=>s) (λ_ _ _=>trivial) (λvR HR hR=>?_);obtain⟨rfl,rfl⟩:=hR;refine bh (λh7=>?_) (λh7=>?_);have hm:0≤who∧who<5:=of_decide_eq_true h7;refine tp (nq (r:=false) rfl rfl rfl) ?_;refine nx J3 ?_;clear J3;refine HJ rfl ?_;refine aV ?_;refine ae J2 ?_;clear J2;refine sr λ_ J4=>?_
 refine mv ?_;refine mv ?_;refine tp (gD rfl rfl) ?_;refine tp (bb (r:=off+870) rfl OY rfl Ob rfl rfl) ?_;refine tp (ox (r:=off+870+who.toNat) rfl Tryz.underlying76 lK rfl rfl (by omega) (by omega) (by omega)) ?_;refine bF (i:=1) (ab rfl) rfl rfl rfl rfl rfl lK rfl rfl (by have h0:=(ru M);have h2:=Arnd.le hA M;omega) (Arnd.set hA (x:=M) (x':=(MirT.mk M.rows (M.sealed.set who.toNat true (by omega)))) (j:=870+who.toNat) (by omega) (by have h0:=(ru M);omega) (MirT.st_sealed M (who.toNat) (by omega) (by omega) (Pg M.sealed (by omega) _))) rfl ?_;refine nx J4 ?_;clear J4;refine sr λ_ J5=>?_
 refine mv ?_;refine mv ?_;refine tp (gD rfl rfl) ?_;refine tp (bb (r:=off) rfl OY rfl uU rfl rfl) ?_;refine tp (ox (r:=off+who.toNat*174) rfl JC bg rfl rfl (by omega) (by omega) (by omega)) ?_;refine tp (aP (vs:=ints (M.rows[who.toNat]'(by omega)).flat) rfl ec rfl bg rfl (fj 1 rfl rfl) (am (M.rows[who.toNat]'(by omega))) (Q4 hA (j:=who.toNat*174) (by omega) (by have h0:=(ru (MirT.mk M.rows (M.sealed.set who.toNat true (by omega))));omega) (MirT.sub_rows (MirT.mk M.rows (M.sealed.set who.toNat true (by omega))) (who.toNat*174) (by omega) (by omega) (k9 dO M.rows (i:=who.toNat) 0 (by omega) (by omega) (by decide) (whole (am (M.rows[who.toNat]'(by omega)))))))) ?_;refine bT (vs:=ints (M.rows[who.toNat]'(by omega)).flat) (i:=0) (ab rfl) rfl rfl rfl rfl rfl (by rw[(am (M.rows[who.toNat]'(by omega)))];exact bg) (bw _) rfl rfl (by have h0:=(am RowT.zero);have h1:=(am (M.rows[who.toNat]'(by omega)));omega) (cC ((am RowT.zero).trans (am (M.rows[who.toNat]'(by omega))).symm)) rfl ?_;refine qn ?_;refine nx J5 ?_;clear J5;refine aj ?_;refine my (H':=[ak b (cs (MirT.mk M.rows (M.sealed.set who.toNat true (by omega)))) T]) rfl rfl rfl ec rfl bg (fj 0 rfl rfl) (am (M.rows[who.toNat]'(by omega))) (λ_ s=>an [1] rfl s) ?_;exact⟨by simp[dF, *],by simp[o9, *]⟩;refine tp (nq (r:=true) rfl rfl rfl) ?_;refine nx J3 ?_;clear J3;refine od rfl ?_;refine sr λ_ J6=>?_
 refine tp (kA (cells:=(ints RowT.zero.flat).toArray) rfl rfl (by as_aux_lemma=>kernel_rfl)) ?_;refine bT (vs:=ints RowT.zero.flat) (i:=0) (ab rfl) rfl rfl rfl rfl rfl (by rw[(am RowT.zero)];exact bg) (bw _) rfl rfl (by have h0:=(am RowT.zero);have h1:=(am RowT.zero);omega) (cC ((am RowT.zero).trans (am RowT.zero).symm)) rfl ?_;refine qn ?_;refine nx J6 ?_;clear J6;refine aj ?_;refine ag ?_;clear J2;refine my (H':=[ak b (cs M) T]) rfl rfl rfl ec rfl bg (fj 0 rfl rfl) (am RowT.zero) (λ_ s=>an [1] rfl s) ?_;exact⟨by simp[dF, *],by simp[o9, *]⟩
end Go.Proofs.YtfocodjhmkokpaaGreatDoor
end

section
namespace Api
open Go Leg Codec
def eF(k:Int):Bool:=decide (k=0∨k=2∨k=9)
def fa(k:Int):Bool:=decide (k=3∨k=6)
def cY:Ps (MsgT×Bool):=pb (fE 10) λk=>
 if eF k then pb (fE 5) λw=>pb wx λx=>pr (⟨k,w,x,0,0, .zero, .zero, .zero, .zero⟩,fF x)
 else if k=1 then pb oa λn=>pr (⟨k,0, .zero,n,0, .zero, .zero, .zero, .zero⟩,true)
 else if fa k then pb oa λn=>pb kF λb=>pr (⟨k,0, .zero,0,n,b, .zero, .zero, .zero⟩,true)
 else if k=4 then pb oa λn=>pb kF λb=>pb kF λd=>pb l8 λc=>pr (⟨k,0, .zero,0,n,b,d,c, .zero⟩,true)
 else if k=5 then pb oa λn=>pb kF λb=>pb l8 λc=>pr (⟨k,0, .zero,0,n,b, .zero,c, .zero⟩,true)
 else if k=7 then pb nB λv=>pr (⟨k,0, .zero,0,0, .zero, .zero, .zero,v⟩,kJ v)
 else if k=8 then pb (fE 5) λw=>pb nB λv=>pr (⟨k,w, .zero,0,0, .zero, .zero, .zero,v⟩,kJ v)
 else pr (⟨k,0, .zero,0,0, .zero, .zero, .zero, .zero⟩,true)
def dE:Ps (RecT×Bool):=pb (fE 6) λk=>
 if k=0 then pb wx λx=>pr (⟨k,0,x,0, .zero, .zero, .zero⟩,fF x)
 else if k=1 then pb (fE 5) λw=>pb wx λx=>pr (⟨k,w,x,0, .zero, .zero, .zero⟩,fF x)
 else if k=2 then pb (fE 5) λw=>pr (⟨k,w, .zero,0, .zero, .zero, .zero⟩,true)
 else if k=3 then pb oa λn=>pb kF λb=>pr (⟨k,0, .zero,n,b, .zero, .zero⟩,true)
 else if k=4 then pb oa λn=>pb kF λb=>pb l8 λc=>pr (⟨k,0, .zero,n,b,c, .zero⟩,true)
 else if k=5 then pb nB λv=>pr (⟨k,0, .zero,0, .zero, .zero,v⟩,kJ v)
 else pr (⟨k,0, .zero,0, .zero, .zero, .zero⟩,true)
def js(bs:List UInt8):MsgT×Int:=match cY bs with
 |some ((m,true),[])=>(m,0)
 |_=>(.zero,1)
def fO(bs:List UInt8):RecT×Int:=match dE bs with
 |some ((m,true),[])=>(m,0)
 |_=>(.zero,1)
def dy(m:MsgT):List UInt8:=
 if eF m.kind then bn [m.kind,m.whose]++gf m.row
 else if m.kind=1 then bn [m.kind,m.version]
 else if fa m.kind then bn [m.kind,m.epoch]++bn m.ballot.flat
 else if m.kind=4 then bn [m.kind,m.epoch]++bn m.ballot.flat++bn m.had.flat++bn m.change.flat
 else if m.kind=5 then bn [m.kind,m.epoch]++bn m.ballot.flat++bn m.change.flat
 else if m.kind=7 then bn [m.kind]++bn m.view.flat
 else if m.kind=8 then bn [m.kind,m.whose]++bn m.view.flat
 else []
def gy(m:RecT):List UInt8:=
 if m.kind=0 then bn [m.kind]++gf m.row
 else if m.kind=1 then bn [m.kind,m.whose]++gf m.row
 else if m.kind=2 then bn [m.kind,m.whose]
 else if m.kind=3 then bn [m.kind,m.epoch]++bn m.ballot.flat
 else if m.kind=4 then bn [m.kind,m.epoch]++bn m.ballot.flat++bn m.change.flat
 else if m.kind=5 then bn [m.kind]++bn m.view.flat
 else []
theorem tA{v:ViewT}{bs r:List UInt8}(h:nB bs=some (v,r)):Rng v:=λi hi=>by
 have:=(oQ h).1.2.2 i hi;exact⟨this.1,by omega⟩
theorem BG{x:RowT}{bs r:List UInt8}(h:wx bs=some (x,r)):WF x.flat:=(tU h).1.wf
def Nm(n:Int):Prop:=0≤n∧n<9223372036854775808
def OkB(b:BallotT):Prop:=Nm b.round∧0≤b.who∧b.who<5
def OkC(c:ChangeT):Prop:=(0≤c.kind∧c.kind<2)∧(0≤c.who∧c.who<5)∧(0≤c.heir∧c.heir<5)
def SA(v:ViewT):Prop:=Nm v.epoch∧(0≤v.members∧v.members<32)∧∀(i:Nat) (h:i<5),0≤v.heirs[i]∧v.heirs[i]<6
def okM(m:MsgT):Bool:=if eF m.kind then fF m.row else if m.kind=7∨m.kind=8 then kJ m.view else true
theorem OK(i:Nat)(hi:i<5):RowT.zero.heir[i]=0:=by match i,hi with|0,_|1,_|2,_|3,_|4,_=>rfl
theorem LI(k:Nat)(hk:k<4):RowT.zero.cells[k]=CellT.zero:=by match k,hk with|0,_|1,_|2,_|3,_=>rfl
theorem Gc(i:Nat)(hi:i<5):RowT.zero.left[i]=RowT.zero.cells:=by match i,hi with|0,_|1,_|2,_|3,_|4,_=>rfl
theorem tame_rzero:TameR RowT.zero:=⟨⟨by decide,by decide⟩,λk hk=>by rw[LI k hk];exact uS,λi hi=>by rw[OK i hi];decide,λi k hi hk=>by rw[show RowT.zero.left[i][k]=RowT.zero.cells[k]from by rw[Gc i hi],LI k hk];exact uS,λi hi _=>by rw[Gc i hi,Gc 0 (by decide)]⟩
theorem kRow_cases{k:Int}(h: ¬eF k=true)(h2: ¬fa k=true):k≠0∧k≠2∧k≠9∧k≠3∧k≠6:=by
 have n0: ¬(k=0∨k=2∨k=9):=λe=>h (decide_eq_true e)
 have n2: ¬(k=3∨k=6):=λe=>h2 (decide_eq_true e)
 omega
theorem Qr{m:MsgT}{g:Bool}{bs r:List UInt8}(h:cY bs=some ((m,g),r)):bs=dy m++r∧okM m=g∧(0≤m.kind∧m.kind<10)∧(0≤m.whose∧m.whose<5)∧TameR m.row:=by
 obtain⟨k,r1,h1,h2⟩:=bp h;clear h;obtain⟨k1,rfl⟩:=c7 h1;have tz:=tame_rzero;have kz:(0:Int)≤0∧(0:Int)<5:=by omega
 by_cases c0:eF k=true
 · simp only[if_pos c0]at h2
   obtain⟨w,r2,h3,h4⟩:=bp h2;obtain⟨k3,rfl⟩:=c7 h3;obtain⟨x,r3,h5,h6⟩:=bp h4;obtain⟨k5,rfl⟩:=tU h5;obtain⟨e,rfl⟩:=fZ h6;injection e with e1 e2;subst e1;subst e2
   exact⟨by simp[dy,c0,bn],by simp[okM,c0],⟨k1.1,k1.2.1⟩,⟨k3.1,k3.2.1⟩,k5⟩
 simp only[if_neg c0]at h2;have fin: ∀{m:MsgT} {bs':List UInt8},m.kind=k→oc k++bs'=dy m++r→okM m=g→(0≤m.whose∧m.whose<5)→TameR m.row→oc k++bs'=dy m++r∧okM m=g∧(0≤m.kind∧m.kind<10)∧(0≤m.whose∧m.whose<5)∧TameR m.row:=λe a b c d=>⟨a,b,by rw[e];exact⟨k1.1,k1.2.1⟩,c,d⟩
 by_cases c1:k=1
 · simp only[if_pos c1]at h2
   subst c1;obtain⟨n,r2,h3,h4⟩:=bp h2;obtain⟨_,_,rfl⟩:=iE h3;obtain⟨e,rfl⟩:=fZ h4;injection e with e1 e2;subst e1;subst e2
   exact fin rfl (by simp[dy,eF,fa,bn]) (by simp[okM,eF]) kz tz
 simp only[if_neg c1]at h2
 by_cases c2:fa k=true
 · simp only[if_pos c2]at h2
   obtain⟨n,r2,h3,h4⟩:=bp h2;obtain⟨_,_,rfl⟩:=iE h3;obtain⟨b,r3,h5,h6⟩:=bp h4;obtain⟨_,rfl⟩:=jT h5;obtain⟨e,rfl⟩:=fZ h6;injection e with e1 e2;subst e1;subst e2
   have:=of_decide_eq_true c2;exact fin rfl (by simp[dy,c0,c1,c2,bn]) (by simp[okM,c0];omega) kz tz
 simp only[if_neg c2]at h2
 by_cases c3:k=4
 · simp only[if_pos c3]at h2
   subst c3;obtain⟨n,r2,h3,h4⟩:=bp h2;obtain⟨_,_,rfl⟩:=iE h3;obtain⟨b,r3,h5,h6⟩:=bp h4;obtain⟨_,rfl⟩:=jT h5;obtain⟨d,r4,h7,h8⟩:=bp h6;obtain⟨_,rfl⟩:=jT h7;obtain⟨c,r5,h9,h10⟩:=bp h8;obtain⟨_,rfl⟩:=oo h9;obtain⟨e,rfl⟩:=fZ h10;injection e with e1 e2;subst e1;subst e2
   exact fin rfl (by simp[dy,eF,fa,bn]) (by simp[okM,eF]) kz tz
 simp only[if_neg c3]at h2
 by_cases c4:k=5
 · simp only[if_pos c4]at h2
   subst c4;obtain⟨n,r2,h3,h4⟩:=bp h2;obtain⟨_,_,rfl⟩:=iE h3;obtain⟨b,r3,h5,h6⟩:=bp h4;obtain⟨_,rfl⟩:=jT h5;obtain⟨c,r5,h9,h10⟩:=bp h6;obtain⟨_,rfl⟩:=oo h9;obtain⟨e,rfl⟩:=fZ h10;injection e with e1 e2;subst e1;subst e2
   exact fin rfl (by simp[dy,eF,fa,bn]) (by simp[okM,eF]) kz tz
 simp only[if_neg c4]at h2
 by_cases c5:k=7
 · simp only[if_pos c5]at h2
   subst c5;obtain⟨v,r3,h5,h6⟩:=bp h2;obtain⟨_,rfl⟩:=oQ h5;obtain⟨e,rfl⟩:=fZ h6;injection e with e1 e2;subst e1;subst e2
   exact fin rfl (by simp[dy,eF,fa,bn]) (by simp[okM,eF]) kz tz
 simp only[if_neg c5]at h2;have c6:k=8:=by have:=kRow_cases c0 c2;omega
 simp only[if_pos c6]at h2;subst c6;obtain⟨w,r2,h3,h4⟩:=bp h2;obtain⟨k3,rfl⟩:=c7 h3;obtain⟨v,r3,h5,h6⟩:=bp h4;obtain⟨_,rfl⟩:=oQ h5;obtain⟨e,rfl⟩:=fZ h6;injection e with e1 e2;subst e1;subst e2
 exact fin rfl (by simp[dy,eF,fa,bn]) (by simp[okM,eF]) ⟨k3.1,k3.2.1⟩ tz
def DV(m:RecT):Bool:=if m.kind=0∨m.kind=1 then fF m.row else if m.kind=5 then kJ m.view else true
theorem xS{m:RecT}{g:Bool}{bs r:List UInt8}(h:dE bs=some ((m,g),r)):bs=gy m++r∧DV m=g∧(0≤m.kind∧m.kind<6)∧(0≤m.whose∧m.whose<5)∧TameR m.row:=by
 obtain⟨k,r1,h1,h2⟩:=bp h;clear h;obtain⟨k1,rfl⟩:=c7 h1;have tz:=tame_rzero;have kz:(0:Int)≤0∧(0:Int)<5:=by omega
 by_cases c0:k=0
 · simp only[if_pos c0]at h2
   subst c0;obtain⟨x,r3,h5,h6⟩:=bp h2;obtain⟨k5,rfl⟩:=tU h5;obtain⟨e,rfl⟩:=fZ h6;injection e with e1 e2;subst e1;subst e2
   exact⟨by simp[gy,bn],by simp[DV],⟨k1.1,k1.2.1⟩,kz,k5⟩
 simp only[if_neg c0]at h2
 by_cases c1:k=1
 · simp only[if_pos c1]at h2
   subst c1;obtain⟨w,r2,h3,h4⟩:=bp h2;obtain⟨k3,rfl⟩:=c7 h3;obtain⟨x,r3,h5,h6⟩:=bp h4;obtain⟨k5,rfl⟩:=tU h5;obtain⟨e,rfl⟩:=fZ h6;injection e with e1 e2;subst e1;subst e2
   exact⟨by simp[gy,bn],by simp[DV],⟨k1.1,k1.2.1⟩,⟨k3.1,k3.2.1⟩,k5⟩
 simp only[if_neg c1]at h2
 by_cases c2:k=2
 · simp only[if_pos c2]at h2
   subst c2;obtain⟨w,r2,h3,h4⟩:=bp h2;obtain⟨k3,rfl⟩:=c7 h3;obtain⟨e,rfl⟩:=fZ h4;injection e with e1 e2;subst e1;subst e2
   exact⟨by simp[gy,bn],by simp[DV],⟨k1.1,k1.2.1⟩,⟨k3.1,k3.2.1⟩,tz⟩
 simp only[if_neg c2]at h2
 by_cases c3:k=3
 · simp only[if_pos c3]at h2
   subst c3;obtain⟨n,r2,h3,h4⟩:=bp h2;obtain⟨_,_,rfl⟩:=iE h3;obtain⟨b,r3,h5,h6⟩:=bp h4;obtain⟨_,rfl⟩:=jT h5;obtain⟨e,rfl⟩:=fZ h6;injection e with e1 e2;subst e1;subst e2
   exact⟨by simp[gy,bn],by simp[DV],⟨k1.1,k1.2.1⟩,kz,tz⟩
 simp only[if_neg c3]at h2
 by_cases c4:k=4
 · simp only[if_pos c4]at h2
   subst c4;obtain⟨n,r2,h3,h4⟩:=bp h2;obtain⟨_,_,rfl⟩:=iE h3;obtain⟨b,r3,h5,h6⟩:=bp h4;obtain⟨_,rfl⟩:=jT h5;obtain⟨c,r5,h9,h10⟩:=bp h6;obtain⟨_,rfl⟩:=oo h9;obtain⟨e,rfl⟩:=fZ h10;injection e with e1 e2;subst e1;subst e2
   exact⟨by simp[gy,bn],by simp[DV],⟨k1.1,k1.2.1⟩,kz,tz⟩
 simp only[if_neg c4]at h2;have c5:k=5:=by omega
 simp only[if_pos c5]at h2;subst c5;obtain⟨v,r3,h5,h6⟩:=bp h2;obtain⟨_,rfl⟩:=oQ h5;obtain⟨e,rfl⟩:=fZ h6;injection e with e1 e2;subst e1;subst e2
 exact⟨by simp[gy,bn],by simp[DV],⟨k1.1,k1.2.1⟩,kz,tz⟩
theorem Rng.zeros{v:ViewT}(h:v.heirs= #v[0,0,0,0,0]):Rng v:=λi hi=>by
 have:v.heirs[i]=0:=by
  rw[show v.heirs[i]=(#v[0,0,0,0,0]:Vector Int 5)[i]from by rw[h]]
  match i,hi with|0,_|1,_|2,_|3,_|4,_=>rfl
 omega
theorem Rng.zero:Rng ViewT.zero:=Rng.zeros rfl
theorem Rng.first:Rng firstV:=Rng.zeros rfl
def xN(x:RepT):MsgT:= {MsgT.zero with kind:=0,whose:=x.id,row:=x.own}
def ug(id:Int)(x:RowT):MsgT:= {MsgT.zero with kind:=2,whose:=id,row:=x}
def Cw(k w:Int):Bool:=decide (k.fdiv (2^min w.toNat IntKind.i64.bits)%2=0)
def qD(x:RepT):List SaidT:=((iw x.id).filter λw=>Cw x.kept w).map λw=>⟨w,xN x⟩
end Api
namespace Api
open Go Leg Codec
def gd(x:RepT)(o:OpT):RowT×Int:=
 if o.kind=0 then oE x.own o.key o.n else if o.kind=1 then oF x.own o.key o.n else if o.kind=2 then(if o.to'≠x.id then ln x.own o.key o.n o.to' else(.zero,5))else(.zero,5)
def iD(x:RepT)(o:OpT):RowT×Int×Int:=
 if jr x.view x.id=false then(.zero,0,9)else if na o.key=false then(.zero,0,5)else if o.kind=3 then(.zero,eN x.book o.key,0)else if x.busy then(.zero,0,8)
 else if(gd x o).2≠0 then(.zero,0,(gd x o).2)else if o.kind≠0∧nX x.book x.id o.key<o.n then(.zero,0,7)else((gd x o).1,0,0)
def gL(y:RowT):RecT:= {RecT.zero with kind:=0,row:=y}
end Api
namespace Api
open Go Leg Codec
end Api
namespace Api
open Go Leg Codec
end Api
namespace Api
open Go Leg Codec
end Api
namespace Api
open Go Leg Codec
end Api
end

section
namespace Leg
open Go Go.ChangeShapes Go.WideShapes Codec Api
section
variable {P:Program} {W:World} {H:Type} {enc:TypeId×Value→H} {B0:Nat} {spare:Nat→Bool} {held:Bool}
theorem FC{t:TypeId}{fuel:Nat}{cs:List Value}{x:DataW H×List MemPlace}(ht:P.underlying t=some .bool)(h:DataW.trod enc P W B0 spare held fuel t cs=some x): ∃b,cs=[.bool b]:=by
 cases fuel with
 |zero=>simp[DataW.trod]at h
 |succ n=>
  unfold DataW.trod at h;rw[ht]at h;split at h<;>simp_all
theorem Fits.append{a b:List (Option IntKind)}{x y:List Lit}(h:Fits a x)(g:Fits b y):Fits (a++b) (x++y):=
 ⟨by rw[cJ,cJ,h.1,g.1],λl hl=>(bP.1 hl).elim (h.2 l) (g.2 l)⟩
theorem AQ{d:Nat}(ih: ∀t ks,lQ P d t=some ks→∀fuel cs x,DataW.trod enc P W B0 spare held fuel t cs=some x→∃ls,Fits ks ls∧cs=ls.map iN)(cs:List Value)(n:Nat):
 ∀(fs:List Field) (o:Nat) (ks:List (Option IntKind)),ra P (lQ P d) fs o=some ks→cs.length=o+ks.length→
  (∀f∈fs,∃y,DataW.trod enc P W B0 spare held n f.type ((cs.drop f.offset).take (P.cellsOf f.type))=some y)→∃ls,Fits ks ls∧cs.drop o=ls.map iN
 | [],o,ks,h,hl,_=>by
  simp only[ra,Option.some.injEq]at h;subst h;exact⟨[],⟨rfl,λ_ h=>by cases h⟩,by rw[ct (by simpa using cV hl)];rfl⟩
 |f::fs,o,ks,h,hl,hf=>by
  simp only[ra]at h;split at h
  · rename_i c hc
    split at h
    · rename_i hh
      obtain⟨m,hm,rfl⟩:=Option.map_eq_some_iff.1 h;rw[ac]at hl;obtain⟨y,hy⟩:=hf f (by simp);rw[hh.1,hh.2]at hy;obtain⟨l1,f1,e1⟩:=ih f.type c hc n _ _ hy;obtain⟨l2,f2,e2⟩:=AQ ih cs n fs (o+c.length) m hm (by omega) (λg hg=>hf g (by simp[hg]));refine⟨l1++l2,f1.append f2,?_⟩;rw[cJ,←e1,←e2,←jg];exact(lL _ _).symm
    · cases h
  · cases h
theorem flat_in: ∀(d:Nat) (t:TypeId) (ks:List (Option IntKind)),lQ P d t=some ks→∀fuel cs x,DataW.trod enc P W B0 spare held fuel t cs=some x→∃ls,Fits ks ls∧cs=ls.map iN
 |0,_,_,h=>by simp[lQ]at h
 |d+1,t,ks,h=>λfuel cs x hx=>by
  have ih:=flat_in d;simp only[lQ]at h;split at h
  · rename_i q hu
    simp only[Option.some.injEq]at h;subst h;obtain⟨n,rfl,_,hw⟩:=DataW.trod_int hu hx;exact⟨[.int q n],⟨rfl,by simpa using hw⟩,rfl⟩
  · rename_i hu
    simp only[Option.some.injEq]at h;subst h;obtain⟨b,rfl⟩:=FC hu hx;exact⟨[.bool b],⟨rfl,by simp[Lit.wf]⟩,rfl⟩
  · rename_i n e hu
    split at h
    · rename_i c hc
      split at h
      · rename_i hh
        simp only[Option.some.injEq]at h;subst h;obtain⟨xs,m,_,_,hl,hxl,hxi⟩:=DataW.trod_array hu hx;rw[hh.2]at hl
        have each: ∀k,k≤n→∃ls,Fits (List.replicate k c).flatten ls∧cs.take (k*c.length)=ls.map iN:=by
         intro k
         induction k with
         |zero=>intro _;exact⟨[],⟨rfl,λ_ h=>by cases h⟩,by simp⟩
         |succ k ihk=>
          intro hk;obtain⟨l1,f1,e1⟩:=ihk (by omega);have hy:=hxi k (by omega);rw[List.getElem?_eq_getElem (by omega),hh.1]at hy;obtain⟨l2,f2,e2⟩:=ih e c hc m _ _ hy;refine⟨l1++l2,?_,?_⟩
          · rw[List.replicate_succ',List.flatten_append]
            simpa using f1.append f2
          · rw[cJ,←e1,←e2,fC,Nat.one_mul,List.take_add]
        obtain⟨ls,f,e⟩:=each n (aH _);rw[az (by omega)]at e;exact⟨ls,f,e⟩
      · cases h
    · cases h
  · rename_i fs hu
    split at h
    · rename_i m' hc
      split at h
      · rename_i hh
        simp only[Option.some.injEq]at h;subst h;obtain⟨xs,m,_,_,hl,hxl,hxi⟩:=DataW.trod_struct hu hx
        have:=AQ (λt ks h=>ih t ks h) cs m fs.toList 0 _ hc (by rw[hl,hh.1,bi]) (λf hf=>by
         obtain⟨i,hi⟩:=List.getElem?_of_mem hf;have hi':fs[i]?=some f:=by simpa using hi
         have:=hxi i f hi';have hlt:=(Array.getElem?_eq_some_iff.1 hi').1;rw[List.getElem?_eq_getElem (by omega)]at this
         exact⟨_,this⟩)
        simpa using this
      · cases h
    · cases h
  · cases h
theorem fits_ints{c:Nat}{ls:List Lit}(h:Fits (List.replicate c (some .i64)) ls): ∃l,ls=pa l∧l.length=c∧WF l:=by
 obtain⟨h1,h2⟩:=h
 have e: ∀x∈ls,∃n,x= .int .i64 n:=λx hx=>by
  have:AH x∈ls.map AH:=List.mem_map_of_mem hx;rw[h1,List.map_replicate]at this;have:=List.eq_of_mem_replicate this;cases x<;>simp only[AH,Option.some.injEq,reduceCtorEq]at this;subst this;exact⟨_,rfl⟩
 refine⟨ls.map λx=>match x with| .int _ n=>n|_=>0,?_,?_,?_⟩
 · rw[pa,Sv]
   conv=>lhs;rw[←List.map_id ls]
   refine ef λx hx=>?_
   obtain⟨n,rfl⟩:=e x hx;rfl
 · have:=congrArg List.length h1
   simpa using this
 · intro n hn
   obtain⟨x,hx,rfl⟩:=eH.1 hn;obtain⟨n,rfl⟩:=e x hx;exact h2 _ hx
theorem litI_cells(l:List Int):(pa l).map iN=ints l:=by simp[pa,ints,iN]
theorem zE{a:Addr}{v:Value}(h:W.cell? a=some v): ∃b o cs T z,a=⟨b,o,none⟩∧W.heap[b]?=some (.cells (List.toArray cs) T z)∧cs[o]?=some v:=by
 obtain⟨b,o,s⟩:=a;simp only[World.cell?]at h;split at h
 · rename_i cs T z hb
   cases s with
   |some s=>simp at h
   |none=>exact⟨b,o,cs.toList,T,z,rfl,by simpa using hb,by simpa using h⟩
 · cases h
theorem La{t e:TypeId}{fuel size:Nat}{α:Type}{E:List Value→α→Hl→Prop}{cs:List Value}{x:DataW H×List MemPlace}(ht:P.underlying t=some (.slice e))(hc:P.cellsOf e=size)(hs:0<size)
 (hE: ∀fuel cs x,DataW.trod enc P W B0 spare held fuel e cs=some x→∃a,E cs a (hp W)) (h:DataW.trod enc P W B0 spare held fuel t cs=some x): ∃u l,cs=[u]∧IsL size E u l (hp W):=by
 classical
 rcases Deep.open_slice ht h with⟨rfl,_⟩| ⟨a,len,cap,m,n,D,Pl,rfl,_,hl,hm,hmm,_,hx⟩
 · exact⟨_,[],rfl, .inl ⟨rfl,rfl⟩⟩
 · have hlm:len≤m:=by rw[hmm];split<;>omega
   by_cases h0:len=0
   · subst h0
     exact⟨_,[],rfl, .inr (.inl ⟨a,cap,rfl,rfl⟩)⟩
   · have first: ∃v,W.cell? a=some v:=by
      obtain⟨cs',h1,_⟩:=hx 0 (by omega);obtain⟨_,h2,h3⟩:=World.cells?_some h1;have:=h3 0 (by omega);rw[g8,show(a.add 0).add 0=a from rfl,List.getElem?_eq_getElem (by omega)]at this;exact⟨_,this⟩
     obtain⟨v,hv⟩:=first;obtain⟨b,o,bs,T,z,rfl,hb,_⟩:=zE hv
     have each: ∀i,i<len→∃us,us.length=size∧(bs.drop (o+i*size)).take size=us∧∃x,E us x (hp W):=λi hi=>by
      obtain⟨cs',h1,h2⟩:=hx i (by omega);obtain⟨_,h3,h4⟩:=World.cells?_some h1;rw[hc]at h3 h4;refine⟨cs',h3,?_,hE _ _ _ h2⟩;apply List.ext_getElem?;intro k;rw[List.getElem?_take];split
      · rename_i hk
        have:=h4 k hk;rw[pV,pV]at this;simp only[World.cell?,hb,Option.isSome_none,Bool.false_eq_true,if_false]at this;rw[List.getElem?_drop]
        simpa using this
      · rw[List.getElem?_eq_none (by omega)]
     obtain⟨f,hf⟩: ∃f:Nat→α,∀i,i<len→E ((bs.drop (o+i*size)).take size) (f i) (hp W):=by
      have each': ∀i,i<len→∃x,E ((bs.drop (o+i*size)).take size) x (hp W):=λi hi=>by
       obtain⟨us,_,e2,q⟩:=each i hi;rw[e2];exact q
      obtain⟨x,_⟩:=each' 0 (by omega)
      haveI:Inhabited α:=⟨x⟩
      exact Deep.choose_lt each'
     refine⟨_,(List.range len).map f,rfl, .inr (.inr ⟨b,o,cap,bs,T,z,by simp,by simpa using hl,by simpa [maxLen]using hm,hb,λj hj=>?_⟩)⟩;have hj':j<len:=by simpa using hj
     obtain⟨us,e1,e2,_⟩:=each j hj';exact⟨us,e1,e2,by rw[←e2];simpa using hf j hj'⟩
theorem listV_in{t e:TypeId}{size:Nat}{α:Type}{E:List Value→α→Hl→Prop}{v:Value}{d:DataW H}{ps:List MemPlace}(ht:P.underlying t=some (.slice e))(hc:P.cellsOf e=size)(hs:0<size)(hv:Value.okWide P W .any B0 t v)
 (hE: ∀fuel cs x,DataW.trod enc P W 0 spare held fuel e cs=some x→∃a,E cs a (hp W)) (hd:DataW.Trod enc P W 0 spare held t v d ps): ∃l,IsL size E v l (hp W):=by
 obtain⟨fuel,hf⟩:=hd;obtain⟨u,l,h1,h2⟩:=La ht hc hs hE hf;obtain⟨a,len,cap,rfl⟩:=WideShapes.okWide_slice ht hv;simp[Value.cells]at h1;subst h1;exact⟨l,h2⟩
end
section
variable {P:Program} {w0:World} {F:Hl} {n:Nat} {ops:Array Oper} {Q:QQ} {D:List Deferred} {L:List (Nat×Value)} {H:List HP} {o:Oper} {l:List Oper} {d:Nat} {S:World→Prop}
def y8(P:Program)(t:TypeId)(rv:Value)(nm:String)(f:FuncId):Prop:=∀w,(method (P.types.size+Made.depth) t rv nm).run P w= .ok (f,rv) w
theorem TL.callI{recv:Operand}{nm:String}{t:TypeId}{rv:Value}{f:FuncId}{xs:Array Operand}{ts:Array TypeId}{vs:List Value}{R:Hl→Prop}{A B:List HP}{p:Value→List HP→Prop}(hw:Want n D ops o L)
 (ho:o.op= .call {callee:= .invoke recv nm,args:=xs,argTypes:=ts}) (hd:o.dst=some d) (hn:Nat.blt d n=true) (hr:cL L recv=some (.iface t rv)) (hm:y8 P t rv nm f) (hf:Named P f) (hx:Cb L xs.toList=some vs)
 (sp:Does P f (rv::vs).toArray R A (dA p)) (hp: ∀h,bH H h→bH (A++B) h) (hR: ∀g,Dj g F→bH B g→R (jn g F))
 (hret: ∀v H',p v H'→TL P w0 F n ops Q l D ((d,v)::L) (H'++B)):TL P w0 F n ops Q (o::l) D L H:=
 TL.callw hw (λa w g=>by
  have e:xs.map a.eval=vs.toArray:=g.evals hx;have e2:a.eval recv= .iface t rv:=g.eval hr;have e3:=hm w
  simp[execOp,ho,resolve,invoke,callMethod,e,e2,e3,m7 hf])
  sp hp hR (λv H' q a g w s m=>by rw[hd];exact hret v H' q _ w (g.put (lb hn) v) s m) (λ_ _ h=>h.elim) (λ_ h=>h)
theorem TE.retCTT{H':List HP}{fn:Func}{post:Ending→List HP→Prop}{t t' t2 ty e m b:Nat}{cs:List Value}{z:Nat×Nat}{dt:TypeDesc}{v' v2:Value}(hr:fn.results=#[.cell t ty, .tmp t', .tmp t2])(he:lk L t=some (.pointer (some ⟨b,0,none⟩)))(e':lk L t'=some v')(e2:lk L t2=some v2)
 (hu:P.underlying ty=some dt) (hp:eB dt=false) (hm:(P.info? ty).map (·.size)=some m) (hR:Rd (Sat H F) b (.cells cs.toArray e z)) (hl:cs.length=m) (hk: ∀h,bH H h→bH H' h)
 (h:post (.returned (.tuple #[.agg cs.toArray,v',v2])) H'):TE w0 F n (bodyPost P fn (kc post w0 F)) .ret [] L H:=λa w f s q=>by
 have h1:a.tmps.getD t undef= .pointer (some ⟨b,0,none⟩):=f.eval (x:= .tmp t) he;have h2:a.tmps.getD t' undef=v':=f.eval (x:= .tmp t') e';have h4:a.tmps.getD t2 undef=v2:=f.eval (x:= .tmp t2) e2
 have h3:(results fn a.tmps).run P w= .ok (.tuple #[.agg cs.toArray,v',v2]) w:=by
  have h1':a.tmps[t]?.getD undef= .pointer (some ⟨b,0,none⟩):=by simpa using h1
  have h2':a.tmps[t']?.getD undef=v':=by simpa using h2
  have h4':a.tmps[t2]?.getD undef=v2:=by simpa using h4
  simp[results,hr,h1',h2',h4',asAddr,run_loadVar_row w b e ty cs.toArray z dt (hR w q) hu (by cases dt<;>simp[eB]at hp ⊢) (by simp[hm,hl])]
 exact bodyPost_ret h3 f.2.1 ⟨s,H',q.mono hk,h⟩
theorem PV.ifaceNotNil{t t' u:TypeId}{x:Operand}{v:Value}{ms:Array (String×TypeId)}(ho:o.op= .binOp .neq t x (.const .nilIface) t')(ht:P.underlying t=some (.interface ms))(hx:cL L x=some (.iface u v)):PV P n D L S o (.bool true):=
 gl ho hx rfl λw=>by
  have:=sh (P:=P) (w:=w) 9999 (u:=u) (v:=v) ht;simp[eqGuard,binOp,Op.equal,Op.maxDepth,this]
end
theorem rO(i:Nat){v:Value}{l:List Int}{e:Nat}{B:List HP}{F:Hl}(hi:Nat.blt i B.length=true)(hH:B.getD i (λ_=>True)=own v l.length (Api.ints l) e 1): ∀g,Dj g F→bH B g→IsI .i64 v l (jn g F):=λg _ s=>by
 obtain⟨h1,h2,d',rfl,a,_⟩:=eU i (lb hi) s;rw[hH]at a;rcases a with⟨_,⟨h0,hn,_⟩| ⟨g,cap,cur,hv,hh,h3,h4,h5,h6⟩⟩
 · exact .inl ⟨h0,List.eq_nil_of_length_eq_zero hn⟩
 · refine .inr ⟨g,0,cap,cur.toList,e,(0,0),hv,h3,by simp only[maxLen]at h4;omega,iA (iA (by rw[hh];simp[sg])),λj hj=>?_⟩
   rw[gi]at h6;have e1:(cur.toList.take l.length)[j]?=some (.int .i64 (l.getD j 0)):=by rw[h6];exact Api.ints_get l j hj
   rw[List.getElem?_take,if_pos hj]at e1
   simpa using e1
variable {P:Program} {w0:World} {F:Hl} {n:Nat} {ops:Array Oper} {Q:QQ} {D:List Deferred} {L:List (Nat×Value)} {H:List HP} {d:Nat} {o:Oper} {l:List Oper}
theorem RU{fn:Func}{post:Ending→List HP→Prop}{t t' t2 ty e m b:Nat}{cs:List Value}{dt:TypeDesc}{v' v2:Value}(k:Nat)(is:List Nat)(hu:P.underlying ty=some dt)(hm:(P.info? ty).map (·.size)=some m)(hl:cs.length=m)(h:post (.returned (.tuple #[.agg cs.toArray,v',v2])) ((DD H is).take is.length))(hr:fn.results=#[.cell t ty, .tmp t', .tmp t2]:=by exact rfl)(he:lk L t=some (.pointer (some ⟨b,0,none⟩)):=by exact rfl)(e':lk L t'=some v':=by exact rfl)(e2:lk L t2=some v2:=by exact rfl)(hp:eB dt=false:=by exact rfl)(hk:Nat.blt k H.length=true:=by exact rfl)(hH:H.getD k (λ_=>True)=ak b cs e:=by exact rfl)(hs:MC H.length is=true:=by exact rfl):TE w0 F n (bodyPost P fn (kc post w0 F)) .ret [] L H:=TE.retCTT hr he e' e2 hu hp hm (fj k hk hH) hl (λ_ s=>an is hs s) h
end Leg
end

section
namespace Wal
open Go Leg Codec Api Dsk
theorem vl(i:Nat){us:List Value}{ls:List (List UInt8)}{e k:Nat}{B:List HP}{F:Hl}(hk:k<ls.length)(hi:Nat.blt i B.length=true)(hH:B.getD i (λ_=>True)=eJ us ls e): ∀g,Dj g F→bH B g→IsB (us.getD k undef) ls[k] (jn g F):=λg d s=>by
 obtain⟨h1,h2,d',rfl,a,_⟩:=eU i (lb hi) s;rw[hH]at a;obtain⟨hl,a⟩:=a;obtain⟨u,e1,k1,k2,dk,rfl,a3⟩:=yT us ls e _ hl a k hk;rw[List.getD_eq_getElem?_getD,e1];exact Dc a3 λb o e=>iA (iA (iA e))
theorem In.read{s ws:fA}(h1:In s)(h2:In ws)(at':Int)(h: ¬(0≤at'∧at'<2048)): ∀k,k≤ws.length→jb s ws at' k=zs
 |0,_=>by
  show fu s at'=zs
  induction s with
  |nil=>rfl
  |cons p s ih=>
   obtain⟨a,b⟩:=p;simp only[fu];have hh:=h1 (a,b) (by simp);rw[if_neg (λe=>h (by simp only at hh;omega))];exact ih λq hq=>h1 q (by simp[hq])
 |k+1,hk=>by
  simp only[jb];rw[if_neg,In.read h1 h2 at' h k (by omega)];intro e;rw[uP (by omega)]at e;have hh:=h2 ws[k] (df _);exact h (by omega)
theorem DS.In.read{D:DS}(h:Wal.DS.In D){at':Int}(h2: ¬(0≤at'∧at'<2048)):D.read at'=zs:=Wal.In.read h.1 h.2 at' h2 _ (aH _)
theorem II(number place:Int):e9 zs number place=none:=nJ (by decide)
theorem ym{rd:Int→il}{number at' all:Int}: ∀(m:Nat) {b:List UInt8},ly rd number at' all m=some b→∀k,k<m→∃x,e9 (rd (at'+k)) number k=some (x,all)
 |0,_,_,k,hk=>by omega
 |m+1,b,h,k,hk=>by
  simp only[ly]at h;split at h
  · cases h
  · rename_i b' hb
    split at h
    · cases h
    · rename_i x same hx
      split at h
      · rename_i hs
        by_cases e:k=m
        · subst e;exact⟨x,by rw[hx,hs]⟩
        · exact ym m hb k (by omega)
      · cases h
theorem kj{rd:Int→il}{number at' all:Int}{b:List UInt8}(hl:(rd at').length=64)(h:fH rd number at'=some (b,all)):0<all∧all≤255∧∀k:Nat,(k:Int)<all→∃x,e9 (rd (at'+k)) number k=some (x,all):=by
 unfold fH at h;split at h
 · cases h
 · rename_i x al hp
   obtain⟨f1,f2,_⟩:=pE hl hp;obtain⟨c,hc,e⟩:=Option.map_eq_some_iff.1 h;injection e with e1 e2
   subst e1;subst e2;exact⟨f1,f2,λk hk=>ym _ hc k (by omega)⟩
theorem py{D:DS}(hI:Wal.DS.In D)(hD:D.Ok){number at' all:Int}{b:List UInt8}(h0:0≤at')(h:fH D.read number at'=some (b,all)):at'+all≤2048:=by
 obtain⟨f1,f2,f3⟩:=kj (mG hD _) h;obtain⟨x,hx⟩:=f3 (all-1).toNat (by omega)
 by_cases q:at'+all≤2048
 · exact q
 · rw[DS.In.read hI (by omega),II]at hx;cases hx
theorem rF{rd:Int→il}{f:Nat}{cnt used:Int}(h:fH rd (cnt+1) used=none):fX rd f cnt used=([],used):=by
 cases f with
 |zero=>rfl
 |succ f=>simp only[fX,h]
theorem BC{rd:Int→il}{f:Nat}{cnt used all:Int}{b:List UInt8}(h:fH rd (cnt+1) used=some (b,all)):fX rd (f+1) cnt used=(b::(fX rd f (cnt+1) (used+all)).1,(fX rd f (cnt+1) (used+all)).2):=by simp only[fX,h]
def Scan(D:DS)(f:Nat)(rs:List (List UInt8))(used:Int):Prop:=
 fX D.read iG 0 0=(rs++(fX D.read f rs.length used).1,(fX D.read f rs.length used).2)∧0≤used∧used≤2048∧2049≤(f:Int)+used∧(rs.length:Int)≤used
theorem Scan.start(D:DS):Scan D iG [] 0:=by
 refine⟨?_,by omega,by omega,by rw[q9];omega,by simp⟩;have e:((([]:List (List UInt8)).length:Nat):Int)=0:=rfl;rw[bG,e]
theorem Scan.next{D:DS}(hI:Wal.DS.In D)(hD:D.Ok){f:Nat}{rs:List (List UInt8)}{used all:Int}{b:List UInt8}(h:Scan D f rs used)(h2:fH D.read ((rs.length:Int)+1) used=some (b,all)): ∃f',f=f'+1∧Scan D f' (rs++[b]) (used+all):=by
 obtain⟨h1,h0,h3,h4,h5⟩:=h;have hr:=py hI hD h0 h2;have hf:=(kj (mG hD _) h2).1;obtain⟨f',rfl⟩: ∃f',f=f'+1:=⟨f-1,by omega⟩;refine⟨f',rfl,?_,by omega,by omega,by omega,by simp;omega⟩;rw[h1,BC h2];simp
theorem Scan.stop{D:DS}{f:Nat}{rs:List (List UInt8)}{used:Int}(h:Scan D f rs used)(h2:fH D.read ((rs.length:Int)+1) used=none):fX D.read iG 0 0=(rs,used):=by
 rw[h.1,rF h2];simp
theorem CM{D:DS}{at':Int}(h:2048≤at'):gF (2048-at').toNat at' D=(0,D):=by rw[show(2048-at').toNat=0 by omega];rfl
theorem HO{D:DS}{at':Int}(h:at'<2048)(h2:D.read at'=zs):gF (2048-at').toNat at' D=gF (2048- (at'+1)).toNat (at'+1) D:=by
 rw[show(2048-at').toNat=(2048- (at'+1)).toNat+1 by omega,gF,if_pos h2]
theorem Me{D:DS}{at':Int}(h:at'<2048)(h2:D.read at'≠zs)(h3:(D.write at' []).1=0):gF (2048-at').toNat at' D=gF (2048- (at'+1)).toNat (at'+1) (D.write at' []).2:=by
 rw[show(2048-at').toNat=(2048- (at'+1)).toNat+1 by omega,gF,if_neg h2,if_pos h3]
theorem HQ{D:DS}{at':Int}(h:at'<2048)(h2:D.read at'≠zs)(h3:(D.write at' []).1≠0):gF (2048-at').toNat at' D=D.write at' []:=by
 rw[show(2048-at').toNat=(2048- (at'+1)).toNat+1 by omega,gF,if_neg h2,if_neg h3]
theorem yd{D D':DS}{rs:List (List UInt8)}{used e:Int}(h:fX D.read iG 0 0=(rs,used))(h2:gF (2048-used).toNat used D=(e,D'))(h3:e≠0):bI D=⟨e,[],0,D'⟩:=by
 simp only[bI,h,h2];rw[if_pos h3]
theorem FZ{D D':DS}{rs:List (List UInt8)}{used:Int}(h:fX D.read iG 0 0=(rs,used))(h2:gF (2048-used).toNat used D=(0,D'))(h3:D'.sync.1≠0):bI D=⟨D'.sync.1,[],0,D'.sync.2⟩:=by
 simp only[bI,h,h2,ne_eq,not_true_eq_false,if_false];rw[if_pos h3]
theorem BW{D D':DS}{rs:List (List UInt8)}{used:Int}(h:fX D.read iG 0 0=(rs,used))(h2:gF (2048-used).toNat used D=(0,D'))(h3:D'.sync.1=0):bI D=⟨0,rs,used,D'.sync.2⟩:=by
 simp only[bI,h,h2,ne_eq,not_true_eq_false,if_false];rw[if_neg (by simp[h3])]
def fp:List il→Int→DS→Int×DS
 | [],_,D=>(0,D)
 |s::ss,at',D=>if(D.write at' s).1=0 then fp ss (at'+1) (D.write at' s).2 else D.write at' s
structure PutR where
 err:Int
 cnt:Nat
 used:Int
 D:DS
def lu(D:DS)(cnt:Nat)(used:Int)(bs:List UInt8):PutR:=
 if 3000<bs.length then⟨2,cnt,used,D⟩
 else if(bc bs.length:Int)>2048-used then⟨3,cnt,used,D⟩
 else
  let w:=fp (bl ((cnt+1:Nat):Int) bs) used D
  if w.1≠0 then⟨w.1,cnt,used,w.2⟩else if w.2.sync.1≠0 then⟨w.2.sync.1,cnt,used,w.2.sync.2⟩else⟨0,cnt+1,used+bc bs.length,w.2.sync.2⟩
theorem CG{ss:List il}{at':Int}{D:DS}{k:Nat}(hk:k<ss.length)(h:(D.write (at'+k) ss[k]).1=0):fp (ss.drop k) (at'+k) D=fp (ss.drop (k+1)) (at'+(k+1:Nat)) (D.write (at'+k) ss[k]).2:=by
 rw[dK hk,fp,if_pos h];congr 1;omega
theorem CH{ss:List il}{at':Int}{D:DS}{k:Nat}(hk:k<ss.length)(h:(D.write (at'+k) ss[k]).1≠0):fp (ss.drop k) (at'+k) D=D.write (at'+k) ss[k]:=by
 rw[dK hk,fp,if_neg h]
section
variable {D D':DS} {cnt:Nat} {used:Int} {bs:List UInt8}
theorem Kw(h:3000<bs.length):lu D cnt used bs=⟨2,cnt,used,D⟩:=by rw[lu,if_pos h]
theorem DP(h: ¬3000<bs.length)(h2:(bc bs.length:Int)>2048-used):lu D cnt used bs=⟨3,cnt,used,D⟩:=by rw[lu,if_neg h,if_pos h2]
theorem Aq{e:Int}(h: ¬3000<bs.length)(h2: ¬(bc bs.length:Int)>2048-used)(h3:fp (bl ((cnt+1:Nat):Int) bs) used D=(e,D'))(h4:e≠0):lu D cnt used bs=⟨e,cnt,used,D'⟩:=by
 rw[lu,if_neg h,if_neg h2];simp only[h3];rw[if_pos h4]
theorem IB(h: ¬3000<bs.length)(h2: ¬(bc bs.length:Int)>2048-used)(h3:fp (bl ((cnt+1:Nat):Int) bs) used D=(0,D'))(h4:D'.sync.1≠0):lu D cnt used bs=⟨D'.sync.1,cnt,used,D'.sync.2⟩:=by
 rw[lu,if_neg h,if_neg h2];simp only[h3,ne_eq,not_true_eq_false,if_false];rw[if_pos h4]
theorem put_ok(h: ¬3000<bs.length)(h2: ¬(bc bs.length:Int)>2048-used)(h3:fp (bl ((cnt+1:Nat):Int) bs) used D=(0,D'))(h4:D'.sync.1=0):lu D cnt used bs=⟨0,cnt+1,used+bc bs.length,D'.sync.2⟩:=by
 rw[lu,if_neg h,if_neg h2];simp only[h3,ne_eq,not_true_eq_false,if_false];rw[if_neg (by simp[h4])]
end
end Wal
end

section
namespace Go.Proofs.YtfocodjhmkokpaaGreatDoor
open Go Leg Codec Api Dsk Wal
abbrev Hs(lg d:Nat)(cnt used:Int):HP:=ak lg [.pointer (some ⟨d,0,none⟩), .int .i64 cnt, .int .i64 used] 186
abbrev Q8(v:Value)(ls:List (List UInt8)):HP:=mT 53 5 v ls
theorem Dr(d:Nat)(D:DS)(number at':Int)(hD:D.Ok)(hb:D.ws.length≤1000000000)(ha:0≤at'∧at'≤1000000):
 DT 103 #[(.pointer (some ⟨d,0,none⟩)),(.int .i64 (number)),(.int .i64 (at'))] T0 [dk d (D)] (dA (λv H=>(fH D.read number at'=none∧v= .tuple #[.slice none 0 0, .int .i64 0, .bool false]∧H=[dk d D])∨∃b all u,fH D.read number at'=some (b,all)∧v= .tuple #[u, .int .i64 all, .bool true]∧H=[hX u b 5,dk d D])):=by
 refine BD 56 Tryz.func103 rfl rfl rfl λw0 F hF=>sr λ_ J1=>P3 ?_
 refine nx J1 (sr λ_ J2=>P2 ?_);refine CR KY (Ci d (D) at' hD hb) ID λvR HR hR=>?_
 obtain⟨hv,rfl⟩:=hR;subst hv;refine PS ?_;refine CR NK (ya ((D).read at') number 0 (mG hD _)) ID λvR HR hR=>?_
 rcases hR with⟨hp,rfl,rfl⟩| ⟨b,all,u,hp,rfl,rfl⟩
 refine P4 ?_;refine P3 ?_;refine nx J2 (aa λ_ J3=>sr λ_ J4=>PS ?_);refine PS ?_;refine nx J4 (CY (sr λ_ J5=>P3 ?_));exact nx J5 (aj (ag (WK [0] (n6 rfl rfl rfl rfl (.inl ⟨sa hp,rfl,rfl⟩)))));refine TL.subLen 0 rfl rfl (λhul hu=>?_);have hpf:=pE (mG hD _) hp;refine P4 ?_;refine P3 ?_;refine nx J2 (aa λ_ J6=>sr λ_ J7=>PS ?_);refine PS ?_;refine nx J7 (CN (qx J6 (aa λ_ J8=>sr λ_ J9=>PS ?_)));refine nx J9 (av ?_)
 refine bz (α:=(Nat)×(List UInt8)×(Value)) (λ⟨k,c,w⟩=>1≤k∧k≤all.toNat∧ly D.read number at' all k=some c∧c.length≤k*52∧w.oneCell'=true) (λ⟨k,c,w⟩=>[(0,(.pointer (some ⟨d,0,none⟩))),(1,(.int .i64 (number))),(2,(.int .i64 (at'))),(9,w),(10,(.int .i64 (all))),(12,(.int .i64 (((k:Nat):Int))))]) (λ⟨k,c,w⟩=>[hX w (c) 5,dk d (D)]) (λ⟨k,c,w⟩=>all.toNat-k) (1,b,u)
  ⟨aH _,by omega,I1 hp,by omega,hu⟩ SB
  (λ_ s=>s) (λ⟨k,c,w⟩ hinv=>?_)
 obtain⟨hk1,hk2,hk3,hk4,hw⟩:=hinv;refine aa λ_ J10=>sr λ_ J11=>P3 ?_
 refine aq ?_ ?_<;>intro h29;refine nx J11 (CY (qx J10 (aa λ_ J12=>av (sr λ_ J13=>P3 ?_))));refine AD ?_;refine CR KY (Ci d (D) (at'+((k:Nat):Int)) hD hb) (SM [1]) λvR HR hR=>?_
 obtain⟨hv,rfl⟩:=hR;subst hv;refine P2 ?_;refine CR NK (ya ((D).read (at'+((k:Nat):Int))) number ((k:Nat):Int) (mG hD _)) ID λvR HR hR=>?_
 rcases hR with⟨hp2,rfl,rfl⟩| ⟨b2,all2,u2,hp2,rfl,rfl⟩
 refine P4 ?_;refine P3 ?_;refine nx J13 (aa λ_ J14=>sr λ_ J15=>PS ?_);refine PS ?_;refine PS ?_
 iterate 3 refine UT ?_
 refine PS ?_;refine nx J15 (CY (sr λ_ J16=>P3 ?_));refine nx J16 (aj (ag (aK (ag (ag (aK (ag (WK [0] (n6 rfl rfl rfl rfl ?_)))))))));exact .inl ⟨r9 hp (yl (.inl hp2) _ (by omega)),rfl,rfl⟩;refine TL.subLen 0 rfl rfl (λhul2 hu2=>?_);have hpf2:=pE (mG hD _) hp2;refine P4 ?_;refine P3 ?_;refine nx J13 (aa λ_ J17=>sr λ_ J18=>PS ?_);refine PS ?_;refine P4 ?_;refine aq ?_ ?_<;>intro h49;refine PS ?_;refine nx J18 (CY (sr λ_ J19=>P3 ?_));refine nx J19 (aj (ag (aK (ag (ag (aK (ag (WK [1] (n6 rfl rfl rfl rfl ?_)))))))));exact .inl ⟨r9 hp (yl (.inr ⟨b2,all2,hp2,h49⟩) _ (by omega)),rfl,rfl⟩;refine PS ?_;refine nx J18 (CN (qx J17 (af (P2 ?_))));refine TL.appendS (k:=2) (news:=b2) (bs':=c++b2) (ab rfl) rfl rfl rfl gA yA rfl rfl rfl rfl (λ_ s=>Src.sub 0 rfl rfl s) (by omega) rfl (λv53 ov53=>PS ?_);refine ax (ai (ae J12 (af (PS ?_))));refine AD ?_;refine PS ?_;refine ax ?_
 exact aM ((k+1,c++b2,v53):(Nat)×(List UInt8)×(Value)) ⟨by omega,by omega,yn hk3 (by rw[hp2,show all2=all by omega]),by rw[ac];omega,ov53⟩ (by show all.toNat- (k+1)<all.toNat-k;omega)
  SB
  (λ_ s=>an [2,1] rfl s)
 refine nx J11 (CN (aX (aC (aC (bq (ae J8 (sr λ_ J20=>?_)))))))
 iterate 5 refine PS ?_
 refine nx J20 (aj (WK [0,0] (n6 rfl rfl rfl rfl ?_)));exact .inr ⟨c,all,w,tJ hp (by rw[show all.toNat=k by omega];exact hk3),rfl,rfl⟩
theorem Iq(lg d:Nat)(cnt used:Int)(h:0≤used∧used≤2048):
 DT 172 #[(.pointer (some ⟨lg,0,none⟩))] T0 [ak lg [(.pointer (some ⟨d,0,none⟩)),(.int .i64 (cnt)),(.int .i64 (used))] 186] (RI (.int .i64 (2048-used)) [Hs lg d cnt used]):=by
 refine BD 8 Tryz.func172 rfl rfl rfl λw0 F hF=>sr λ_ J1=>PS ?_
 refine nx J1 (sr λ_ J2=>P2 ?_);refine FA 2 rX aR ?_;refine LA 0 Y3 ?_;refine tp (jC rfl rfl rfl (bY (by omega) (by omega))) ?_;refine PS ?_;exact nx J2 (aj (WK [0] (aw rfl rfl ⟨rfl,rfl⟩)))
theorem C1(lg d cnt:Nat)(used:Int)(x:Value)(bs:List UInt8)(D:DS)(hD:D.Ok)(hb:D.ws.length≤1000000)(hu:0≤used∧used≤2048)(hc:cnt≤1000000):
 DT 155 #[(.pointer (some ⟨lg,0,none⟩)),x] (IsW x bs) [ak lg [(.pointer (some ⟨d,0,none⟩)),(.int .i64 (((cnt:Nat):Int))),(.int .i64 (used))] 186,dk d (D)] (RI (.int .i64 (lu D cnt used bs).err) [Hs lg d (((lu D cnt used bs).cnt:Nat):Int) (lu D cnt used bs).used,dk d (lu D cnt used bs).D]):=by
 refine BD 72 Tryz.func155 rfl rfl rfl λw0 F hF=>sr λ_ J1=>PS ?_
 refine nx J1 (aa λ_ J2=>sr λ_ J3=>PS ?_);refine tp (dI rfl gA rfl hF.len) ?_;refine PS ?_;refine aq ?_ ?_<;>intro h12;refine nx J3 (CY (sr λ_ J4=>PS ?_));refine nx J4 (aj (ag (WK [0,0] (aw rfl rfl ?_))));rw[Kw (by omega)];exact⟨rfl,rfl⟩;refine nx J3 (CN (qx J2 (sr λ_ J5=>PS ?_)));refine tp (dI rfl gA rfl hF.len) ?_;refine CE NE (vV bs.length (by omega)) ID ?_;refine PS ?_;refine nx J5 (aa λ_ J6=>sr λ_ J7=>P2 ?_);refine CE PQ (Iq lg d ((cnt:Nat):Int) used hu) ID ?_;refine PS ?_;refine aq ?_ ?_<;>intro h19;refine nx J7 (CY (sr λ_ J8=>PS ?_));refine nx J8 (aj (ag (WK [0,0] (aw rfl rfl ?_))));rw[DP (by omega) (by omega)];exact⟨rfl,rfl⟩;refine nx J7 (CN (qx J6 (aa λ_ J9=>sr λ_ J10=>P2 ?_)));refine FA 1 rX aR ?_;refine LA 0 Y3 ?_;refine tp (QK (v':=(.int .i64 (((cnt+1:Nat):Int)))) (cN rfl rfl rfl (bY (by omega) (by omega))) rfl) ?_;refine PS ?_;refine CQ PP (BB x (cnt+1) bs (by omega)) ID (λg d _=>QR hF d) λvR HR hR=>?_
 have hR:=hR;subst hR;change TL _ _ _ _ _ _ _ _ _ [mT 53 5 vR (bl ((cnt+1:Nat):Int) bs),ak lg [(.pointer (some ⟨d,0,none⟩)),(.int .i64 (((cnt:Nat):Int))),(.int .i64 (used))] 186,dk d (D)];refine TL.recsLen 0 rfl rfl (λhrl hro=>?_);rw[cE]at hrl;refine tp (dI rfl wG rfl hrl) ?_;refine PS ?_;refine nx J10 (av ?_)
 refine bz (α:=(Nat)×(DS)) (λ⟨k,D'⟩=>k≤bc bs.length∧fp (bl ((cnt+1:Nat):Int) bs) used D=fp ((bl ((cnt+1:Nat):Int) bs).drop k) (used+(k:Nat)) D'∧D'.Ok∧D'.ws.length≤D.ws.length+k) (λ⟨k,D'⟩=>[(0,(.pointer (some ⟨lg,0,none⟩))),(5,(.int .i64 (((bc bs.length:Nat):Int)))),(26,vR),(27,(.int .i64 ((((bc bs.length):Nat):Int)))),(28,(.int .i64 (((k:Nat):Int))))]) (λ⟨k,D'⟩=>[ak lg [(.pointer (some ⟨d,0,none⟩)),(.int .i64 (((cnt:Nat):Int))),(.int .i64 (used))] 186,dk d (D'),mT 53 5 vR (bl ((cnt+1:Nat):Int) bs)]) (λ⟨k,D'⟩=>bc bs.length-k) (0,D)
  ⟨aO _,by simp,hD,by omega⟩ SB
  (λ_ s=>aD [1,1,0] rfl s) (λ⟨k,D'⟩ hinv=>?_)
 obtain⟨hk,hwr,hD',hws⟩:=hinv;refine sr λ_ J11=>PS ?_
 refine aq ?_ ?_<;>intro h29;refine cz (λ_ s=>aD [2] rfl s) (N3 (λus=>?_));change TL _ _ _ _ _ _ _ _ _ [own vR ((bl ((cnt+1:Nat):Int) bs).length) (us) 53 1,eJ us (bl ((cnt+1:Nat):Int) bs) 5,ak lg [(.pointer (some ⟨d,0,none⟩)),(.int .i64 (((cnt:Nat):Int))),(.int .i64 (used))] 186,dk d (D')];refine zH (p:=us.length=(bl ((cnt+1:Nat):Int) bs).length*1) (λw m=>m.own_len (i:=0) (lb rfl) rfl) (λhul=>?_);rw[cE,gi]at hul;have hkl:k< (bl ((cnt+1:Nat):Int) bs).length:=by rw[cE];omega
 obtain⟨sk,hsk⟩: ∃x,(bl ((cnt+1:Nat):Int) bs)[k]=x:=⟨_,rfl⟩;refine iI 0 rfl rfl (by omega) (λg cap hv hcap=>nx J11 (aa λ_ J12=>CY (qx J12 (aa λ_ J13=>av (sr λ_ J14=>PS ?_)))));refine tp (bO (r:=k) hv rfl wG ld rfl rfl (by omega) (by omega) (by omega)) ?_;refine tp (de (v:=(us.getD k undef)) rfl gA rfl rfl (fQ 0 rfl hv rfl) (by simp[List.getD_eq_getElem?_getD,show k<us.length by omega])) ?_;refine P2 ?_;refine nx J14 (aa λ_ J15=>D1 2 dx ?_);refine PD 0 ?_;refine PD 1 ?_;refine FD 2 0 rX ww ?_;refine LX 3 JD (.pointer (some ⟨d,0,none⟩)) ?_ (hc:=by exact rfl);refine PD 4 ?_;refine PD 5 ?_;refine FD 6 2 rX aR ?_;refine LX 7 Y3 (.int .i64 (used)) ?_ (hc:=by exact rfl);refine PD 8 ?_;refine ta 9 rfl (cN rfl rfl rfl (bY (by omega) (by omega))) ?_;refine PD 10 ?_;refine AL 11 ?_;refine CQ Ol (yN d D' (used+((k:Nat):Int)) (us.getD k undef) sk hD' (by omega)) (SM [3]) (λg d s=>L6 (hsk▸vl 1 hkl rfl rfl g d s)) λvR HR hR=>?_
 obtain⟨hv2,rfl⟩:=hR;subst hv2;refine EN (PD 12 ?_);refine DN (ae J15 (sr λ_ J16=>P2 ?_));refine aq ?_ ?_<;>intro h46;refine nx J16 (CY (sr λ_ J17=>P2 ?_));refine nx J17 (aj (aK (ag (ag (aK (ag (WK [3,0] (aw rfl rfl ?_))))))));have hf:=CH (D:=D') (at':=used) hkl (by rw[hsk];exact h46);rw[hsk]at hf;rw[Aq (by omega) (by omega) (hwr.trans hf) h46];exact⟨rfl,rfl⟩;refine nx J16 (CN (aV (ai (ae J13 (af (AD ?_))))));refine PS ?_;refine ax ?_
 exact aM ((k+1,(D'.write (used+((k:Nat):Int)) sk).2):(Nat)×(DS)) ⟨by omega,by rw[hwr];subst hsk;exact CG hkl (by simpa using h46),DS.write_ok hD' _ _,by have:=DS.write_ws (D:=D') (at':=used+((k:Nat):Int)) (bs:=sk);omega⟩ (by show bc bs.length- (k+1)<bc bs.length-k;omega)
  SB
  (λ_ s=>aD [1,1,0] rfl (bv (p:=λus:List Value=>[own vR (bl ((cnt+1:Nat):Int) bs).length us 53 1,eJ us (bl ((cnt+1:Nat):Int) bs) 5]) us (an [1,1,1,0] rfl s)))
 refine nx J11 (aa λ_ J18=>CN (aX (aC (aC (bq (ae J9 (aa λ_ J19=>sr λ_ J20=>P2 ?_)))))));refine FA 0 rX ww ?_;refine LA 0 JD ?_;refine CR Oj (Ch d (D') hD') (SM [1]) λvR HR hR=>?_
 obtain⟨hv,rfl⟩:=hR;subst hv;refine PS ?_;refine nx J20 (sr λ_ J21=>P2 ?_);refine aq ?_ ?_<;>intro h55;refine nx J21 (CY (sr λ_ J22=>P2 ?_));refine nx J22 (aj (ag (WK [1,0] (aw rfl rfl ?_))));have hf:fp (bl ((cnt+1:Nat):Int) bs) used D=(0,D'):=by rw[hwr,ct (by rw[cE];omega)];rfl
 rw[IB (by omega) (by omega) hf h55];exact⟨rfl,rfl⟩;refine nx J21 (CN (qx J19 (sr λ_ J23=>P2 ?_)));refine FA 1 rX aR ?_;refine LA 1 Y3 ?_;refine AD ?_;refine PS ?_;refine FA 1 rX aR ?_;refine S0 1 aR ?_;refine nx J23 (sr λ_ J24=>P2 ?_);refine FA 2 rX aR ?_;refine LA 1 Y3 ?_;refine PS ?_;refine AD ?_;refine PS ?_;refine FA 2 rX aR ?_;refine S0 1 aR ?_;refine nx J24 (sr λ_ J25=>PS ?_);refine nx J25 (aj (WK [1,0] (aw rfl rfl ?_)));have hf:fp (bl ((cnt+1:Nat):Int) bs) used D=(0,D'):=by rw[hwr,ct (by rw[cE];omega)];rfl
 rw[put_ok (by omega) (by omega) hf (by simpa using h55)];exact⟨rfl,rfl⟩
theorem IQ(d:Nat)(D:DS)(hD:D.Ok)(hI:Wal.DS.In D)(hb:D.ws.length≤1000000):
 DT 66 #[(.pointer (some ⟨d,0,none⟩))] T0 [dk d (D)] (dA (λv H=>((bI D).err≠0∧v= .tuple #[.pointer none, .slice none 0 0, .int .i64 (bI D).err]∧H=[dk d (bI D).D])∨((bI D).err=0∧∃lg vr,v= .tuple #[.pointer (some ⟨lg,0,none⟩),vr, .int .i64 0]∧H=[Hs lg d (((bI D).recs.length:Nat):Int) (bI D).used,Q8 vr (bI D).recs,dk d (bI D).D]))):=by
 refine BD 80 Tryz.func66 rfl rfl rfl λw0 F hF=>sr λ_ J1=>P3 ?_
 refine nx J1 (aa λ_ J2=>sr λ_ J3=>PS ?_);refine tp (iW rfl JD rfl rfl) ?_;refine nx J3 (CN (qx J2 (sr λ_ J4=>PS ?_)));refine BV #[(.pointer (some ⟨d,0,none⟩)),(.int .i64 0),(.int .i64 0)] ?_;refine XB λb17=>?_
 refine PS ?_;refine nx J4 (sr λ_ J5=>PS ?_);refine nx J5 (aa λ_ J6=>av ?_)
 refine bz (α:=(Nat)×(List (List UInt8))×(Int)×(Value)) (λ⟨f,rs,used,vr⟩=>Scan D f rs used∧vr.oneCell'=true) (λ⟨f,rs,used,vr⟩=>[(0,(.pointer (some ⟨d,0,none⟩))),(2,(.pointer none)),(3,(.slice none 0 0)),(4,(.int .i64 0)),(5,(.pointer (some ⟨b17,0,none⟩))),(6,vr)]) (λ⟨f,rs,used,vr⟩=>[ak b17 [(.pointer (some ⟨d,0,none⟩)),(.int .i64 (((rs.length:Nat):Int))),(.int .i64 (used))] 186,dk d (D),mT 53 5 vr (rs)]) (λ⟨f,rs,used,vr⟩=>f) (iG,[],0,(.slice none 0 0))
  ⟨Scan.start D,rfl⟩ SB
  (λ_ s=>eA (List.Perm.trans (List.Perm.swap _ _ _) (List.Perm.cons _ (List.Perm.swap _ _ _))) (vK 53 5 s)) (λ⟨f,rs,used,vr⟩ hinv=>?_)
 obtain⟨hsc,hvr⟩:=hinv;obtain⟨hs1,hs2,hs3,hs4,hs5⟩:=id hsc;refine av (aa λ_ J7=>D1 0 dx ?_);refine PD 0 ?_;refine PD 1 ?_;refine PD 2 ?_;refine FD 3 1 rX aR ?_;refine LX 4 Y3 (.int .i64 (((rs.length:Nat):Int))) ?_ (hc:=by exact rfl);refine ta 5 rfl (cN rfl rfl rfl (bY (by omega) (by omega))) ?_;refine PD 6 ?_;refine PD 7 ?_;refine FD 8 2 rX aR ?_;refine LX 9 Y3 (.int .i64 (used)) ?_ (hc:=by exact rfl);refine AL 10 ?_;refine CR Qp (Dr d D (((rs.length:Nat):Int)+1) used hD (by omega) (by omega)) (SM [1]) λvR HR hR=>?_
 rcases hR with⟨hst,rfl,rfl⟩| ⟨b,all,u,hst,rfl,rfl⟩
 have hss:=Scan.stop hsc hst;refine EN (PD 11 ?_);refine PD 12 ?_;refine PD 13 ?_;refine PD 14 ?_;refine PD 15 ?_;refine PD 16 ?_;refine PD 17 ?_;refine DN (ae J7 (aa λ_ J8=>sr λ_ J9=>PS ?_));refine PS ?_;refine nx J9 (CY (aX (aC (TE.miss (by decide) (aC (bq (ae J6 (aa λ_ J10=>sr λ_ J11=>P2 ?_))))))));refine FA 2 rX aR ?_;refine LA 1 Y3 ?_;refine PS ?_;refine nx J11 (av ?_)
 refine bz (α:=(Int)×(DS)) (λ⟨at',D'⟩=>used≤at'∧at'≤2048∧gF (2048-used).toNat used D=gF (2048-at').toNat at' D'∧D'.Ok∧D'.ws.length≤D.ws.length+(at'-used).toNat) (λ⟨at',D'⟩=>[(0,(.pointer (some ⟨d,0,none⟩))),(5,(.pointer (some ⟨b17,0,none⟩))),(6,vr),(10,(.int .i64 (at')))]) (λ⟨at',D'⟩=>[ak b17 [(.pointer (some ⟨d,0,none⟩)),(.int .i64 (((rs.length:Nat):Int))),(.int .i64 (used))] 186,dk d (D'),mT 53 5 vr (rs)]) (λ⟨at',D'⟩=>(2048-at').toNat) (used,D)
  ⟨by omega,by omega,rfl,hD,by omega⟩ SB
  (λ_ s=>an [1,0,0] rfl s) (λ⟨at',D'⟩ hinv=>?_)
 obtain⟨ha1,ha2,hwi,hD',hws⟩:=hinv;refine aa λ_ J12=>sr λ_ J13=>P2 ?_
 refine aq ?_ ?_<;>intro h59;refine nx J13 (CY (qx J12 (aa λ_ J14=>av (aa λ_ J15=>sr λ_ J16=>P2 ?_))));refine CR KY (Ci d (D') at' hD' (by omega)) (SM [1]) λvR HR hR=>?_
 obtain⟨hv,rfl⟩:=hR;subst hv;refine BV ((dL zs).toArray) ?_;refine tp (PV.eqlBy (a:=((D').read at')) (b:=zs) (m:=2) Nu Nt rfl Nv Nx Nw (mG hD' _) (by decide) rfl rfl rfl) ?_;refine aq ?_ ?_<;>intro h66;refine nx J16 (CY (aX (aC (bq (ae J14 (af (PS ?_)))))));refine AD ?_;refine PS ?_;refine ax ?_
 exact aM ((at'+1,D'):(Int)×(DS)) ⟨by omega,by omega,by rw[hwi];exact HO (by omega) h66,hD',by omega⟩ (by show(2048- (at'+1)).toNat< (2048-at').toNat;omega)
  SB
  (λ_ s=>an [1,0,0] rfl s)
 refine nx J16 (CN (qx J15 (sr λ_ J17=>P2 ?_)));refine CQ Ol (yN d (D') at' (.slice none 0 0) ([]) hD' (by omega)) ID (λ_ _ _=> .inl (.inl ⟨rfl,rfl⟩)) λvR HR hR=>?_
 obtain⟨hv,rfl⟩:=hR;subst hv;refine PS ?_;refine nx J17 (sr λ_ J18=>P2 ?_);refine aq ?_ ?_<;>intro h71;refine nx J18 (CY (sr λ_ J19=>P4 ?_));refine nx J19 (aj (aK (ag (ag (aK (ag (WK [0] (n6 rfl rfl rfl rfl ?_))))))));rw[yd hss (hwi.trans (HQ (by omega) h66 h71)) h71];exact .inl ⟨h71,rfl,rfl⟩;refine nx J18 (CN (aV (ai (ae J14 (af (PS ?_))))));refine AD ?_;refine PS ?_;refine ax ?_
 exact aM ((at'+1,(D'.write at' []).2):(Int)×(DS)) ⟨by omega,by omega,by rw[hwi];exact Me (by omega) h66 (by simpa using h71),DS.write_ok hD' _ _,by have:=DS.write_ws (D:=D') (at':=at') (bs:=[]);omega⟩ (by show(2048- (at'+1)).toNat< (2048-at').toNat;omega)
  SB
  (λ_ s=>an [1,0,0] rfl s)
 refine nx J13 (CN (aX (aC (aC (bq (ae J10 (aa λ_ J20=>sr λ_ J21=>PS ?_)))))));refine CR Oj (Ch d (D') hD') (SM [1]) λvR HR hR=>?_
 obtain⟨hv,rfl⟩:=hR;subst hv;refine PS ?_;refine nx J21 (sr λ_ J22=>P2 ?_);refine aq ?_ ?_<;>intro h76;refine nx J22 (CY (sr λ_ J23=>P4 ?_));refine nx J23 (aj (ag (WK [0] (n6 rfl rfl rfl rfl ?_))));rw[FZ hss (hwi.trans (CM (by omega))) h76];exact .inl ⟨h76,rfl,rfl⟩;refine nx J22 (CN (qx J20 (sr λ_ J24=>?_)))
 iterate 5 refine PS ?_
 refine nx J24 (aj (WK [1,1,0] (n6 rfl rfl rfl rfl ?_)));have h76':D'.sync.1=0:=by omega
 rw[BW hss (hwi.trans (CM (by omega))) h76'];exact .inr ⟨rfl,b17,vr,rfl,rfl⟩;have hro:=py hI hD (by omega) hst;have hfa:=(kj (mG hD _) hst).1;obtain⟨f',rfl,hsn⟩:=Scan.next hI hD hsc hst;refine TL.subLen 0 rfl rfl (λhul hu=>EN (PD 11 ?_));refine PD 12 ?_;refine PD 13 ?_;refine PD 14 ?_;refine PD 15 ?_;refine PD 16 ?_;refine PD 17 ?_;refine DN (ae J7 (aa λ_ J25=>sr λ_ J26=>PS ?_));refine PS ?_;refine nx J26 (CN (qx J25 (sr λ_ J27=>P2 ?_)));refine aT (cells:=#[u]) (ab rfl) rfl rfl rfl wG Jd rfl rfl rfl (ux hu (by simp)) (λb37=>?_);change TL _ _ _ _ _ _ _ _ _ [ak b37 [u] 53,hX u (b) 5,dk d (D),ak b17 [(.pointer (some ⟨d,0,none⟩)),(.int .i64 (((rs.length:Nat):Int))),(.int .i64 (used))] 186,mT 53 5 vr (rs)];refine cz (λ_ s=>aD [4] rfl s) (N3 (λus38=>cF (k:=0) (m:=1) (news:=[u]) (nn':=(rs).length+1) (xs':=us38++[u]) (ab rfl) rfl rfl rfl wG Jd rfl rfl rfl rfl rfl rfl (λ_ _=>jB rfl (RO 2) rfl) (List.forall_mem_cons.2 ⟨hu,λ_ h=>by cases h⟩) (by simp only[maxLen];omega) (by omega) rfl rfl (λv38 ov38=>?_)));change TL _ _ _ _ _ _ _ _ _ [own v38 ((rs).length+1) (us38++[u]) 53 1,eJ us38 (rs) 5,ak b37 [u] 53,hX u (b) 5,dk d (D),ak b17 [(.pointer (some ⟨d,0,none⟩)),(.int .i64 (((rs.length:Nat):Int))),(.int .i64 (used))] 186]
 refine cz (H':=[own v38 ((rs).length+1) (us38++[u]) 53 1,eJ us38 (rs) 5,hX u (b) 5,ak b37 [u] 53,dk d (D),ak b17 [(.pointer (some ⟨d,0,none⟩)),(.int .i64 (((rs.length:Nat):Int))),(.int .i64 (used))] 186]) (λ_ s=>aD [0,0,1] rfl s) (cz (λ_ s=>vM s) (PS ?_));refine nx J27 (sr λ_ J28=>P2 ?_);refine FA 1 rX aR ?_;refine LA 3 Y3 ?_;refine tp (QK (v':=(.int .i64 ((((rs++[b]).length:Nat):Int)))) (cN rfl rfl rfl (bY (by omega) (by omega))) (congrArg (Value.int .i64) (by simp))) ?_;refine PS ?_;refine FA 1 rX aR ?_;refine S0 3 aR ?_;refine nx J28 (af (P2 ?_));refine FA 2 rX aR ?_;refine LA 3 Y3 ?_;refine PS ?_;refine AD ?_;refine PS ?_;refine FA 2 rX aR ?_;refine S0 3 aR ?_;refine ax (ai ?_)
 exact aM ((f',rs++[b],used+all,v38):(Nat)×(List (List UInt8))×(Int)×(Value)) ⟨hsn,ov38⟩ (Nat.lt_succ_self _)
  SB
  (λ_ s=>an [3,2,0] rfl s)
end Go.Proofs.YtfocodjhmkokpaaGreatDoor
end

section
namespace Wal
open Go Leg Codec Api Dsk
theorem Du(s ws:fA)(j:Int): ∀k,fu (Ed s ws k) j=jb s ws j k
 |0=>rfl
 |k+1=>by
  rw[Ed,jb,ll,Du s ws j k]
  by_cases h:j=(kM ws k).1
  · rw[if_pos h,if_pos h.symm]
  · rw[if_neg h,if_neg (λq=>h q.symm)]
theorem JR{ws x:fA}{k:Nat}(h:k<ws.length):kM (ws++x) k=kM ws k:=by simp[kM,List.getD_eq_getElem?_getD,List.getElem?_append_left h]
theorem xU{s ws x:fA}{j:Int}: ∀k,k≤ws.length→jb s (ws++x) j k=jb s ws j k
 |0,_=>rfl
 |k+1,h=>by rw[jb,jb,JR (by omega),xU k (by omega)]
theorem Iz(s ws:fA)(p:Int×il)(j:Int):jb s (ws++[p]) j (ws++[p]).length=if j=p.1 then p.2 else jb s ws j ws.length:=by
 rw[ac,ah,ao,bi,jb,xU _ (aH _)];have:kM (ws++[p]) ws.length=p:=by simp[kM,List.getD_eq_getElem?_getD]
 rw[this]
 by_cases h:j=p.1
 · rw[if_pos h,if_pos h.symm]
 · rw[if_neg h,if_neg (λq=>h q.symm)]
def wz(D:DS)(at':Int)(bs:List UInt8):DS:= {D with ws:=D.ws++[(at',eP bs)],lf:=if D.ar=true then D.lf-1 else D.lf,dn:=false}
theorem ny{D:DS}{at':Int}{bs:List UInt8}(h1:0≤at'∧at'<2048)(h2:bs.length≤64)(h3:D.dn=false)(h4:D.ar=false∨0<D.lf):D.write at' bs=(0,wz D at' bs):=by
 rw[DS.write,if_neg (by omega),if_neg]
 · rfl
 · rintro (h| ⟨h,h5⟩)
   · rw[h3]at h;cases h
   · rcases h4 with h4|h4
     · rw[h4]at h;cases h
     · omega
theorem sy{D:DS}{at':Int}{bs:List UInt8}(h1:0≤at'∧at'<2048)(h2:bs.length≤64)(h4:D.ar=true∧D.lf=0):D.write at' bs=(4,{D with dn:=true}):=by
 rw[DS.write,if_neg (by omega),if_pos (.inr h4)]
theorem As(D:DS)(at':Int)(bs:List UInt8)(j:Int):(wz D at' bs).read j=if j=at' then eP bs else D.read j:=Iz _ _ _ _
theorem wU{D:DS}(h:D.Ok){at':Int}{bs:List UInt8}(h2:bs.length≤64)(h4:D.ar=false∨0<D.lf):(wz D at' bs).Ok:=by
 refine⟨h.s,h.ws.add _ (dQ h2),?_⟩;have:=h.lf;show 0≤(if D.ar=true then D.lf-1 else D.lf)∧(if D.ar=true then D.lf-1 else D.lf)≤9223372036854775807;split
 · rename_i h5
   rcases h4 with h4|h4
   · rw[h4]at h5;cases h5
   · omega
 · exact this
theorem wV{D:DS}(h:Wal.DS.In D){at':Int}{bs:List UInt8}(h1:0≤at'∧at'<2048):Wal.DS.In (wz D at' bs):=⟨h.1,λp hp=>by
 rcases bP.1 hp with hp|hp
 · exact h.2 p hp
 · simp only[cm]at hp;subst hp;exact h1⟩
theorem In.put{s:fA}(h:In s){k:Int}{v:il}(h1:0≤k∧k<2048):In (oV s k v):=by
 induction s with
 |nil=>intro p hp;simp only[oV,cm]at hp;subst hp;exact h1
 |cons p s ih=>
  obtain⟨a,b⟩:=p;intro q hq;simp only[oV]at hq;split at hq
  · rcases cg.1 hq with rfl|hq
    · exact h (a,b) (by simp)
    · exact h q (by simp[hq])
  · rcases cg.1 hq with rfl|hq
    · exact h (a,b) (by simp)
    · exact ih (λq hq=>h q (by simp[hq])) q hq
theorem In.lay{s ws:fA}(h:In s)(hw:In ws): ∀k,k≤ws.length→In (Ed s ws k)
 |0,_=>h
 |k+1,hk=>by
  have:=hw (kM ws k) (by rw[uP (by omega)];exact df _);exact(In.lay h hw k (by omega)).put this
theorem In.crash{mask torn:Int}{c:Nat}{s ws:fA}(h:In s)(hw:In ws): ∀k,k≤ws.length→In (gQ mask torn c s ws k)
 |0,_=>h
 |k+1,hk=>by
  have h1:=hw (kM ws k) (by rw[uP (by omega)];exact df _);have ih:=In.crash (mask:=mask) (torn:=torn) (c:=c) h hw k (by omega);simp only[gQ,j0];split
  · exact ih.put h1
  · split
    · exact ih.put h1
    · exact ih
theorem In.nil:In []:=λ_ h=>absurd h (by simp)
abbrev Sx:= @In.nil
structure Calm(D:DS):Prop where
 ok:D.Ok
 inn:Wal.DS.In D
 ar:D.ar=false
 dn:D.dn=false
theorem Calm.crash{D:DS}(h:D.Ok)(hi:Wal.DS.In D)(mask torn n:Int):Calm (D.crash mask torn n):=⟨DS.crash_ok h _ _ _,⟨hi.1.crash hi.2 _ (aH _),Sx⟩,rfl,rfl⟩
abbrev QY:= @Calm.crash
theorem uV{D:DS}(h:D.dn=false)(j:Int):D.sync.2.read j=D.read j:=by
 unfold DS.sync;rw[if_neg (by simp[h])];exact Du _ _ _ _
theorem nu{D:DS}(h:D.dn=false):D.sync.1=0∧D.sync.2.ws=[]∧D.sync.2.dn=false∧D.sync.2.ar=D.ar∧D.sync.2.lf=D.lf:=by
 unfold DS.sync;rw[if_neg (by simp[h])];exact⟨rfl,rfl,h,rfl,rfl⟩
theorem wS{D:DS}(h:Wal.DS.In D):Wal.DS.In D.sync.2:=by
 unfold DS.sync;split
 · exact h
 · exact⟨h.1.lay h.2 _ (aH _),Sx⟩
theorem Calm.sync{D:DS}(h:Calm D):Calm D.sync.2:=by
 obtain⟨_,_,h3,h4,_⟩:=nu h.dn;exact⟨QU h.ok,wS h.inn,h4.trans h.ar,h3⟩
theorem Calm.put{D:DS}(h:Calm D){at':Int}{bs:List UInt8}(h1:0≤at'∧at'<2048)(h2:bs.length≤64):Calm (wz D at' bs):=⟨wU h.ok h2 (.inl h.ar),wV h.inn h1,h.ar,rfl⟩
theorem yb:eP []=zs:=rfl
theorem uK: ∀(n:Nat) (at':Int) (D:DS),Calm D→0≤at'→at'+n≤2048→∃D',gF n at' D=(0,D')∧Calm D'∧∀j,D'.read j=if at'≤j∧j<at'+n then zs else D.read j
 |0,at',D,h,_,_=>⟨D,rfl,h,λj=>by rw[if_neg (by omega)]⟩
 |n+1,at',D,h,h0,h1=>by
  by_cases hz:D.read at'=zs
  · obtain⟨D',e,c,r⟩:=uK n (at'+1) D h (by omega) (by omega)
    refine⟨D',by rw[gF,if_pos hz,e],c,λj=>?_⟩;rw[r j]
    by_cases q:j=at'
    · subst q;rw[if_neg (by omega),if_pos (by omega),hz]
    · by_cases q2:at'+1≤j∧j<at'+1+n
      · rw[if_pos q2,if_pos (by omega)]
      · rw[if_neg q2,if_neg (by omega)]
  · have hw:=ny (D:=D) (at':=at') (bs:=[]) (by omega) (by simp) h.dn (.inl h.ar)
    obtain⟨D',e,c,r⟩:=uK n (at'+1) (wz D at' []) (h.put (by omega) (by simp)) (by omega) (by omega);refine⟨D',by rw[gF,if_neg hz,hw,if_pos rfl,e],c,λj=>?_⟩;rw[r j,As,yb]
    by_cases q:j=at'
    · subst q;rw[if_neg (by omega),if_pos rfl,if_pos (by omega)]
    · rw[if_neg q]
      by_cases q2:at'+1≤j∧j<at'+1+n
      · rw[if_pos q2,if_pos (by omega)]
      · rw[if_neg q2,if_neg (by omega)]
theorem Ij{D:DS}(h:Calm D):0≤(fX D.read iG 0 0).2∧(fX D.read iG 0 0).2≤2048∧((fX D.read iG 0 0).1.length:Int)≤(fX D.read iG 0 0).2:=by
 have key: ∀f rs used,Scan D f rs used→∃rs' used',fX D.read iG 0 0=(rs',used')∧0≤used'∧used'≤2048∧(rs'.length:Int)≤used':=by
  intro f
  induction f with
  |zero=>
   intro rs used hs;cases hst:fH D.read ((rs.length:Int)+1) used with
   |none=>exact⟨rs,used,hs.stop hst,hs.2.1,hs.2.2.1,hs.2.2.2.2⟩
   |some p=>obtain⟨b,all⟩:=p;obtain⟨f',e,_⟩:=Scan.next h.inn h.ok hs hst;omega
  |succ f ih=>
   intro rs used hs;cases hst:fH D.read ((rs.length:Int)+1) used with
   |none=>exact⟨rs,used,hs.stop hst,hs.2.1,hs.2.2.1,hs.2.2.2.2⟩
   |some p=>
    obtain⟨b,all⟩:=p;obtain⟨f',e,hs'⟩:=Scan.next h.inn h.ok hs hst;obtain rfl:f=f':=by omega
    exact ih _ _ hs'
 obtain⟨rs,used,e,h1,h2,h3⟩:=key _ _ _ (Scan.start D);rw[e];exact⟨h1,h2,h3⟩
theorem IS{D:DS}(h:Calm D): ∃D',bI D=⟨0,(fX D.read iG 0 0).1,(fX D.read iG 0 0).2,D'⟩∧Calm D'∧D'.ws=[]∧∀j,D'.read j=if(fX D.read iG 0 0).2≤j∧j<2048 then zs else D.read j:=by
 obtain⟨h1,h2,_⟩:=Ij h;generalize hr:fX D.read iG 0 0=r at*;obtain⟨rs,used⟩:=r;simp only at h1 h2 ⊢;obtain⟨D',e,c,rd⟩:=uK (2048-used).toNat used D h h1 (by omega);obtain⟨s1,s2,_⟩:=nu c.dn;refine⟨D'.sync.2,BW hr e s1,c.sync,s2,λj=>?_⟩;rw[uV c.dn,rd j]
 by_cases q:used≤j∧j<2048
 · rw[if_pos q,if_pos (by omega)]
 · rw[if_neg q,if_neg (by omega)]
def gX:Nat→List (List UInt8)→List il
 |_,[]=>[]
 |n,b::ls=>bl ((n+1:Nat):Int) b++gX (n+1) ls
def cG(ls:List (List UInt8)):Nat:=(gX 0 ls).length
theorem nd: ∀(a:List (List UInt8)) (n:Nat) (b:List (List UInt8)),gX n (a++b)=gX n a++gX (n+a.length) b
 | [],n,b=>by simp[gX]
 |x::a,n,b=>by
  simp only[ql,gX,nd a (n+1) b,aI,ah];rw[show n+1+a.length=n+(a.length+1)by omega]
theorem AO: ∀(ls:List (List UInt8)) (n m:Nat),(gX n ls).length=(gX m ls).length
 | [],_,_=>rfl
 |b::ls,n,m=>by simp only[gX,ac,cE,AO ls (n+1) (m+1)]
theorem uX(ls:List (List UInt8))(b:List UInt8):cG (ls++[b])=cG ls+bc b.length:=by
 simp[cG,nd,gX,cE]
theorem tK: ∀ls:List (List UInt8),ls.length≤cG ls
 | []=>aH _
 |b::ls=>by
  have h1:=tK ls;have h2:=ml b.length;have h3:=AO ls 1 0;simp only[cG,gX,ac,cE,ah,h3]at*;omega
theorem tR{number:Int}{b:List UInt8}{k:Nat}(h:k< (bl number b).length):(bl number b)[k]=mS number k (bc b.length) (gW b k):=by simp[bl]
theorem m6(number:Int)(b:List UInt8): ∀s∈bl number b,s.length=64:=λs hs=>by
 obtain⟨i,_,rfl⟩:=eH.1 hs;exact Ii (rH b i)
theorem sM{number:Int}{b:List UInt8}{k:Nat}(h:k< (bl number b).length)(h0:0≤number)(h1:number<4294967296)(hb:b.length≤3000):e9 (bl number b)[k] number k=some (gW b k,((bc b.length:Nat):Int)):=by
 rw[tR h];rw[cE]at h;exact DU (rH b k) h0 h1 h (by have:=pD hb;omega)
theorem AA{rd:Int→il}{number at':Int}{b:List UInt8}(h0:0≤number)(h1:number<4294967296)(hb:b.length≤3000): ∀k,k≤bc b.length→(∀j (h:j< (bl number b).length),j<k→rd (at'+j)=(bl number b)[j])→
 ly rd number at' ((bc b.length:Nat):Int) k=some ((List.range k).map (gW b)).flatten
 |0,_,_=>rfl
 |k+1,hk,h=>by
  have ih:=AA h0 h1 hb k (by omega) (λj hj hj2=>h j hj (by omega));have hl:k< (bl number b).length:=by rw[cE];omega
  rw[yn ih (by rw[h k hl (by omega)];exact sM hl h0 h1 hb)];simp[dh]
theorem vI{rd:Int→il}{number at':Int}{b:List UInt8}(h0:0≤number)(h1:number<4294967296)(hb:b.length≤3000)(h: ∀j (h:j< (bl number b).length),rd (at'+j)=(bl number b)[j]):fH rd number at'=some (b,((bc b.length:Nat):Int)):=by
 have hl:0< (bl number b).length:=by rw[cE];exact ml _
 have hp:e9 (rd at') number 0=some (gW b 0,((bc b.length:Nat):Int)):=by
  have e:=h 0 hl;rw[show at'+((0:Nat):Int)=at' by omega]at e;rw[e];exact sM hl h0 h1 hb
 refine tJ hp ?_;rw[wu,AA h0 h1 hb _ (aH _) (λj hj _=>h j hj),IK b _ (zn _)]
def Shows(rd:Int→il)(at':Int)(l:List il):Prop:=∀j (h:j<l.length),rd (at'+j)=l[j]
theorem Shows.left{rd:Int→il}{at':Int}{a b:List il}(h:Shows rd at' (a++b)):Shows rd at' a:=λj hj=>by
 rw[h j (by rw[ac];omega),R8 hj]
theorem Shows.right{rd:Int→il}{at':Int}{a b:List il}(h:Shows rd at' (a++b)):Shows rd (at'+a.length) b:=λj hj=>by
 have:=h (a.length+j) (by rw[ac];omega);rw[show at'+((a.length+j:Nat):Int)=at'+a.length+j by omega]at this;rw[this,Rf (by omega)];congr 1;omega
theorem xJ{rd:Int→il}: ∀(ls:List (List UInt8)) (n:Nat) (at':Int) (f:Nat),(∀b∈ls,b.length≤3000)→n+ls.length<4294967296→Shows rd at' (gX n ls)→
 fX rd (ls.length+f) n at'=(ls++(fX rd f ((n+ls.length:Nat):Int) (at'+(gX n ls).length)).1,(fX rd f ((n+ls.length:Nat):Int) (at'+(gX n ls).length)).2)
 | [],n,at',f,_,_,_=>by simp[gX]
 |b::ls,n,at',f,hl,hn,h=>by
  simp only[gX]at h ⊢;simp only[ah]at hn ⊢;have hs:=vI (rd:=rd) (number:=((n+1:Nat):Int)) (at':=at') (by omega) (by omega) (hl b (by simp)) h.left;have ih:=xJ (rd:=rd) ls (n+1) (at'+(bl ((n+1:Nat):Int) b).length) f (λx hx=>hl x (by simp[hx])) (by omega) h.right;rw[cE]at ih;rw[show ls.length+1+f=(ls.length+f)+1 by omega,BC (b:=b) (all:=((bc b.length:Nat):Int)) (by rw[←hs];congr 1)];rw[show((n:Nat):Int)+1=((n+1:Nat):Int)by omega,ih];rw[ac,cE,show n+1+ls.length=n+(ls.length+1)by omega,show at'+((bc b.length+(gX (n+1) ls).length:Nat):Int)=at'+((bc b.length:Nat):Int)+(((gX (n+1) ls).length:Nat):Int)by omega];simp
structure LogD(D:DS)(ls:List (List UInt8)):Prop where
 ok:D.Ok
 inn:Wal.DS.In D
 ws:D.ws=[]
 short: ∀b∈ls,b.length≤3000
 room:cG ls≤2048
 shows:Shows D.read 0 (gX 0 ls)
 zero: ∀j,((cG ls:Nat):Int)≤j→D.read j=zs
theorem LogD.len{D:DS}{ls:List (List UInt8)}(h:LogD D ls):ls.length≤2048:=by have:=tK ls;have:=h.room;omega
theorem Ag{rd:Int→il}{number at':Int}(h:(rd at').getD 63 0≠1):fH rd number at'=none:=sa (nJ h)
theorem Bf:zs.getD 63 0≠1:=by decide
theorem LogD.scan{D:DS}{ls:List (List UInt8)}(h:LogD D ls):fX D.read iG 0 0=(ls,((cG ls:Nat):Int)):=by
 have hl:=h.len;obtain⟨f,hf⟩: ∃f,iG=ls.length+f:=⟨iG-ls.length,by rw[q9];omega⟩;have:=xJ (rd:=D.read) ls 0 0 f h.short (by omega) h.shows;rw[←hf]at this;rw[show((0:Nat):Int)=0 from rfl]at this;have hz:=h.zero _ (Int.le_refl _);simp only[cG]at hz;rw[this,Int.zero_add,rF (Ag (by rw[hz];exact Bf))];simp[cG]
theorem LogD.new:LogD DS.new []:=⟨DS.new_ok,⟨Sx,Sx⟩,rfl,λ_ h=>absurd h (by simp),by decide,λj h=>absurd h (by simp[gX]),λj _=>rfl⟩
theorem LogD.open{D:DS}{ls:List (List UInt8)}(h:LogD D ls)(ha:D.ar=false)(hd:D.dn=false): ∃D',bI D=⟨0,ls,((cG ls:Nat):Int),D'⟩∧LogD D' ls∧D'.ar=false∧D'.dn=false:=by
 obtain⟨D',e,c,hw,hr⟩:=IS (D:=D) ⟨h.ok,h.inn,ha,hd⟩;rw[h.scan]at e hr
 have hrd: ∀j,D'.read j=D.read j:=λj=>by
  rw[hr j];split
  · rename_i q;rw[h.zero j q.1]
  · rfl
 exact⟨D',e,⟨c.ok,c.inn,hw,h.short,h.room,λj hj=>by rw[hrd];exact h.shows j hj,λj hj=>by rw[hrd];exact h.zero j hj⟩,c.ar,c.dn⟩
def p8:Int→List il→fA
 |_,[]=>[]
 |at',s::ss=>(at',s)::p8 (at'+1) ss
theorem w7: ∀(ss:List il) (at':Int),(p8 at' ss).length=ss.length
 | [],_=>rfl
 |s::ss,at'=>by simp[p8,w7 ss]
theorem tt: ∀(ss:List il) (at':Int) (k:Nat) (h:k<ss.length),kM (p8 at' ss) k=(at'+k,ss[k])
 |s::ss,at',0,_=>by simp[p8,kM]
 |s::ss,at',k+1,h=>by
  have ih:=tt ss (at'+1) k (by simpa using h);simp only[kM,p8,List.getD_cons_succ]at ih ⊢;rw[ih];simp only[Sw,Prod.mk.injEq,and_true];omega
theorem IL{s:il}(h:s.length=64):eP s=s:=by simp[eP,h]
theorem vE: ∀(ss:List il) (at':Int) (D:DS),D.Ok→Wal.DS.In D→D.dn=false→0≤at'→at'+ss.length≤2048→(∀s∈ss,s.length=64)→
 ∃(m:Nat) (D':DS),m≤ss.length∧fp ss at' D=((if m=ss.length then 0 else 4),D')∧D'.Ok∧Wal.DS.In D'∧D'.s=D.s∧D'.ws=D.ws++p8 at' (ss.take m)∧D'.dn=decide (m<ss.length)∧D'.ar=D.ar∧(D.ar=false→m=ss.length)
 | [],at',D,h,hi,hd,_,_,_=>⟨0,D,aH _,rfl,h,hi,rfl,by simp[p8],by simp[hd],rfl,λ_=>rfl⟩
 |s::ss,at',D,h,hi,hd,h0,h1,hs=>by
  simp only[ah]at h1;have hs1:=hs s (by simp)
  by_cases hc:D.ar=true∧D.lf=0
  · have hw:=sy (D:=D) (at':=at') (bs:=s) (by omega) (by omega) hc
    refine⟨0,{D with dn:=true},aO _,?_,⟨h.s,h.ws,h.lf⟩,hi,rfl,by simp[p8],by simp,rfl,λq=>by rw[q]at hc;cases hc.1⟩;rw[fp,hw];simp
  · have h4:D.ar=false∨0<D.lf:=by
     have:=h.lf;cases q:D.ar
     · exact .inl rfl
     · right
       have:D.lf≠0:=λe=>hc ⟨q,e⟩
       omega
    have hw:=ny (D:=D) (at':=at') (bs:=s) (by omega) (by omega) hd h4;obtain⟨m,D',a1,a2,a3,a4,a5,a6,a7,a8,a9⟩:=vE ss (at'+1) (wz D at' s) (wU h (by omega) h4) (wV hi (by omega)) rfl (by omega) (by omega) (λx hx=>hs x (by simp[hx]));refine⟨m+1,D',by simp;omega,?_,a3,a4,a5.trans rfl,?_,by rw[a7];simp,a8.trans rfl,λq=>by rw[a9 q];rfl⟩
    · rw[fp,hw]
      simp only[if_true,a2,ah,Nat.add_right_cancel_iff]
    · rw[a6]
      simp only[wz,List.take_succ_cons,p8,IL hs1,aI,ql,bG]
theorem Shows.append{rd:Int→il}{at':Int}{a b:List il}(h:Shows rd at' a)(g:Shows rd (at'+a.length) b):Shows rd at' (a++b):=λj hj=>by
 by_cases q:j<a.length
 · rw[R8 q];exact h j q
 · rw[Rf (by omega),←g (j-a.length) (by rw[ac]at hj;omega)]
   congr 1;omega
theorem Am(s:fA)(l:List il)(at' j:Int): ∀k,k≤l.length→jb s (p8 at' l) j k=if at'≤j∧j<at'+k then l.getD (j-at').toNat zs else fu s j
 |0,_=>by rw[if_neg (by omega)];rfl
 |k+1,hk=>by
  rw[jb,tt l at' k (by omega),Am s l at' j k (by omega)]
  by_cases q:at'+k=j
  · rw[if_pos q,if_pos (by omega),show(j-at').toNat=k by omega]
    simp[List.getD_eq_getElem?_getD,show k<l.length by omega]
  · rw[if_neg q]
    by_cases q2:at'≤j∧j<at'+k
    · rw[if_pos q2,if_pos (by omega)]
    · rw[if_neg q2,if_neg (by omega)]
structure Half(D:DS)(ls:List (List UInt8))(bs:List UInt8):Prop where
 ok:D.Ok
 inn:Wal.DS.In D
 short: ∀b∈ls,b.length≤3000
 short':bs.length≤3000
 room:cG ls+bc bs.length≤2048
 shows:Shows (fu D.s) 0 (gX 0 ls)
 zero: ∀j,((cG ls:Nat):Int)≤j→fu D.s j=zs
 ws: ∃m,m≤bc bs.length∧D.ws=p8 ((cG ls:Nat):Int) ((bl ((ls.length+1:Nat):Int) bs).take m)
theorem LogD.rds{D:DS}{ls:List (List UInt8)}(h:LogD D ls)(j:Int):D.read j=fu D.s j:=by rw[DS.read,h.ws];rfl
theorem Kv{D:DS}{ls:List (List UInt8)}{bs:List UInt8}(h:LogD D ls)(hd:D.dn=false)(hb:bs.length≤3000):
 (2048<cG ls+bc bs.length∧lu D ls.length ((cG ls:Nat):Int) bs=⟨3,ls.length,((cG ls:Nat):Int),D⟩)∨
 (cG ls+bc bs.length≤2048∧∃D',lu D ls.length ((cG ls:Nat):Int) bs=⟨0,ls.length+1,((cG (ls++[bs]):Nat):Int),D'⟩∧LogD D' (ls++[bs])∧D'.dn=false∧D'.ar=D.ar)∨
 (D.ar=true∧∃D',lu D ls.length ((cG ls:Nat):Int) bs=⟨4,ls.length,((cG ls:Nat):Int),D'⟩∧Half D' ls bs):=by
 have hl:=h.len;have hp:=pD hb
 by_cases hr:2048<cG ls+bc bs.length
 · exact .inl ⟨hr,DP (by omega) (by omega)⟩
 · right
   have hss:(bl ((ls.length+1:Nat):Int) bs).length=bc bs.length:=cE _ _;obtain⟨m,D',a1,a2,a3,a4,a5,a6,a7,a8,a9⟩:=vE (bl ((ls.length+1:Nat):Int) bs) ((cG ls:Nat):Int) D h.ok h.inn hd (by omega) (by rw[hss];omega) (m6 _ _);rw[hss]at a1 a2 a7 a9;rw[h.ws,bG]at a6
   by_cases hm:m=bc bs.length
   · left
     subst hm;rw[if_pos rfl]at a2;have hdn:D'.dn=false:=by rw[a7];simp
     obtain⟨s1,s2,s3,s4,s5⟩:=nu hdn;rw[az (by rw[hss];exact aH _)]at a6
     have hrd: ∀j,D'.sync.2.read j=if((cG ls:Nat):Int)≤j∧j< ((cG ls:Nat):Int)+bc bs.length then(bl ((ls.length+1:Nat):Int) bs).getD (j- ((cG ls:Nat):Int)).toNat zs else D.read j:=λj=>by
      rw[uV hdn,DS.read,a6,w7,Am _ _ _ _ _ (aH _),hss,a5,h.rds]
     have hsz:=uX ls bs;refine⟨by omega,D'.sync.2,?_,⟨QU a3,wS a4,s2,λb hb'=>?_,by omega,?_,λj hj=>?_⟩,s3,s4.trans a8⟩
     · rw[put_ok (by omega) (by omega) a2 s1,hsz]
       simp only[PutR.mk.injEq,true_and,and_true];omega
     · rcases bP.1 hb' with hb'|hb'
       · exact h.short b hb'
       · simp only[cm]at hb';subst hb';exact hb
     · rw[nd]
       refine Shows.append (λj hj=>?_) λj hj=>?_
       · rw[hrd,if_neg (by simp only[cG];omega)];exact h.shows j hj
       · simp only[gX,aL,bi]at hj ⊢
         rw[hrd,if_pos (by simp only[cG];rw[hss]at hj;omega),show(0+(((gX 0 ls).length:Nat):Int)+(j:Int)- ((cG ls:Nat):Int)).toNat=j by simp only[cG];omega];rw[List.getD_eq_getElem?_getD,List.getElem?_eq_getElem hj];rfl
     · rw[hrd,if_neg (by omega)]
       exact h.zero j (by omega)
   · right
     have har:D.ar=true:=by
      cases q:D.ar
      · exact absurd (a9 q) hm
      · rfl
     rw[if_neg hm]at a2;refine⟨har,D',Aq (by omega) (by omega) a2 (by decide),⟨a3,a4,h.short,hb,by omega,λj hj=>?_,λj hj=>?_,m,a1,a6⟩⟩
     · rw[a5,←h.rds];exact h.shows j hj
     · rw[a5,←h.rds];exact h.zero j hj
theorem LogD.crash{D:DS}{ls:List (List UInt8)}(h:LogD D ls)(mask torn n:Int):LogD (D.crash mask torn n) ls∧(D.crash mask torn n).ar=false∧(D.crash mask torn n).dn=false:=by
 have hs:(D.crash mask torn n).s=D.s:=by simp only[DS.crash,h.ws];rfl
 have hr: ∀j,(D.crash mask torn n).read j=D.read j:=λj=>by rw[h.rds];show fu (D.crash mask torn n).s j=_;rw[hs]
 have c:=QY h.ok h.inn mask torn n;exact⟨⟨c.ok,c.inn,rfl,h.short,h.room,λj hj=>by rw[hr];exact h.shows j hj,λj hj=>by rw[hr];exact h.zero j hj⟩,rfl,rfl⟩
theorem sX(mask torn:Int)(c:Nat)(s:fA)(l:List il)(at' j:Int): ∀k,k≤l.length→fu (gQ mask torn c s (p8 at' l) k) j=fu s j∨∃(i:Nat) (h:i<l.length),j=at'+i∧(fu (gQ mask torn c s (p8 at' l) k) j=l[i]∨fu (gQ mask torn c s (p8 at' l) k) j=lN (fu s j) l[i] c)
 |0,_=> .inl rfl
 |k+1,hk=>by
  have ih:=sX mask torn c s l at' j k (by omega);simp only[gQ,j0,tt l at' k (show k<l.length by omega)]
  by_cases q:j=at'+k
  · have ih2:fu (gQ mask torn c s (p8 at' l) k) (at'+k)=fu s j:=by
     subst q
     have: ∀m,m≤k→fu (gQ mask torn c s (p8 at' l) m) (at'+k)=fu s (at'+k):=by
      intro m
      induction m with
      |zero=>intro _;rfl
      |succ m ihm=>
       intro hm;simp only[gQ,j0,tt l at' m (show m<l.length by omega)];split
       · rw[ll,if_neg (by omega)];exact ihm (by omega)
       · split
         · rw[ll,if_neg (by omega)];exact ihm (by omega)
         · exact ihm (by omega)
     exact this k (aH _)
    split
    · right
      refine⟨k,by omega,q, .inr ?_⟩;rw[ll,if_pos q,ih2]
    · split
      · right
        refine⟨k,by omega,q, .inl ?_⟩;rw[ll,if_pos q]
      · exact ih
  · split
    · rw[ll,if_neg q];exact ih
    · split
      · rw[ll,if_neg q];exact ih
      · exact ih
theorem JX{new:il}{c:Nat}(hn:new.length=64)(hc:c≤64):lN zs new c=new∨(lN zs new c).getD 63 0≠1:=by
 by_cases h:c=64
 · left;subst h
   simp only[lN];rw[az (by omega),ct (by decide),aL]
 · right
   simp only[lN,List.getD_eq_getElem?_getD];rw[List.getElem?_append_right (by rw[aZ];omega),aZ,Nat.min_eq_left (by omega),List.getElem?_drop,show c+(63-c)=63 by omega];decide
def QP(rd:Int→il)(ls:List (List UInt8))(bs:List UInt8):Prop:=∀j,((cG ls:Nat):Int)≤j→rd j=zs∨(∃(i:Nat) (h:i< (bl ((ls.length+1:Nat):Int) bs).length),j=((cG ls:Nat):Int)+i∧rd j=(bl ((ls.length+1:Nat):Int) bs)[i])∨(rd j).getD 63 0≠1
theorem Half.crash{D:DS}{ls:List (List UInt8)}{bs:List UInt8}(h:Half D ls bs)(mask torn n:Int):Calm (D.crash mask torn n)∧Shows (D.crash mask torn n).read 0 (gX 0 ls)∧QP (D.crash mask torn n).read ls bs:=by
 obtain⟨m,hm,hws⟩:=h.ws;have hss:(bl ((ls.length+1:Nat):Int) bs).length=bc bs.length:=cE _ _
 have hr: ∀j,(D.crash mask torn n).read j=fu (gQ mask torn (ni n) D.s (p8 ((cG ls:Nat):Int) ((bl ((ls.length+1:Nat):Int) bs).take m)) ((bl ((ls.length+1:Nat):Int) bs).take m).length) j:=λj=>by
  show fu (gQ mask torn (ni n) D.s D.ws D.ws.length) j=_;rw[hws,w7]
 refine⟨QY h.ok h.inn _ _ _,λj hj=>?_,λj hj=>?_⟩
 · rw[hr]
   rcases sX mask torn (ni n) D.s ((bl ((ls.length+1:Nat):Int) bs).take m) ((cG ls:Nat):Int) (0+j) _ (aH _)with e| ⟨i,hi,e,_⟩
   · rw[e];exact h.shows j hj
   · simp only[cG]at e;omega
 · rw[hr]
   rcases sX mask torn (ni n) D.s ((bl ((ls.length+1:Nat):Int) bs).take m) ((cG ls:Nat):Int) j _ (aH _)with e| ⟨i,hi,e,e2|e2⟩
   · left;rw[e];exact h.zero j hj
   · right;left
     refine⟨i,by rw[aZ]at hi;omega,e,?_⟩;rw[e2,List.getElem_take]
   · right
     rw[h.zero j hj,List.getElem_take]at e2;have hi2:i< (bl ((ls.length+1:Nat):Int) bs).length:=by rw[aZ]at hi;omega
     rcases JX (new:=(bl ((ls.length+1:Nat):Int) bs)[i]) (c:=ni n) (m6 _ _ _ (df _)) (nh n)with q|q
     · left;exact⟨i,hi2,e,by rw[e2,q]⟩
     · right;rw[e2];exact q
end Wal
end

section
namespace Go.Proofs.YtfocodjhmkokpaaGreatDoor
open Go Leg Codec Api
theorem Fw(wb b off cap:Nat)(v:Value)(bs:List UInt8)(l:List Int)(cs:List Value)(T:TypeId)(z:Nat×Nat)(hlen:bs.length+10*l.length≤140737488355328)(hb: ∀j,j<l.length→cs[off+j]?=some (.int .i64 (l.getD j 0))):
 DT 174 #[(.pointer (some ⟨wb,0,none⟩)),(.slice (some ⟨b,off,none⟩) (l.length) (cap))] (λF=>F b=some (.cells cs.toArray T z)) [ak wb [v] 247,cw v (bs) 5] (rm 247 5 wb (bs++bn l)):=by
 refine BD 45 Tryz.func174 rfl rfl rfl λw0 F hF=>sr λ_ J1=>PS ?_
 refine nx J1 (aa λ_ J2=>sr λ_ J3=>PS ?_);refine tp (n4 rfl jx rfl) ?_;refine PS ?_;refine nx J3 (av ?_)
 refine bz (α:=(Nat)×(Value)×(List UInt8)) (λ⟨k,u,laid⟩=>k≤l.length∧laid++bn (l.drop k)=bs++bn l) (λ⟨k,u,laid⟩=>[(0,(.pointer (some ⟨wb,0,none⟩))),(4,(.pointer none)),(8,(.slice (some ⟨b,off,none⟩) (l.length) (cap))),(9,(.int .i64 (((l.length:Nat):Int)))),(10,(.int .i64 ((k:Nat))))]) (λ⟨k,u,laid⟩=>[ak wb [u] 247,cw u (laid) 5]) (λ⟨k,u,laid⟩=>l.length-k) (0,v,bs)
  ⟨by omega,rfl⟩ SB
  (λ_ s=>s) (λ⟨k,u,laid⟩ hinv=>?_)
 obtain⟨hk,hL⟩:=hinv;refine sr λ_ J4=>PS ?_
 refine aq ?_ ?_<;>intro h11;refine nx J4 (aa λ_ J5=>CY (qx J5 (aa λ_ J6=>av (sr λ_ J7=>tp (j6 (r:=off+k) rfl jx aR rfl rfl (by first|omega|decide) (by first|omega|decide) (by omega)) ?_))));refine tp (ic (v:=(.int .i64 ((l.getD k 0)))) rfl Y3 rfl rfl (Rd.ro hF) (hb k (by omega))) ?_;refine PS ?_;refine nx J7 (sr λ_ J8=>PS ?_);refine tp (eh (r:=((((l.getD k 0%18446744073709551616).toNat:Nat)):Int)) rfl Y3 Nj rfl (Bg _)) ?_;refine PS ?_;refine nx J8 (aa λ_ J9=>av ?_)
 refine bz (α:=(Nat)×(Value)×(List UInt8)) (λ⟨m,u2,laid2⟩=>laid2++(vn m++bn (l.drop (k+1)))=bs++bn l) (λ⟨m,u2,laid2⟩=>[(0,(.pointer (some ⟨wb,0,none⟩))),(4,(.pointer none)),(7,(.int .u64 ((m:Nat)))),(8,(.slice (some ⟨b,off,none⟩) (l.length) (cap))),(9,(.int .i64 (((l.length:Nat):Int)))),(10,(.int .i64 ((k:Nat))))]) (λ⟨m,u2,laid2⟩=>[ak wb [u2] 247,cw u2 (laid2) 5]) (λ⟨m,u2,laid2⟩=>m) ((l.getD k 0%18446744073709551616).toNat,u,laid)
  (by rw[←hL,Jm (l:=l) (k:=k) (by omega)];rfl) SB
  (λ_ s=>s) (λ⟨m,u2,laid2⟩ hinv=>?_)
 have hM:=hinv;refine aa λ_ J10=>sr λ_ J11=>P2 ?_
 refine aq ?_ ?_<;>intro h17;refine nx J11 (CY (qx J10 (av (sr λ_ J12=>P3 ?_))));refine FA 0 L0 ld ?_;refine LA 0 gA ?_;refine PS ?_;refine tp (eh (r:=(IntKind.u8.wrap ((m:Nat):Int))) rfl Nj Y5 rfl rfl) ?_;refine tp (L2 (r:=(((UInt8.ofNat (m%128+128)).toNat:Nat):Int)) rfl rfl rfl (Pp m)) ?_;refine aT (cells:=#[(.int .u8 ((((UInt8.ofNat (m%128+128)).toNat:Nat):Int)))]) (ab rfl) rfl rfl rfl gA yA rfl rfl rfl (by as_aux_lemma=>kernel_rfl) (λb26=>cF (k:=2) (news:=dL ([(UInt8.ofNat (m%128+128))])) (nn':=(laid2++[(UInt8.ofNat (m%128+128))]:List UInt8).length) (xs':=dL (laid2++[(UInt8.ofNat (m%128+128))])) (ab rfl) rfl rfl rfl gA yA rfl rfl rfl rfl rfl rfl (λ_ _=>jB rfl (RO 0) rfl) (e6 [(UInt8.ofNat (m%128+128))]) (by have:=congrArg List.length hM;have:=aY l;have:=rf m;simp only[ac,maxLen]at*;omega) (by have:=congrArg List.length hM;have:=aY l;have:=rf m;simp only[ac]at*;omega) (by simp) (iO _ _).symm (λv27 ov27=>PS ?_));refine FA 0 L0 ld ?_;refine bF (i:=1) (ab rfl) rfl rfl rfl rfl ov27 ld rfl rfl (lb rfl) rfl rfl (nx J12 (af (PS ?_)));refine tp (mB (r:=((m / 128:Nat):Int)) rfl rfl rfl (by omega) (Rl m)) ?_;refine PS ?_;refine ax (ai ?_)
 exact aM ((m / 128,v27,laid2++[(UInt8.ofNat (m%128+128))]):(Nat)×(Value)×(List UInt8)) (by rw[←hM,pL (by omega)];simp) (by show m / 128<m;omega)
  SB
  (λ_ s=>an [1,1] rfl s)
 refine nx J11 (CN (aX (aC (aC (bq (ae J9 (af (P3 ?_))))))));refine FA 0 L0 ld ?_;refine LA 0 gA ?_;refine PS ?_;refine tp (eh (r:=(((UInt8.ofNat m).toNat:Nat):Int)) rfl Nj Y5 rfl (Nc (by omega))) ?_;refine aT (cells:=#[(.int .u8 ((((UInt8.ofNat m).toNat:Nat):Int)))]) (ab rfl) rfl rfl rfl gA yA rfl rfl rfl (by as_aux_lemma=>kernel_rfl) (λb39=>cF (k:=2) (news:=dL ([(UInt8.ofNat m)])) (nn':=(laid2++[(UInt8.ofNat m)]:List UInt8).length) (xs':=dL (laid2++[(UInt8.ofNat m)])) (ab rfl) rfl rfl rfl gA yA rfl rfl rfl rfl rfl rfl (λ_ _=>jB rfl (RO 0) rfl) (e6 [(UInt8.ofNat m)]) (by have:=congrArg List.length hM;have:=aY l;have:=rf m;simp only[ac,maxLen]at*;omega) (by have:=congrArg List.length hM;have:=aY l;have:=rf m;simp only[ac]at*;omega) (by simp) (iO _ _).symm (λv40 ov40=>PS ?_));refine FA 0 L0 ld ?_;refine bF (i:=1) (ab rfl) rfl rfl rfl rfl ov40 ld rfl rfl (lb rfl) rfl rfl (ax (ai (ae J6 (af (AD ?_)))));refine PS ?_;refine ax ?_
 exact aM ((k+1,v40,laid2++[(UInt8.ofNat m)]):(Nat)×(Value)×(List UInt8)) ⟨by omega,by rw[←hM,om (by omega)];simp⟩ (by show _-_<_-_;omega)
  SB
  (λ_ s=>an [1,1] rfl s)
 refine nx J4 (aa λ_ J13=>CN (aX (aC (aC (bq (ae J2 (sr λ_ J14=>P2 ?_)))))));refine nx J14 (aj (WK [0,0] (aw rfl rfl ?_)));obtain rfl:laid=bs++bn l:=by rw[←hL,fl (by omega)];simp[bn]
 exact⟨u,rfl,rfl⟩
theorem JN(wb:Nat)(v:Value)(bs:List UInt8):
 DT 174 #[(.pointer (some ⟨wb,0,none⟩)),(.slice none 0 0)] T0 [ak wb [v] 247,cw v (bs) 5] (rm 247 5 wb (bs++bn [])):=by
 refine BD 45 Tryz.func174 rfl rfl rfl λw0 F hF=>sr λ_ J1=>PS ?_
 refine nx J1 (aa λ_ J2=>sr λ_ J3=>PS ?_);refine tp (n4 rfl jx rfl) ?_;refine PS ?_;refine nx J3 (av ?_)
 refine bz (α:=Unit) (λ_u=>True) (λ_u=>[(0,(.pointer (some ⟨wb,0,none⟩))),(4,(.pointer none)),(8,(.slice none 0 0)),(9,(.int .i64 0)),(10,(.int .i64 0))]) (λ_u=>[ak wb [v] 247,cw v (bs) 5]) (λ_u=>0) ()
  trivial SB
  (λ_ s=>s) (λ_u hinv=>?_)
 obtain _:=hinv;refine sr λ_ J4=>PS ?_
 refine nx J4 (aa λ_ J5=>CN (aX (aC (aC (bq (ae J2 (sr λ_ J6=>P2 ?_)))))));refine nx J6 (aj (aw rfl rfl ?_));exact⟨v,rfl,by rw[Ew,aL]⟩
theorem dZ(wb:Nat)(v:Value)(bs:List UInt8)(x:Value)(l:List Int)(hlen:bs.length+10*l.length≤140737488355328):DT 174 #[(.pointer (some ⟨wb,0,none⟩)),x] (R9 x l) [ak wb [v] 247,cw v bs 5] (rm 247 5 wb (bs++bn l)):=by
 refine Leg.Does.of λF hF=>?_
 rcases id hF with⟨rfl,rfl⟩| ⟨b,off,cap,cs,T,z,rfl,h3,h4⟩
 · exact⟨_,trivial,JN wb v bs⟩
 · exact⟨_,h3,Fw wb b off cap v bs l cs T z hlen h4⟩
theorem ey(wb:Nat)(v:Value)(bs:List UInt8)(hlen:bs.length≤140737488355328):
 DT 179 #[(.pointer (some ⟨wb,0,none⟩))] T0 [ak wb [v] 247,cw v (bs) 5] (dA (λx H=>∃u,x=u∧H=[ak wb [v] 247,cw v bs 5,cw u bs 5])):=by
 refine Leg.Does.body (vs:=[(.pointer (some ⟨wb,0,none⟩))]) (n:=9) Tryz.func179 rfl rfl rfl (λw0 F hF=>?_);refine sr λ_ J1=>?_
 refine qn ?_;refine nx J1 ?_;refine sr λ_ J2=>?_
 refine Fg (ab rfl) rfl rfl rfl gA l5 (λv3=>?_);change TL _ _ _ _ _ _ _ _ _ [cw v3 ([]) 5,ak wb [v] 247,cw v (bs) 5];refine mv ?_;refine tp (gD rfl rfl) ?_;refine tp (bb (r:=0) rfl L0 rfl ld rfl rfl) ?_;refine tp (ic (v:=v) rfl gA rfl rfl (fj 1 rfl rfl) rfl) ?_;refine cF (k:=0) (news:=dL (bs)) (nn':=(bs:List UInt8).length) (xs':=dL (bs)) (ab rfl) rfl rfl rfl gA yA rfl rfl rfl rfl rfl rfl (λ_ s=>Fp 2 rfl rfl s) (e6 _) (by simp only[maxLen,ah,ao];omega) (by simp only[ah,ao];omega) (by simp) (bG _) (λv8 ov8=>?_);change TL _ _ _ _ _ _ _ _ _ [cw v8 (bs) 5,ak wb [v] 247,cw v (bs) 5];refine qn ?_;refine nx J2 ?_;refine aj ?_;refine aF (dH _) (λ_ s=>an [1,1,0] rfl s) ?_;refine aw rfl rfl ?_;exact⟨v8,rfl,rfl⟩
theorem CD(wb:Nat)(v:Value)(bs:List UInt8)(a0 a1 g0 g1 g2 g3 g4:Int)(hlen:bs.length+70≤140737488355328):
 DT 178 #[(.pointer (some ⟨wb,0,none⟩)),(.agg #[(.int .i64 (a0)),(.int .i64 (a1)),(.int .i64 (g0)),(.int .i64 (g1)),(.int .i64 (g2)),(.int .i64 (g3)),(.int .i64 (g4))])] T0 [ak wb [v] 247,cw v (bs) 5] (rm 247 5 wb (bs++bn [a0,a1,g0,g1,g2,g3,g4])):=by
 refine BD 15 Tryz.func178 rfl rfl rfl λw0 F hF=>sr λ_ J1=>XB λb3=>?_
 refine PS ?_;refine nx J1 (aa λ_ J2=>D1 0 mixed ?_);refine PD 0 ?_;refine FD 1 0 eO aR ?_;refine LX 2 Y3 (.int .i64 (a0)) ?_ (hc:=by exact rfl);refine FD 3 1 eO aR ?_;refine LX 4 Y3 (.int .i64 (a1)) ?_ (hc:=by exact rfl);refine FD 7 2 eO e8 ?_;refine ta 8 rfl (mA rfl ke aR rfl) ?_;refine AL 5 ?_;refine aT (cells:=#[(.int .i64 (a0)),(.int .i64 (a1))]) (ab rfl) rfl rfl rfl jx p2 rfl rfl rfl (by as_aux_lemma=>kernel_rfl) (λb10=>EN (AL 6 ?_));refine CQ kp (dZ wb v (bs) (.slice (some ⟨b10,0,none⟩) (2) (2)) [a0,a1] (by simp only[ac,ah,ao,aB];first|omega| (have:=aY [a0,a1];simp only[ah,ao]at this;omega))) (SM [2,2]) (dS 0 rfl rfl rfl rfl) λvR HR hR=>?_
 obtain⟨u1,rfl,rfl⟩:=hR;refine EN (AL 9 ?_);refine CQ kp (dZ wb u1 (bs++bn [a0,a1]) (.slice (some ⟨b3,2,none⟩) (5) (5)) [g0,g1,g2,g3,g4] (by simp only[ac,ah,ao,aB];first|omega| (have:=aY [a0,a1];simp only[ah,ao]at this;omega))) ID (dS 1 rfl rfl rfl rfl) λvR HR hR=>?_
 obtain⟨u2,rfl,rfl⟩:=hR;refine EN (PD 10 ?_);refine DN (ae J2 (aj (WK [0,0] (aw rfl rfl ?_))));exact⟨_,rfl,by rw[aI,←re];rfl⟩
theorem zc(wb:Nat)(v:Value)(bs:List UInt8)(a0 a1 a2:Int)(hlen:bs.length+30≤140737488355328):
 DT 177 #[(.pointer (some ⟨wb,0,none⟩)),(.agg #[(.int .i64 (a0)),(.int .i64 (a1)),(.int .i64 (a2))])] T0 [ak wb [v] 247,cw v (bs) 5] (rm 247 5 wb (bs++bn [a0,a1,a2])):=by
 refine BD 14 Tryz.func177 rfl rfl rfl λw0 F hF=>sr λ_ J1=>XB λb3=>?_
 refine PS ?_;refine nx J1 (sr λ_ J2=>PS ?_);refine FA 0 n5 aR ?_;refine LA 0 Y3 ?_;refine FA 1 n5 aR ?_;refine LA 0 Y3 ?_;refine FA 2 n5 aR ?_;refine LA 0 Y3 ?_;refine aT (cells:=#[(.int .i64 (a0)),(.int .i64 (a1)),(.int .i64 (a2))]) (ab rfl) rfl rfl rfl jx p2 rfl rfl rfl (by as_aux_lemma=>kernel_rfl) (λb12=>CQ kp (dZ wb v (bs) (.slice (some ⟨b12,0,none⟩) (3) (3)) [a0,a1,a2] (by simp only[ac,ah,ao,aB];first|omega| (have:=aY [a0,a1];simp only[ah,ao]at this;omega))) (SM [2,2]) (dS 0 rfl rfl rfl rfl) λvR HR hR=>?_);obtain⟨u1,rfl,rfl⟩:=hR;refine PS ?_;exact nx J2 (aj (WK [0,0] (aw rfl rfl ⟨_,rfl,rfl⟩)))
theorem zd(wb:Nat)(v:Value)(bs:List UInt8)(a0 a1:Int)(hlen:bs.length+20≤140737488355328):
 DT 176 #[(.pointer (some ⟨wb,0,none⟩)),(.agg #[(.int .i64 (a0)),(.int .i64 (a1))])] T0 [ak wb [v] 247,cw v (bs) 5] (rm 247 5 wb (bs++bn [a0,a1])):=by
 refine BD 12 Tryz.func176 rfl rfl rfl λw0 F hF=>sr λ_ J1=>XB λb3=>?_
 refine PS ?_;refine nx J1 (sr λ_ J2=>PS ?_);refine FA 0 kG aR ?_;refine LA 0 Y3 ?_;refine FA 1 kG aR ?_;refine LA 0 Y3 ?_;refine aT (cells:=#[(.int .i64 (a0)),(.int .i64 (a1))]) (ab rfl) rfl rfl rfl jx p2 rfl rfl rfl (by as_aux_lemma=>kernel_rfl) (λb10=>CQ kp (dZ wb v (bs) (.slice (some ⟨b10,0,none⟩) (2) (2)) [a0,a1] (by simp only[ac,ah,ao,aB];first|omega| (have:=aY [a0,a1];simp only[ah,ao]at this;omega))) (SM [2,2]) (dS 0 rfl rfl rfl rfl) λvR HR hR=>?_);obtain⟨u1,rfl,rfl⟩:=hR;refine PS ?_;exact nx J2 (aj (WK [0,0] (aw rfl rfl ⟨_,rfl,rfl⟩)))
theorem CU(wb:Nat)(v:Value)(bs:List UInt8)(a0 a1 g0 g1 g2 g3 g4:Int)(hlen:bs.length+70≤140737488355328):
 DT 191 #[(.pointer (some ⟨wb,0,none⟩)),(.agg #[(.int .i64 (a0)),(.int .i64 (a1)),(.int .i64 (g0)),(.int .i64 (g1)),(.int .i64 (g2)),(.int .i64 (g3)),(.int .i64 (g4))])] T0 [ak wb [v] 247,cw v (bs) 5] (dA (λx H=>∃v',x= .tuple #[]∧H=[ak wb [v'] 247,cw v' (bs++bn [a0,a1,g0,g1,g2,g3,g4]) 5])):=by
 refine BD 14 Tryz.func191 rfl rfl rfl λw0 F hF=>sr λ_ J1=>XB λb3=>?_
 refine nx J1 (D1 0 mixed ?_);refine PD 0 ?_;refine FD 1 0 nw aR ?_;refine LX 2 Y3 (.int .i64 (a0)) ?_ (hc:=by exact rfl);refine FD 3 1 nw aR ?_;refine LX 4 Y3 (.int .i64 (a1)) ?_ (hc:=by exact rfl);refine FD 7 2 nw e8 ?_;refine ta 8 rfl (mA rfl ke aR rfl) ?_;refine AL 5 ?_;refine aT (cells:=#[(.int .i64 (a0)),(.int .i64 (a1))]) (ab rfl) rfl rfl rfl jx p2 rfl rfl rfl (by as_aux_lemma=>kernel_rfl) (λb9=>EN (AL 6 ?_));refine CQ kp (dZ wb v (bs) (.slice (some ⟨b9,0,none⟩) (2) (2)) [a0,a1] (by simp only[ac,ah,ao,aB];first|omega| (have:=aY [a0,a1];simp only[ah,ao]at this;omega))) (SM [2,2]) (dS 0 rfl rfl rfl rfl) λvR HR hR=>?_
 obtain⟨u1,rfl,rfl⟩:=hR;refine EN (AL 9 ?_);refine CQ kp (dZ wb u1 (bs++bn [a0,a1]) (.slice (some ⟨b3,2,none⟩) (5) (5)) [g0,g1,g2,g3,g4] (by simp only[ac,ah,ao,aB];first|omega| (have:=aY [a0,a1];simp only[ah,ao]at this;omega))) ID (dS 1 rfl rfl rfl rfl) λvR HR hR=>?_
 obtain⟨u2,rfl,rfl⟩:=hR;refine EN (DN (WK [0,0] (bC rfl ?_)));exact⟨_,rfl,by rw[aI,←re];rfl⟩
theorem xc(wb:Nat)(v:Value)(bs:List UInt8)(c:CellT)(hlen:bs.length+70≤140737488355328):DT 191 #[(.pointer (some ⟨wb,0,none⟩)),c.val] T0 [ak wb [v] 247,cw v bs 5] (dA (λx H=>∃v',x= .tuple #[]∧H=[ak wb [v'] 247,cw v' (bs++bn c.flat) 5])):=by
 obtain⟨i,o,g⟩:=c;exact Pe (p:=λg=>Leg.Does Tryz.prog 191 #[(.pointer (some ⟨wb,0,none⟩)),CellT.val ⟨i,o,g⟩] (λ_=>True) [ak wb [v] 247,cw v bs 5] (dA (λx H=>∃v',x= .tuple #[]∧H=[ak wb [v'] 247,cw v' (bs++bn (CellT.flat ⟨i,o,g⟩)) 5]))) (λa b c d e=>CU wb v bs i o a b c d e hlen) g
theorem sx(wb:Nat)(v:Value)(bs:List UInt8)(x:ViewT)(hlen:bs.length+70≤140737488355328):DT 178 #[(.pointer (some ⟨wb,0,none⟩)),x.val] T0 [ak wb [v] 247,cw v bs 5] (rm 247 5 wb (bs++bn x.flat)):=by
 obtain⟨i,o,g⟩:=x;exact Pe (p:=λg=>Leg.Does Tryz.prog 178 #[(.pointer (some ⟨wb,0,none⟩)),ViewT.val ⟨i,o,g⟩] (λ_=>True) [ak wb [v] 247,cw v bs 5] (rm 247 5 wb (bs++bn (ViewT.flat ⟨i,o,g⟩)))) (λa b c d e=>CD wb v bs i o a b c d e hlen) g
theorem pp(wb:Nat)(v:Value)(bs:List UInt8)(x:ChangeT)(hlen:bs.length+30≤140737488355328):DT 177 #[(.pointer (some ⟨wb,0,none⟩)),x.val] T0 [ak wb [v] 247,cw v bs 5] (rm 247 5 wb (bs++bn x.flat)):=zc wb v bs x.kind x.who x.heir (by omega)
theorem jV(wb:Nat)(v:Value)(bs:List UInt8)(x:BallotT)(hlen:bs.length+30≤140737488355328):DT 176 #[(.pointer (some ⟨wb,0,none⟩)),x.val] T0 [ak wb [v] 247,cw v bs 5] (rm 247 5 wb (bs++bn x.flat)):=zd wb v bs x.round x.who (by omega)
theorem uJ(wb:Nat)(v:Value)(bs:List UInt8)(x:RowT)(hlen:bs.length+2000≤140737488355328):
 DT 175 #[(.pointer (some ⟨wb,0,none⟩)),(.agg (ints x.flat).toArray)] T0 [ak wb [v] 247,cw v (bs) 5] (rm 247 5 wb (bs++gf x)):=by
 refine BD 50 Tryz.func175 rfl rfl rfl λw0 F hF=>sr λ_ J1=>XY (ints x.flat) λb3=>?_
 refine PS ?_;refine nx J1 (sr λ_ J2=>PS ?_);refine FA 0 ec aR ?_;refine LT 0 Y3 (.int .i64 (x.version)) ?_ (hc:=by exact RowT.get_version _);refine aT (cells:=#[(.int .i64 (x.version))]) (ab rfl) rfl rfl rfl jx p2 rfl rfl rfl (by as_aux_lemma=>kernel_rfl) (λb14=>CQ kp (dZ wb v (bs) (.slice (some ⟨b14,0,none⟩) (1) (1)) [x.version] (by have:=congrArg List.length (Eq.refl bs);have:=iT x;simp only[ac,ah,ao]at*;omega)) (SM [2,2]) (dS 0 rfl rfl rfl rfl) λvR HR hR=>?_);obtain⟨u1,rfl,rfl⟩:=hR;refine nx J2 (aa λ_ J3=>sr λ_ J4=>FA 1 ec ma ?_);refine tp (aP (vs:=ints (bS x.cells.toList)) rfl CB rfl ma rfl (RO 3) (by rw[ints_length,cA];simp) (RowT.get_cells _)) ?_;refine PS ?_;refine nx J4 (av ?_)
 refine bz (α:=(Nat)×(Value)×(List UInt8)) (λ⟨k,u,laid⟩=>k≤4∧laid++(bn (bS (x.cells.toList.drop k))++fg x 5 0)=bs++gf x) (λ⟨k,u,laid⟩=>[(0,(.pointer (some ⟨wb,0,none⟩))),(3,(.pointer (some ⟨b3,0,none⟩))),(4,(.pointer none)),(17,(.agg (ints (bS x.cells.toList)).toArray)),(18,(.int .i64 ((k:Nat))))]) (λ⟨k,u,laid⟩=>[ak b3 (ints x.flat) 39,ak wb [u] 247,cw u (laid) 5]) (λ⟨k,u,laid⟩=>4-k) (0,u1,bs++bn [x.version])
  ⟨by omega,by simp[gf,bn]⟩ SB
  (λ_ s=>an [3,0,0] rfl s) (λ⟨k,u,laid⟩ hinv=>?_)
 obtain⟨hk,hL⟩:=hinv;have hE:=hL;rw[show bn (bS (x.cells.toList.drop k))=bn (bS (x.cells.toList.drop k))from rfl]at hE;refine sr λ_ J5=>PS ?_
 refine aq ?_ ?_<;>intro h19;refine nx J5 (aa λ_ J6=>CY (qx J6 (aa λ_ J7=>av (sr λ_ J8=>tp (PV.indexN (cs:=ints (bS (x.cells.toList))) (r:=k*7) rfl CB nw rfl fN rfl rfl (by omega) (by omega) (by omega) (AN (by simp;omega))) ?_))));refine XA L8 λb6=>?_
 refine bT (vs:=ints ((x.cells.toList)[k]'(by simp;omega)).flat) (cs':=ints ((x.cells.toList)[k]'(by simp;omega)).flat) (i:=0) (ab rfl) rfl rfl rfl rfl rfl (by rw[bu];exact fN) (bw _) rfl rfl (by rw[bu];exact aH _) (gE (by rw[bu];rfl)) rfl (nx J8 (af (PS ?_)));refine tp (aP (vs:=ints ((x.cells.toList)[k]'(by simp;omega)).flat) rfl nw rfl fN rfl (RO 0) (bu _) (by rw[ba,az (by rw[bu];decide)])) ?_;refine CR Nz (xc wb u (laid) ((x.cells.toList)[k]'(by simp;omega)) (by have:=congrArg List.length hE;have:=iT x;have:=aY ((x.cells.toList)[k]'(by simp;omega)).flat;rw[bD]at this;simp only[ac]at*;omega)) (SM [2,2]) λvR HR hR=>?_
 obtain⟨u2,rfl,rfl⟩:=hR;refine ax (ai (ae J7 (af (AD ?_))));refine PS ?_;refine ax ?_
 exact aM ((k+1,u2,laid++bn ((x.cells.toList)[k]'(by simp;omega)).flat):(Nat)×(Value)×(List UInt8)) ⟨by omega,by rw[←hL,pK (l:=x.cells.toList) (k:=k) (by simp;omega)];simp⟩ (by show _-_<_-_;omega)
  SB
  (λ_ s=>an [3,0,0] rfl s)
 refine nx J5 (aa λ_ J9=>CN (aX (aC (aC (bq (ae J3 (aa λ_ J10=>sr λ_ J11=>FA 29 ec e8 ?_)))))));refine tp (aP (vs:=ints x.heir.toList) rfl ke rfl e8 rfl (RO 0) (by rw[ints_length];simp) (RowT.get_heirs _)) ?_;refine PS ?_;refine nx J11 (av ?_)
 refine bz (α:=(Nat)×(Value)×(List UInt8)) (λ⟨i,u,laid⟩=>i≤5∧laid++fg x (5-i) i=bs++gf x) (λ⟨i,u,laid⟩=>[(0,(.pointer (some ⟨wb,0,none⟩))),(3,(.pointer (some ⟨b3,0,none⟩))),(4,(.pointer none)),(26,(.agg (ints x.heir.toList).toArray)),(27,(.int .i64 ((i:Nat))))]) (λ⟨i,u,laid⟩=>[ak b3 (ints x.flat) 39,ak wb [u] 247,cw u (laid) 5]) (λ⟨i,u,laid⟩=>5-i) (0,u,laid)
  ⟨by omega,by rw[←hL,fl (by simp;omega)];simp[bS,bn]⟩ SB
  (λ_ s=>an [0,0,0] rfl s) (λ⟨i,u,laid⟩ hinv=>?_)
 obtain⟨hi,hL⟩:=hinv;have hE:=hL;refine sr λ_ J12=>PS ?_
 refine aq ?_ ?_<;>intro h28;refine nx J12 (aa λ_ J13=>CY (qx J13 (aa λ_ J14=>av (sr λ_ J15=>PS ?_))));refine tp (mM (cs:=ints x.heir.toList) (v:= .int .i64 (x.heir[i]'(by omega))) (r:=i) rfl ke Y3 rfl aR rfl rfl (by omega) (by omega) (by omega) (by rw[ints_get _ _ (by simp;omega)];simp[List.getD_eq_getElem?_getD,show i<5 by omega])) ?_;refine P2 ?_;refine nx J15 (sr λ_ J16=>P2 ?_);refine aT (cells:=#[(.int .i64 (x.heir[i]'(by omega)))]) (ab rfl) rfl rfl rfl jx p2 rfl rfl rfl (by as_aux_lemma=>kernel_rfl) (λb33=>CQ kp (dZ wb u (laid) (.slice (some ⟨b33,0,none⟩) (1) (1)) [x.heir[i]'(by omega)] (by have:=congrArg List.length hE;have:=iT x;simp only[ac,ah,ao]at*;omega)) (SM [2,2]) (dS 0 rfl rfl rfl rfl) λvR HR hR=>?_);obtain⟨u2,rfl,rfl⟩:=hR;refine nx J16 (sr λ_ J17=>P2 ?_);refine aq ?_ ?_<;>intro h36;refine nx J17 (CY (sr λ_ J18=>PS ?_));refine FA 34 ec C9 ?_;refine IX (34+i*28) N2 ma ?_;refine tp (aP (vs:=ints (bS (x.left[i]'(by omega)).toList)) rfl CB rfl ma rfl (RO 3) (by rw[ints_length,cA];simp) (RowT.get_left _ i (by omega))) ?_;refine PS ?_;refine nx J18 (av ?_)
 refine bz (α:=(Nat)×(Value)×(List UInt8)) (λ⟨k,u3,laid3⟩=>k≤4∧laid3++(bn (bS ((x.left[i]'(by omega)).toList.drop k))++fg x (5- (i+1)) (i+1))=bs++gf x) (λ⟨k,u3,laid3⟩=>[(0,(.pointer (some ⟨wb,0,none⟩))),(3,(.pointer (some ⟨b3,0,none⟩))),(4,(.pointer none)),(26,(.agg (ints x.heir.toList).toArray)),(27,(.int .i64 ((i:Nat)))),(40,(.agg (ints (bS (x.left[i]'(by omega)).toList)).toArray)),(41,(.int .i64 ((k:Nat))))]) (λ⟨k,u3,laid3⟩=>[ak b3 (ints x.flat) 39,ak wb [u3] 247,cw u3 (laid3) 5]) (λ⟨k,u3,laid3⟩=>4-k) (0,u2,laid++bn [x.heir[i]'(by omega)])
  ⟨by omega,by rw[←hL,si (i:=i) (by omega),if_pos h36];simp[bn]⟩ SB
  (λ_ s=>an [3,0,0] rfl s) (λ⟨k,u3,laid3⟩ hinv=>?_)
 obtain⟨hk,hM⟩:=hinv;have hE:=hM;refine sr λ_ J19=>PS ?_
 refine aq ?_ ?_<;>intro h42;refine nx J19 (aa λ_ J20=>CY (qx J20 (aa λ_ J21=>av (sr λ_ J22=>tp (PV.indexN (cs:=ints (bS ((x.left[i]'(by omega)).toList))) (r:=k*7) rfl CB nw rfl fN rfl rfl (by omega) (by omega) (by omega) (AN (by simp;omega))) ?_))));refine XA L8 λb10=>?_
 refine bT (vs:=ints (((x.left[i]'(by omega)).toList)[k]'(by simp;omega)).flat) (cs':=ints (((x.left[i]'(by omega)).toList)[k]'(by simp;omega)).flat) (i:=0) (ab rfl) rfl rfl rfl rfl rfl (by rw[bu];exact fN) (bw _) rfl rfl (by rw[bu];exact aH _) (gE (by rw[bu];rfl)) rfl (nx J22 (af (PS ?_)));refine tp (aP (vs:=ints (((x.left[i]'(by omega)).toList)[k]'(by simp;omega)).flat) rfl nw rfl fN rfl (RO 0) (bu _) (by rw[ba,az (by rw[bu];decide)])) ?_;refine CR Nz (xc wb u3 (laid3) (((x.left[i]'(by omega)).toList)[k]'(by simp;omega)) (by have:=congrArg List.length hE;have:=iT x;have:=aY (((x.left[i]'(by omega)).toList)[k]'(by simp;omega)).flat;rw[bD]at this;simp only[ac]at*;omega)) (SM [2,2]) λvR HR hR=>?_
 obtain⟨u3,rfl,rfl⟩:=hR;refine ax (ai (ae J21 (af (AD ?_))));refine PS ?_;refine ax ?_
 exact aM ((k+1,u3,laid3++bn (((x.left[i]'(by omega)).toList)[k]'(by simp;omega)).flat):(Nat)×(Value)×(List UInt8)) ⟨by omega,by rw[←hM,pK (l:=(x.left[i]'(by omega)).toList) (k:=k) (by simp;omega)];simp⟩ (by show _-_<_-_;omega)
  SB
  (λ_ s=>an [3,0,0] rfl s)
 refine nx J19 (aa λ_ J23=>CN (aX (aC (aC (bq (ai (ae J14 (af (AD ?_)))))))));refine PS ?_;refine ax ?_
 exact aM ((i+1,u3,laid3):(Nat)×(Value)×(List UInt8)) ⟨by omega,by rw[←hM,fl (by simp;omega)];simp[bS,bn]⟩ (by show _-_<_-_;omega)
  SB
  (λ_ s=>an [0,0,0] rfl s)
 refine nx J17 (CN (aV (ai (ae J14 (af (AD ?_))))));refine PS ?_;refine ax ?_
 exact aM ((i+1,u2,laid++bn [x.heir[i]'(by omega)]):(Nat)×(Value)×(List UInt8)) ⟨by omega,by rw[←hL,si (i:=i) (by omega),if_neg h36];simp[bn]⟩ (by show _-_<_-_;omega)
  SB
  (λ_ s=>an [3,0,0] rfl s)
 refine nx J12 (aa λ_ J24=>CN (aX (aC (aC (bq (ae J10 (sr λ_ J25=>P2 ?_)))))));refine nx J25 (aj (WK [1,1] (aw rfl rfl ?_)));obtain rfl:laid=bs++gf x:=by rw[←hL,show 5-i=0 by omega];simp[fg]
 exact⟨u,rfl,rfl⟩
theorem Ex(m:MsgT):
 DT 217 #[(.agg (ints m.flat).toArray)] T0 [] (dA (λr' H=>∃u,r'=u∧H=[cw u (dy m) 5])):=by
 refine BD 100 Tryz.func217 rfl rfl rfl λw0 F hF=>sr λ_ J1=>XY (ints m.flat) λb1=>?_
 refine PS ?_;refine nx J1 (sr λ_ J2=>XA Pc λb4=>?_);refine TL.ownNil 5 (λon=>?_);clear on;refine PS ?_;refine nx J2 (aa λ_ J3=>sr λ_ J4=>FA 0 bj aR ?_);refine LU 2 Y3 (eZ m rfl) ?_;refine nx J4 (av (aa λ_ J5=>e7 (α:=Unit) (λ_u=>True) (λ_u=>[(1,(.pointer (some ⟨b1,0,none⟩))),(2,(.slice none 0 0)),(3,(.pointer (some ⟨b4,0,none⟩))),(6,(.int .i64 (m.kind))),(7,(.bool ((eF m.kind))))]) (λ_u=>[cw (.slice none 0 0) ([]) 5,ak b4 [(.slice none 0 0)] 247,ak b1 (ints m.flat) 163]) (λ_u hinv=>?_) (λtl5=>?_)));have _:=hinv;refine ae J5 (TC.cond rfl (λh7=>?_) (λh7=>?_));refine D1 2 mixed ?_;refine PD 0 ?_;refine FD 1 0 bj aR ?_;refine LR 2 Y3 (eZ m rfl) ?_;refine FD 3 1 bj aR ?_;refine LR 4 Y3 (cv m rfl) ?_;refine FD 7 2 bj bg ?_;refine ta 8 rfl (aP (vs:=ints m.row.flat) rfl ec rfl bg rfl (λ_ h=>h.2.1) (am m.row) (mO m 0 rfl (by decide) (whole (am m.row)))) ?_;refine AL 5 ?_;refine aT (cells:=#[(.int .i64 (m.kind)),(.int .i64 (m.whose))]) (ab rfl) rfl rfl rfl jx p2 rfl rfl rfl (by as_aux_lemma=>kernel_rfl) (λb16=>EN (AL 6 ?_));refine CQ kp (dZ b4 (.slice none 0 0) ([]) (.slice (some ⟨b16,0,none⟩) (2) (2)) [m.kind,m.whose] (by simp)) (SM [2,1]) (dS 0 rfl rfl rfl rfl) λvR HR hR=>?_
 obtain⟨u1,rfl,rfl⟩:=hR;refine EN (AL 9 ?_);refine CR KN (uJ b4 u1 (bn [m.kind,m.whose]) m.row (by(have:=aY [m.kind,m.whose]);simp only[BallotT.flat,ViewT.flat,ChangeT.flat,ah,ao,aB,ac]at*;omega)) ID λvR HR hR=>?_
 obtain⟨u2,rfl,rfl⟩:=hR;refine EN (DN (ai (ae J3 (sr λ_ J6=>PS ?_))));refine CR nM (ey b4 u2 (bn [m.kind,m.whose]++gf m.row) (by(have:=aY [m.kind,m.whose]);(have:=iT m.row);simp only[BallotT.flat,ViewT.flat,ChangeT.flat,ah,ao,aB,ac]at*;omega)) ID λvR HR hR=>?_
 obtain⟨_,rfl,rfl⟩:=hR;revert vR;intro u3;refine PS ?_;refine nx J6 (aj (WK [2] (aw rfl rfl ?_)));exact⟨_,rfl,congrArg (λb=>[cw u3 b 5]) (show(bn [m.kind,m.whose]++gf m.row)=dy m by simp[dy,bn, *])⟩;refine sr λ_ J7=>PS ?_
 refine aq ?_ ?_<;>intro h22;refine PS ?_;refine nx J7 (CY (af (PS ?_)));refine FA 0 bj aR ?_;refine LU 2 Y3 (eZ m rfl) ?_;refine FA 176 bj aR ?_;refine LU 2 Y3 (MsgT.at_version m rfl) ?_;refine aT (cells:=#[(.int .i64 (m.kind)),(.int .i64 (m.version))]) (ab rfl) rfl rfl rfl jx p2 rfl rfl rfl (by as_aux_lemma=>kernel_rfl) (λb28=>CQ kp (dZ b4 (.slice none 0 0) ([]) (.slice (some ⟨b28,0,none⟩) (2) (2)) [m.kind,m.version] (by simp)) (SM [2,1]) (dS 0 rfl rfl rfl rfl) λvR HR hR=>?_);obtain⟨u1,rfl,rfl⟩:=hR;refine ax (ai (ae J3 (sr λ_ J8=>PS ?_)));refine CR nM (ey b4 u1 (bn [m.kind,m.version]) (by(have:=aY [m.kind,m.version]);simp only[BallotT.flat,ViewT.flat,ChangeT.flat,ah,ao,aB,ac]at*;omega)) ID λvR HR hR=>?_
 obtain⟨_,rfl,rfl⟩:=hR;revert vR;intro u2;refine PS ?_;refine nx J8 (aj (WK [2] (aw rfl rfl ?_)));exact⟨_,rfl,congrArg (λb=>[cw u2 b 5]) (show(bn [m.kind,m.version])=dy m by simp[dy,eF,fa,bn, *])⟩;refine PS ?_;refine nx J7 (CN (aa λ_ J9=>e7 (α:=Unit) (λ_u=>True) (λ_u=>[(1,(.pointer (some ⟨b1,0,none⟩))),(2,(.slice none 0 0)),(3,(.pointer (some ⟨b4,0,none⟩))),(6,(.int .i64 (m.kind))),(30,(.bool ((fa m.kind))))]) (λ_u=>[cw (.slice none 0 0) ([]) 5,ak b4 [(.slice none 0 0)] 247,ak b1 (ints m.flat) 163]) (λ_u hinv=>?_) (λtl9=>?_)));have _:=hinv;refine ae J9 (TC.cond rfl (λh30=>?_) (λh30=>?_));refine D1 2 mixed ?_;refine PD 0 ?_;refine FD 1 0 bj aR ?_;refine LR 2 Y3 (eZ m rfl) ?_;refine FD 3 177 bj aR ?_;refine LR 4 Y3 (eS m rfl) ?_;refine FD 7 178 bj cH ?_;refine ta 8 rfl (aP (vs:=ints m.ballot.flat) rfl kG rfl cH rfl (λ_ h=>h.2.1) (au m.ballot) (jE m 0 rfl (by decide) (whole (au m.ballot)))) ?_;refine AL 5 ?_;refine aT (cells:=#[(.int .i64 (m.kind)),(.int .i64 (m.epoch))]) (ab rfl) rfl rfl rfl jx p2 rfl rfl rfl (by as_aux_lemma=>kernel_rfl) (λb38=>EN (AL 6 ?_));refine CQ kp (dZ b4 (.slice none 0 0) ([]) (.slice (some ⟨b38,0,none⟩) (2) (2)) [m.kind,m.epoch] (by simp)) (SM [2,1]) (dS 0 rfl rfl rfl rfl) λvR HR hR=>?_
 obtain⟨u1,rfl,rfl⟩:=hR;refine EN (AL 9 ?_);refine CR Ax (jV b4 u1 (bn [m.kind,m.epoch]) m.ballot (by(have:=aY [m.kind,m.epoch]);simp only[BallotT.flat,ViewT.flat,ChangeT.flat,ah,ao,aB,ac]at*;omega)) ID λvR HR hR=>?_
 obtain⟨u2,rfl,rfl⟩:=hR;refine EN (DN (ai (ae J3 (sr λ_ J10=>PS ?_))));refine CR nM (ey b4 u2 (bn [m.kind,m.epoch]++bn m.ballot.flat) (by(have:=aY [m.kind,m.epoch]);(have:=aY (m.ballot.flat));simp only[BallotT.flat,ViewT.flat,ChangeT.flat,ah,ao,aB,ac]at*;omega)) ID λvR HR hR=>?_
 obtain⟨_,rfl,rfl⟩:=hR;revert vR;intro u3;refine PS ?_;refine nx J10 (aj (WK [2] (aw rfl rfl ?_)));exact⟨_,rfl,congrArg (λb=>[cw u3 b 5]) (show(bn [m.kind,m.epoch]++bn m.ballot.flat)=dy m by simp[dy,bn, *])⟩;refine sr λ_ J11=>PS ?_
 refine aq ?_ ?_<;>intro h44;refine PS ?_;refine nx J11 (CY (D1 2 mixed ?_));refine PD 0 ?_;refine FD 1 0 bj aR ?_;refine LR 2 Y3 (eZ m rfl) ?_;refine FD 3 177 bj aR ?_;refine LR 4 Y3 (eS m rfl) ?_;refine FD 7 178 bj cH ?_;refine ta 8 rfl (aP (vs:=ints m.ballot.flat) rfl kG rfl cH rfl (λ_ h=>h.2.1) (au m.ballot) (jE m 0 rfl (by decide) (whole (au m.ballot)))) ?_;refine FD 10 180 bj cH ?_;refine ta 11 rfl (aP (vs:=ints m.had.flat) rfl kG rfl cH rfl (λ_ h=>h.2.1) (au m.had) (Su m 0 rfl (by decide) (whole (au m.had)))) ?_;refine FD 13 182 bj fT ?_;refine ta 14 rfl (aP (vs:=ints m.change.flat) rfl n5 rfl fT rfl (λ_ h=>h.2.1) (aN m.change) (n8 m 0 rfl (by decide) (whole (aN m.change)))) ?_;refine AL 5 ?_;refine aT (cells:=#[(.int .i64 (m.kind)),(.int .i64 (m.epoch))]) (ab rfl) rfl rfl rfl jx p2 rfl rfl rfl (by as_aux_lemma=>kernel_rfl) (λb50=>EN (AL 6 ?_));refine CQ kp (dZ b4 (.slice none 0 0) ([]) (.slice (some ⟨b50,0,none⟩) (2) (2)) [m.kind,m.epoch] (by simp)) (SM [2,1]) (dS 0 rfl rfl rfl rfl) λvR HR hR=>?_
 obtain⟨u1,rfl,rfl⟩:=hR;refine EN (AL 9 ?_);refine CR Ax (jV b4 u1 (bn [m.kind,m.epoch]) m.ballot (by(have:=aY [m.kind,m.epoch]);simp only[BallotT.flat,ViewT.flat,ChangeT.flat,ah,ao,aB,ac]at*;omega)) ID λvR HR hR=>?_
 obtain⟨u2,rfl,rfl⟩:=hR;refine EN (AL 12 ?_);refine CR Ax (jV b4 u2 (bn [m.kind,m.epoch]++bn m.ballot.flat) m.had (by(have:=aY [m.kind,m.epoch]);(have:=aY (m.ballot.flat));simp only[BallotT.flat,ViewT.flat,ChangeT.flat,ah,ao,aB,ac]at*;omega)) ID λvR HR hR=>?_
 obtain⟨u3,rfl,rfl⟩:=hR;refine EN (AL 15 ?_);refine CR KM (pp b4 u3 (bn [m.kind,m.epoch]++bn m.ballot.flat++bn m.had.flat) m.change (by(have:=aY [m.kind,m.epoch]);(have:=aY (m.ballot.flat));(have:=aY (m.had.flat));simp only[BallotT.flat,ViewT.flat,ChangeT.flat,ah,ao,aB,ac]at*;omega)) ID λvR HR hR=>?_
 obtain⟨u4,rfl,rfl⟩:=hR;refine EN (DN (ai (ae J3 (sr λ_ J12=>PS ?_))));refine CR nM (ey b4 u4 (bn [m.kind,m.epoch]++bn m.ballot.flat++bn m.had.flat++bn m.change.flat) (by(have:=aY [m.kind,m.epoch]);(have:=aY (m.ballot.flat));(have:=aY (m.had.flat));(have:=aY (m.change.flat));simp only[BallotT.flat,ViewT.flat,ChangeT.flat,ah,ao,aB,ac]at*;omega)) ID λvR HR hR=>?_
 obtain⟨_,rfl,rfl⟩:=hR;revert vR;intro u5;refine PS ?_;refine nx J12 (aj (WK [2] (aw rfl rfl ?_)));exact⟨_,rfl,congrArg (λb=>[cw u5 b 5]) (show(bn [m.kind,m.epoch]++bn m.ballot.flat++bn m.had.flat++bn m.change.flat)=dy m by simp[dy,eF,fa,bn, *])⟩;refine PS ?_;refine nx J11 (CN (sr λ_ J13=>PS ?_));refine aq ?_ ?_<;>intro h62;refine PS ?_;refine nx J13 (CY (D1 2 mixed ?_));refine PD 0 ?_;refine FD 1 0 bj aR ?_;refine LR 2 Y3 (eZ m rfl) ?_;refine FD 3 177 bj aR ?_;refine LR 4 Y3 (eS m rfl) ?_;refine FD 7 178 bj cH ?_;refine ta 8 rfl (aP (vs:=ints m.ballot.flat) rfl kG rfl cH rfl (λ_ h=>h.2.1) (au m.ballot) (jE m 0 rfl (by decide) (whole (au m.ballot)))) ?_;refine FD 10 182 bj fT ?_;refine ta 11 rfl (aP (vs:=ints m.change.flat) rfl n5 rfl fT rfl (λ_ h=>h.2.1) (aN m.change) (n8 m 0 rfl (by decide) (whole (aN m.change)))) ?_;refine AL 5 ?_;refine aT (cells:=#[(.int .i64 (m.kind)),(.int .i64 (m.epoch))]) (ab rfl) rfl rfl rfl jx p2 rfl rfl rfl (by as_aux_lemma=>kernel_rfl) (λb68=>EN (AL 6 ?_));refine CQ kp (dZ b4 (.slice none 0 0) ([]) (.slice (some ⟨b68,0,none⟩) (2) (2)) [m.kind,m.epoch] (by simp)) (SM [2,1]) (dS 0 rfl rfl rfl rfl) λvR HR hR=>?_
 obtain⟨u1,rfl,rfl⟩:=hR;refine EN (AL 9 ?_);refine CR Ax (jV b4 u1 (bn [m.kind,m.epoch]) m.ballot (by(have:=aY [m.kind,m.epoch]);simp only[BallotT.flat,ViewT.flat,ChangeT.flat,ah,ao,aB,ac]at*;omega)) ID λvR HR hR=>?_
 obtain⟨u2,rfl,rfl⟩:=hR;refine EN (AL 12 ?_);refine CR KM (pp b4 u2 (bn [m.kind,m.epoch]++bn m.ballot.flat) m.change (by(have:=aY [m.kind,m.epoch]);(have:=aY (m.ballot.flat));simp only[BallotT.flat,ViewT.flat,ChangeT.flat,ah,ao,aB,ac]at*;omega)) ID λvR HR hR=>?_
 obtain⟨u3,rfl,rfl⟩:=hR;refine EN (DN (ai (ae J3 (sr λ_ J14=>PS ?_))));refine CR nM (ey b4 u3 (bn [m.kind,m.epoch]++bn m.ballot.flat++bn m.change.flat) (by(have:=aY [m.kind,m.epoch]);(have:=aY (m.ballot.flat));(have:=aY (m.change.flat));simp only[BallotT.flat,ViewT.flat,ChangeT.flat,ah,ao,aB,ac]at*;omega)) ID λvR HR hR=>?_
 obtain⟨_,rfl,rfl⟩:=hR;revert vR;intro u4;refine PS ?_;refine nx J14 (aj (WK [2] (aw rfl rfl ?_)));exact⟨_,rfl,congrArg (λb=>[cw u4 b 5]) (show(bn [m.kind,m.epoch]++bn m.ballot.flat++bn m.change.flat)=dy m by simp[dy,eF,fa,bn, *])⟩;refine PS ?_;refine nx J13 (CN (sr λ_ J15=>PS ?_));refine aq ?_ ?_<;>intro h77;refine PS ?_;refine nx J15 (CY (D1 2 mixed ?_));refine PD 0 ?_;refine FD 1 0 bj aR ?_;refine LR 2 Y3 (eZ m rfl) ?_;refine FD 5 185 bj bm ?_;refine ta 6 rfl (aP (vs:=ints m.view.flat) rfl eO rfl bm rfl (λ_ h=>h.2.1) (ap m.view) (wM m 0 rfl (by decide) (whole (ap m.view)))) ?_;refine AL 3 ?_;refine aT (cells:=#[(.int .i64 (m.kind))]) (ab rfl) rfl rfl rfl jx p2 rfl rfl rfl (by as_aux_lemma=>kernel_rfl) (λb81=>EN (AL 4 ?_));refine CQ kp (dZ b4 (.slice none 0 0) ([]) (.slice (some ⟨b81,0,none⟩) (1) (1)) [m.kind] (by simp)) (SM [2,1]) (dS 0 rfl rfl rfl rfl) λvR HR hR=>?_
 obtain⟨u1,rfl,rfl⟩:=hR;refine EN (AL 7 ?_);refine CR KL (sx b4 u1 (bn [m.kind]) m.view (by(have:=aY [m.kind]);simp only[BallotT.flat,ViewT.flat,ChangeT.flat,ah,ao,aB,ac]at*;omega)) ID λvR HR hR=>?_
 obtain⟨u2,rfl,rfl⟩:=hR;refine EN (DN (ai (ae J3 (sr λ_ J16=>PS ?_))));refine CR nM (ey b4 u2 (bn [m.kind]++bn m.view.flat) (by(have:=aY [m.kind]);(have:=aY (m.view.flat));simp only[BallotT.flat,ViewT.flat,ChangeT.flat,ah,ao,aB,ac]at*;omega)) ID λvR HR hR=>?_
 obtain⟨_,rfl,rfl⟩:=hR;revert vR;intro u3;refine PS ?_;refine nx J16 (aj (WK [2] (aw rfl rfl ?_)));exact⟨_,rfl,congrArg (λb=>[cw u3 b 5]) (show(bn [m.kind]++bn m.view.flat)=dy m by simp[dy,eF,fa,bn, *])⟩;refine PS ?_;refine nx J15 (CN (sr λ_ J17=>PS ?_));refine aq ?_ ?_<;>intro h87;refine PS ?_;refine nx J17 (CY (D1 2 mixed ?_));refine PD 0 ?_;refine FD 1 0 bj aR ?_;refine LR 2 Y3 (eZ m rfl) ?_;refine FD 3 1 bj aR ?_;refine LR 4 Y3 (cv m rfl) ?_;refine FD 7 185 bj bm ?_;refine ta 8 rfl (aP (vs:=ints m.view.flat) rfl eO rfl bm rfl (λ_ h=>h.2.1) (ap m.view) (wM m 0 rfl (by decide) (whole (ap m.view)))) ?_;refine AL 5 ?_;refine aT (cells:=#[(.int .i64 (m.kind)),(.int .i64 (m.whose))]) (ab rfl) rfl rfl rfl jx p2 rfl rfl rfl (by as_aux_lemma=>kernel_rfl) (λb93=>EN (AL 6 ?_));refine CQ kp (dZ b4 (.slice none 0 0) ([]) (.slice (some ⟨b93,0,none⟩) (2) (2)) [m.kind,m.whose] (by simp)) (SM [2,1]) (dS 0 rfl rfl rfl rfl) λvR HR hR=>?_
 obtain⟨u1,rfl,rfl⟩:=hR;refine EN (AL 9 ?_);refine CR KL (sx b4 u1 (bn [m.kind,m.whose]) m.view (by(have:=aY [m.kind,m.whose]);simp only[BallotT.flat,ViewT.flat,ChangeT.flat,ah,ao,aB,ac]at*;omega)) ID λvR HR hR=>?_
 obtain⟨u2,rfl,rfl⟩:=hR;refine EN (DN (ai (ae J3 (sr λ_ J18=>PS ?_))));refine CR nM (ey b4 u2 (bn [m.kind,m.whose]++bn m.view.flat) (by(have:=aY [m.kind,m.whose]);(have:=aY (m.view.flat));simp only[BallotT.flat,ViewT.flat,ChangeT.flat,ah,ao,aB,ac]at*;omega)) ID λvR HR hR=>?_
 obtain⟨_,rfl,rfl⟩:=hR;revert vR;intro u3;refine PS ?_;refine nx J18 (aj (WK [2] (aw rfl rfl ?_)));exact⟨_,rfl,congrArg (λb=>[cw u3 b 5]) (show(bn [m.kind,m.whose]++bn m.view.flat)=dy m by simp[dy,eF,fa,bn, *])⟩;refine PS ?_;refine nx J17 (CN (aV (ai (ae J3 (sr λ_ J19=>PS ?_)))));refine CR nM (ey b4 (.slice none 0 0) ([]) (by simp)) (SM [1,0]) λvR HR hR=>?_
 obtain⟨_,rfl,rfl⟩:=hR;revert vR;intro u1;refine PS ?_;refine nx J19 (aj (WK [2] (aw rfl rfl ?_)));exact⟨_,rfl,congrArg (λb=>[cw u1 b 5]) (show([]:List UInt8)=dy m by simp[dy,bn, *])⟩;refine sr λ_ J20=>P2 ?_
 refine aq ?_ ?_<;>intro h30;refine nx J20 (CY (aV ?_))
 exact aF
  (aS (aS (aS (aS (bJ rfl (by simp[fa, *]) SB)))))
  (λ_ s=>s)
  (tl9 (():Unit) trivial)
 refine nx J20 (CN (af (PS ?_)));refine aq ?_ ?_<;>intro h32;refine PS ?_;refine ax ?_
 exact aF
  (aS (aS (aS (aS (bJ rfl (by simp[fa, *]) SB)))))
  (λ_ s=>s)
  (tl9 (():Unit) trivial)
 refine PS ?_;refine ax ?_
 exact aF
  (aS (aS (aS (aS (bJ rfl (by simp[fa, *]) SB)))))
  (λ_ s=>s)
  (tl9 (():Unit) trivial)
 refine sr λ_ J21=>P2 ?_
 refine aq ?_ ?_<;>intro h7;refine nx J21 (CY (aV ?_))
 exact aF
  (aS (aS (aS (aS (bJ rfl (by simp[eF, *]) SB)))))
  (λ_ s=>s)
  (tl5 (():Unit) trivial)
 refine nx J21 (CN (sr λ_ J22=>P2 ?_));refine aq ?_ ?_<;>intro h7;refine nx J22 (CY (aV ?_))
 exact aF
  (aS (aS (aS (aS (bJ rfl (by simp[eF, *]) SB)))))
  (λ_ s=>s)
  (tl5 (():Unit) trivial)
 refine nx J22 (CN (af (PS ?_)));refine aq ?_ ?_<;>intro h10;refine PS ?_;refine ax ?_
 exact aF
  (aS (aS (aS (aS (bJ rfl (by simp[eF, *]) SB)))))
  (λ_ s=>s)
  (tl5 (():Unit) trivial)
 refine PS ?_;refine ax ?_
 exact aF
  (aS (aS (aS (aS (bJ rfl (by simp[eF, *]) SB)))))
  (λ_ s=>s)
  (tl5 (():Unit) trivial)
theorem DM(m:RecT):
 DT 156 #[(.agg (ints m.flat).toArray)] T0 [] (dA (λr' H=>∃u,r'=u∧H=[cw u (gy m) 5])):=by
 refine BD 77 Tryz.func156 rfl rfl rfl λw0 F hF=>sr λ_ J1=>XY (ints m.flat) λb1=>?_
 refine PS ?_;refine nx J1 (sr λ_ J2=>XA Pc λb4=>?_);refine TL.ownNil 5 (λon=>?_);clear on;refine PS ?_;refine nx J2 (aa λ_ J3=>sr λ_ J4=>FA 0 en aR ?_);refine LU 2 Y3 (kX m rfl) ?_;refine nx J4 (av (sr λ_ J5=>PS ?_));refine aq ?_ ?_<;>intro h8;refine PS ?_;refine nx J5 (CY (D1 2 mixed ?_));refine PD 0 ?_;refine FD 1 0 en aR ?_;refine LR 2 Y3 (kX m rfl) ?_;refine FD 5 2 en bg ?_;refine ta 6 rfl (aP (vs:=ints m.row.flat) rfl ec rfl bg rfl (λ_ h=>h.2.1) (am m.row) (tf m 0 rfl (by decide) (whole (am m.row)))) ?_;refine AL 3 ?_;refine aT (cells:=#[(.int .i64 (m.kind))]) (ab rfl) rfl rfl rfl jx p2 rfl rfl rfl (by as_aux_lemma=>kernel_rfl) (λb12=>EN (AL 4 ?_));refine CQ kp (dZ b4 (.slice none 0 0) ([]) (.slice (some ⟨b12,0,none⟩) (1) (1)) [m.kind] (by simp)) (SM [2,1]) (dS 0 rfl rfl rfl rfl) λvR HR hR=>?_
 obtain⟨u1,rfl,rfl⟩:=hR;refine EN (AL 7 ?_);refine CR KN (uJ b4 u1 (bn [m.kind]) m.row (by(have:=aY [m.kind]);simp only[BallotT.flat,ViewT.flat,ChangeT.flat,ah,ao,aB,ac]at*;omega)) ID λvR HR hR=>?_
 obtain⟨u2,rfl,rfl⟩:=hR;refine EN (DN (ai (ae J3 (sr λ_ J6=>PS ?_))));refine CR nM (ey b4 u2 (bn [m.kind]++gf m.row) (by(have:=aY [m.kind]);(have:=iT m.row);simp only[BallotT.flat,ViewT.flat,ChangeT.flat,ah,ao,aB,ac]at*;omega)) ID λvR HR hR=>?_
 obtain⟨_,rfl,rfl⟩:=hR;revert vR;intro u3;refine PS ?_;refine nx J6 (aj (WK [2] (aw rfl rfl ?_)));exact⟨_,rfl,congrArg (λb=>[cw u3 b 5]) (show(bn [m.kind]++gf m.row)=gy m by simp[gy,eF,fa,bn, *])⟩;refine PS ?_;refine nx J5 (CN (sr λ_ J7=>PS ?_));refine aq ?_ ?_<;>intro h18;refine PS ?_;refine nx J7 (CY (D1 2 mixed ?_));refine PD 0 ?_;refine FD 1 0 en aR ?_;refine LR 2 Y3 (kX m rfl) ?_;refine FD 3 1 en aR ?_;refine LR 4 Y3 (HL m rfl) ?_;refine FD 7 2 en bg ?_;refine ta 8 rfl (aP (vs:=ints m.row.flat) rfl ec rfl bg rfl (λ_ h=>h.2.1) (am m.row) (tf m 0 rfl (by decide) (whole (am m.row)))) ?_;refine AL 5 ?_;refine aT (cells:=#[(.int .i64 (m.kind)),(.int .i64 (m.whose))]) (ab rfl) rfl rfl rfl jx p2 rfl rfl rfl (by as_aux_lemma=>kernel_rfl) (λb24=>EN (AL 6 ?_));refine CQ kp (dZ b4 (.slice none 0 0) ([]) (.slice (some ⟨b24,0,none⟩) (2) (2)) [m.kind,m.whose] (by simp)) (SM [2,1]) (dS 0 rfl rfl rfl rfl) λvR HR hR=>?_
 obtain⟨u1,rfl,rfl⟩:=hR;refine EN (AL 9 ?_);refine CR KN (uJ b4 u1 (bn [m.kind,m.whose]) m.row (by(have:=aY [m.kind,m.whose]);simp only[BallotT.flat,ViewT.flat,ChangeT.flat,ah,ao,aB,ac]at*;omega)) ID λvR HR hR=>?_
 obtain⟨u2,rfl,rfl⟩:=hR;refine EN (DN (ai (ae J3 (sr λ_ J8=>PS ?_))));refine CR nM (ey b4 u2 (bn [m.kind,m.whose]++gf m.row) (by(have:=aY [m.kind,m.whose]);(have:=iT m.row);simp only[BallotT.flat,ViewT.flat,ChangeT.flat,ah,ao,aB,ac]at*;omega)) ID λvR HR hR=>?_
 obtain⟨_,rfl,rfl⟩:=hR;revert vR;intro u3;refine PS ?_;refine nx J8 (aj (WK [2] (aw rfl rfl ?_)));exact⟨_,rfl,congrArg (λb=>[cw u3 b 5]) (show(bn [m.kind,m.whose]++gf m.row)=gy m by simp[gy,eF,fa,bn, *])⟩;refine PS ?_;refine nx J7 (CN (sr λ_ J9=>PS ?_));refine aq ?_ ?_<;>intro h30;refine PS ?_;refine nx J9 (CY (af (PS ?_)));refine FA 0 en aR ?_;refine LU 2 Y3 (kX m rfl) ?_;refine FA 1 en aR ?_;refine LU 2 Y3 (HL m rfl) ?_;refine aT (cells:=#[(.int .i64 (m.kind)),(.int .i64 (m.whose))]) (ab rfl) rfl rfl rfl jx p2 rfl rfl rfl (by as_aux_lemma=>kernel_rfl) (λb36=>CQ kp (dZ b4 (.slice none 0 0) ([]) (.slice (some ⟨b36,0,none⟩) (2) (2)) [m.kind,m.whose] (by simp)) (SM [2,1]) (dS 0 rfl rfl rfl rfl) λvR HR hR=>?_);obtain⟨u1,rfl,rfl⟩:=hR;refine ax (ai (ae J3 (sr λ_ J10=>PS ?_)));refine CR nM (ey b4 u1 (bn [m.kind,m.whose]) (by(have:=aY [m.kind,m.whose]);simp only[BallotT.flat,ViewT.flat,ChangeT.flat,ah,ao,aB,ac]at*;omega)) ID λvR HR hR=>?_
 obtain⟨_,rfl,rfl⟩:=hR;revert vR;intro u2;refine PS ?_;refine nx J10 (aj (WK [2] (aw rfl rfl ?_)));exact⟨_,rfl,congrArg (λb=>[cw u2 b 5]) (show(bn [m.kind,m.whose])=gy m by simp[gy,eF,fa,bn, *])⟩;refine PS ?_;refine nx J9 (CN (sr λ_ J11=>PS ?_));refine aq ?_ ?_<;>intro h39;refine PS ?_;refine nx J11 (CY (D1 2 mixed ?_));refine PD 0 ?_;refine FD 1 0 en aR ?_;refine LR 2 Y3 (kX m rfl) ?_;refine FD 3 176 en aR ?_;refine LR 4 Y3 (RecT.at_epoch m rfl) ?_;refine FD 7 177 en cH ?_;refine ta 8 rfl (aP (vs:=ints m.ballot.flat) rfl kG rfl cH rfl (λ_ h=>h.2.1) (au m.ballot) (rY m 0 rfl (by decide) (whole (au m.ballot)))) ?_;refine AL 5 ?_;refine aT (cells:=#[(.int .i64 (m.kind)),(.int .i64 (m.epoch))]) (ab rfl) rfl rfl rfl jx p2 rfl rfl rfl (by as_aux_lemma=>kernel_rfl) (λb45=>EN (AL 6 ?_));refine CQ kp (dZ b4 (.slice none 0 0) ([]) (.slice (some ⟨b45,0,none⟩) (2) (2)) [m.kind,m.epoch] (by simp)) (SM [2,1]) (dS 0 rfl rfl rfl rfl) λvR HR hR=>?_
 obtain⟨u1,rfl,rfl⟩:=hR;refine EN (AL 9 ?_);refine CR Ax (jV b4 u1 (bn [m.kind,m.epoch]) m.ballot (by(have:=aY [m.kind,m.epoch]);simp only[BallotT.flat,ViewT.flat,ChangeT.flat,ah,ao,aB,ac]at*;omega)) ID λvR HR hR=>?_
 obtain⟨u2,rfl,rfl⟩:=hR;refine EN (DN (ai (ae J3 (sr λ_ J12=>PS ?_))));refine CR nM (ey b4 u2 (bn [m.kind,m.epoch]++bn m.ballot.flat) (by(have:=aY [m.kind,m.epoch]);(have:=aY (m.ballot.flat));simp only[BallotT.flat,ViewT.flat,ChangeT.flat,ah,ao,aB,ac]at*;omega)) ID λvR HR hR=>?_
 obtain⟨_,rfl,rfl⟩:=hR;revert vR;intro u3;refine PS ?_;refine nx J12 (aj (WK [2] (aw rfl rfl ?_)));exact⟨_,rfl,congrArg (λb=>[cw u3 b 5]) (show(bn [m.kind,m.epoch]++bn m.ballot.flat)=gy m by simp[gy,eF,fa,bn, *])⟩;refine PS ?_;refine nx J11 (CN (sr λ_ J13=>PS ?_));refine aq ?_ ?_<;>intro h51;refine PS ?_;refine nx J13 (CY (D1 2 mixed ?_));refine PD 0 ?_;refine FD 1 0 en aR ?_;refine LR 2 Y3 (kX m rfl) ?_;refine FD 3 176 en aR ?_;refine LR 4 Y3 (RecT.at_epoch m rfl) ?_;refine FD 7 177 en cH ?_;refine ta 8 rfl (aP (vs:=ints m.ballot.flat) rfl kG rfl cH rfl (λ_ h=>h.2.1) (au m.ballot) (rY m 0 rfl (by decide) (whole (au m.ballot)))) ?_;refine FD 10 179 en fT ?_;refine ta 11 rfl (aP (vs:=ints m.change.flat) rfl n5 rfl fT rfl (λ_ h=>h.2.1) (aN m.change) (O1 m 0 rfl (by decide) (whole (aN m.change)))) ?_;refine AL 5 ?_;refine aT (cells:=#[(.int .i64 (m.kind)),(.int .i64 (m.epoch))]) (ab rfl) rfl rfl rfl jx p2 rfl rfl rfl (by as_aux_lemma=>kernel_rfl) (λb57=>EN (AL 6 ?_));refine CQ kp (dZ b4 (.slice none 0 0) ([]) (.slice (some ⟨b57,0,none⟩) (2) (2)) [m.kind,m.epoch] (by simp)) (SM [2,1]) (dS 0 rfl rfl rfl rfl) λvR HR hR=>?_
 obtain⟨u1,rfl,rfl⟩:=hR;refine EN (AL 9 ?_);refine CR Ax (jV b4 u1 (bn [m.kind,m.epoch]) m.ballot (by(have:=aY [m.kind,m.epoch]);simp only[BallotT.flat,ViewT.flat,ChangeT.flat,ah,ao,aB,ac]at*;omega)) ID λvR HR hR=>?_
 obtain⟨u2,rfl,rfl⟩:=hR;refine EN (AL 12 ?_);refine CR KM (pp b4 u2 (bn [m.kind,m.epoch]++bn m.ballot.flat) m.change (by(have:=aY [m.kind,m.epoch]);(have:=aY (m.ballot.flat));simp only[BallotT.flat,ViewT.flat,ChangeT.flat,ah,ao,aB,ac]at*;omega)) ID λvR HR hR=>?_
 obtain⟨u3,rfl,rfl⟩:=hR;refine EN (DN (ai (ae J3 (sr λ_ J14=>PS ?_))));refine CR nM (ey b4 u3 (bn [m.kind,m.epoch]++bn m.ballot.flat++bn m.change.flat) (by(have:=aY [m.kind,m.epoch]);(have:=aY (m.ballot.flat));(have:=aY (m.change.flat));simp only[BallotT.flat,ViewT.flat,ChangeT.flat,ah,ao,aB,ac]at*;omega)) ID λvR HR hR=>?_
 obtain⟨_,rfl,rfl⟩:=hR;revert vR;intro u4;refine PS ?_;refine nx J14 (aj (WK [2] (aw rfl rfl ?_)));exact⟨_,rfl,congrArg (λb=>[cw u4 b 5]) (show(bn [m.kind,m.epoch]++bn m.ballot.flat++bn m.change.flat)=gy m by simp[gy,eF,fa,bn, *])⟩;refine PS ?_;refine nx J13 (CN (sr λ_ J15=>PS ?_));refine aq ?_ ?_<;>intro h66;refine PS ?_;refine nx J15 (CY (D1 2 mixed ?_));refine PD 0 ?_;refine FD 1 0 en aR ?_;refine LR 2 Y3 (kX m rfl) ?_;refine FD 5 182 en bm ?_;refine ta 6 rfl (aP (vs:=ints m.view.flat) rfl eO rfl bm rfl (λ_ h=>h.2.1) (ap m.view) (R6 m 0 rfl (by decide) (whole (ap m.view)))) ?_;refine AL 3 ?_;refine aT (cells:=#[(.int .i64 (m.kind))]) (ab rfl) rfl rfl rfl jx p2 rfl rfl rfl (by as_aux_lemma=>kernel_rfl) (λb70=>EN (AL 4 ?_));refine CQ kp (dZ b4 (.slice none 0 0) ([]) (.slice (some ⟨b70,0,none⟩) (1) (1)) [m.kind] (by simp)) (SM [2,1]) (dS 0 rfl rfl rfl rfl) λvR HR hR=>?_
 obtain⟨u1,rfl,rfl⟩:=hR;refine EN (AL 7 ?_);refine CR KL (sx b4 u1 (bn [m.kind]) m.view (by(have:=aY [m.kind]);simp only[BallotT.flat,ViewT.flat,ChangeT.flat,ah,ao,aB,ac]at*;omega)) ID λvR HR hR=>?_
 obtain⟨u2,rfl,rfl⟩:=hR;refine EN (DN (ai (ae J3 (sr λ_ J16=>PS ?_))));refine CR nM (ey b4 u2 (bn [m.kind]++bn m.view.flat) (by(have:=aY [m.kind]);(have:=aY (m.view.flat));simp only[BallotT.flat,ViewT.flat,ChangeT.flat,ah,ao,aB,ac]at*;omega)) ID λvR HR hR=>?_
 obtain⟨_,rfl,rfl⟩:=hR;revert vR;intro u3;refine PS ?_;refine nx J16 (aj (WK [2] (aw rfl rfl ?_)));exact⟨_,rfl,congrArg (λb=>[cw u3 b 5]) (show(bn [m.kind]++bn m.view.flat)=gy m by simp[gy,eF,fa,bn, *])⟩;refine PS ?_;refine nx J15 (CN (aV (ai (ae J3 (sr λ_ J17=>PS ?_)))));refine CR nM (ey b4 (.slice none 0 0) ([]) (by simp)) (SM [1,0]) λvR HR hR=>?_
 obtain⟨_,rfl,rfl⟩:=hR;revert vR;intro u1;refine PS ?_;refine nx J17 (aj (WK [2] (aw rfl rfl ?_)));exact⟨_,rfl,congrArg (λb=>[cw u1 b 5]) (show([]:List UInt8)=gy m by simp[gy,eF,fa,bn, *])⟩
open Dsk Wal
theorem ReplyT.flat_length(x:ReplyT):x.flat.length=3:=rfl
theorem rB(who:Int)(hm:cO who=true):DT 127 #[.int .i64 who] T0 [] (dA (λr' H=>∃u,r'=u∧H=[own u 2 [.int .i64 ((who+1)%5), .int .i64 ((who+2)%5)] 3 1])):=by
 have:=qw who;rw[show iw who=[(who+1)%5,(who+2)%5]by rw[iw,if_pos hm]]at this;exact this
theorem FU(r:Nat)(x:RepT)(op err val:Int)(rs:List ReplyT)(hrs:rs.length≤1000000):
 DT 74 #[(.pointer (some ⟨r,0,none⟩)),(.int .i64 (op)),(.int .i64 (err)),(.int .i64 (val))] T0 [ak r (RepT.cells x) 87,own x.replies ((rs).length) (ints (List.flatMap ReplyT.flat (rs))) 47 3] (dA (λ_ H=>∃v',v'.oneCell'=true∧H=[ak r (RepT.cells {x with replies:=v'}) 87,own v' (rs++[ReplyT.mk op err val]).length (ints (List.flatMap ReplyT.flat (rs++[ReplyT.mk op err val]))) 47 3])):=by
 refine BD 21 Tryz.func74 rfl rfl rfl λw0 F hF=>af (P3 ?_)
 refine FA 1942 dw zi ?_;refine LT 0 HI x.replies ?_ (hc:=by exact RepT.at_replies x rfl);refine P3 ?_;refine tp (zS (cs:=ints (ReplyT.mk op err val).flat) (segs:=[[Value.int .i64 0],[Value.int .i64 0],[Value.int .i64 0]]) (res:=[[Value.int .i64 op],[Value.int .i64 err],[Value.int .i64 val]]) (parts:=[(0,[Value.int .i64 op]),(1,[Value.int .i64 err]),(2,[Value.int .i64 val])]) rfl rfl Ni (by kernel_rfl) (by kernel_rfl) rfl (fw rfl rfl (fw rfl rfl (fw rfl rfl mi))) (Nn (ReplyT.mk op err val)).symm) ?_;refine aT (cells:=(ints (ReplyT.mk op err val).flat).toArray) (ab rfl) rfl rfl rfl HI Je rfl rfl rfl (nf (zK (ReplyT.mk op err val)) (by simp)) (λb17=>?_);change TL _ _ _ _ _ _ _ _ _ [ak b17 (ints (ReplyT.mk op err val).flat) 47,ak r (RepT.cells x) 87,own x.replies ((rs).length) (ints (List.flatMap ReplyT.flat (rs))) 47 3];refine cF (k:=2) (news:=ints (ReplyT.mk op err val).flat) (nn':=(rs++[ReplyT.mk op err val]).length) (xs':=ints (List.flatMap ReplyT.flat (rs++[ReplyT.mk op err val]))) (ab rfl) rfl rfl rfl HI Je rfl rfl rfl rfl rfl rfl (λ_ _=>jB (zK _) (RO 0) (by rw[ba,iX])) (bw _) (by simp only[maxLen];omega) (by omega) (by simp) (by simp[ints]) (λv18 ov18=>PS ?_);refine FA 1942 dw zi ?_;exact bF (i:=1) (ab rfl) rfl rfl rfl rfl ov18 zi rfl rfl (LB (da _)) (RepT.set_replies x rfl _) rfl (ax (WK [1,1] (bC rfl ⟨_,ov18,rfl⟩)))
theorem IA(r:Nat)(x:RepT):
 DT 13 #[(.pointer (some ⟨r,0,none⟩))] T0 [ak r (RepT.cells x) 87] (RI (.agg (ints x.own.flat).toArray) [ak r (RepT.cells x) 87]):=by
 refine BD 7 Tryz.func13 rfl rfl rfl λw0 F hF=>sr λ_ J1=>XZ vD (ints RowT.zero.flat) λb2=>?_
 refine nx J1 (sr λ_ J2=>P2 ?_);refine FA 9 dw bg ?_;refine LV 1 ec bg am Fi (y:=x.own) ?_;refine SW 0 bg am ?_;refine nx J2 (aj (RC 0 [1] ec bg (am _) ?_));exact⟨rfl,rfl⟩
theorem FW(r:Nat)(x:RepT):
 DT 12 #[(.pointer (some ⟨r,0,none⟩))] T0 [ak r (RepT.cells x) 87] (RI (.agg (ints x.view.flat).toArray) [ak r (RepT.cells x) 87]):=by
 refine BD 7 Tryz.func12 rfl rfl rfl λw0 F hF=>sr λ_ J1=>XZ tj (ints ViewT.zero.flat) λb2=>?_
 refine nx J1 (sr λ_ J2=>P2 ?_);refine FA 2 dw bm ?_;refine LV 1 eO bm ap c9 (y:=x.view) ?_;refine SW 0 bm ap ?_;refine nx J2 (aj (RC 0 [1] eO bm (ap _) ?_));exact⟨rfl,rfl⟩
theorem xZ(r:Nat)(x:RepT)(who:Int):
 DT 33 #[(.pointer (some ⟨r,0,none⟩)),(.int .i64 (who))] T0 [ak r (RepT.cells x) 87] (RI (.tuple #[.agg (ints (dF x.mirror who).flat).toArray, .bool (fz x.mirror who)]) [ak r (RepT.cells x) 87]):=by
 refine BD 16 Tryz.func33 rfl rfl rfl λw0 F hF=>sr λ_ J1=>XZ vD (ints RowT.zero.flat) λb4=>?_
 refine PS ?_;refine nx J1 (aa λ_ J2=>D0 mixed ?_);refine PD 0 ?_;refine PD 1 ?_;refine FD 2 183 dw uT ?_;refine PD 3 ?_;refine PD 5 ?_;refine PD 6 ?_;refine FD 7 183 dw uT ?_;refine PD 8 ?_;refine AL 4 ?_;refine CE KI (mq r 183 87 (λu=>RepT.cells {x with mirror:=u}) (eg x) x.mirror who) (SM [1]) ?_;refine EN (AL 9 ?_);refine CE Oz (nO r 183 87 (λu=>RepT.cells {x with mirror:=u}) (eg x) x.mirror who) ID ?_;refine EN (AL 10 ?_);refine SW 1 bg am ?_;refine EN (PD 11 ?_);refine DN (ae J2 (aj (RT 1 [0] ec bg (am _) ?_)));exact⟨rfl,rfl⟩
theorem BJ(r:Nat)(x:RepT)(rs:List ReplyT)(hrs:rs.length≤1000000):
 DT 31 #[(.pointer (some ⟨r,0,none⟩))] T0 [ak r (RepT.cells x) 87,own x.replies ((rs).length) (ints (List.flatMap ReplyT.flat (rs))) 47 3] (dA (λr' H=>∃u,r'=u∧H=[ak r (RepT.cells x) 87,own x.replies rs.length (ints (List.flatMap ReplyT.flat rs)) 47 3,own u rs.length (ints (List.flatMap ReplyT.flat rs)) 47 3])):=by
 refine BD 8 Tryz.func31 rfl rfl rfl λw0 F hF=>sr λ_ J1=>QI 47 3 (λ_=>PS ?_)
 refine nx J1 (sr λ_ J2=>P2 ?_);refine FA 1942 dw zi ?_;refine LT 1 HI x.replies ?_ (hc:=by exact RepT.at_replies x rfl);refine cF (k:=0) (news:=ints (List.flatMap ReplyT.flat rs)) (nn':=rs.length) (xs':=ints (List.flatMap ReplyT.flat rs)) (ab rfl) rfl rfl rfl HI Je rfl rfl rfl rfl rfl rfl (λ_ s=>Fp 2 rfl rfl s) (bw _) (by simp only[maxLen];omega) (by omega) (by simp) (by simp) (λv7 ov7=>PS ?_);exact nx J2 (aj (WK [1,1,0] (aw rfl rfl ⟨_,rfl,rfl⟩)))
end Go.Proofs.YtfocodjhmkokpaaGreatDoor
end

section
namespace Api
open Go Leg Codec Dsk Wal
def kd(w:Int)(x:RowT):RecT:= {RecT.zero with kind:=1,whose:=w,row:=x}
def jt(w:Int):RecT:= {RecT.zero with kind:=2,whose:=w}
def kC(v:ViewT):RecT:= {RecT.zero with kind:=5,view:=v}
def uo(v:Int):MsgT:= {MsgT.zero with kind:=1,version:=v}
def iC(w:Int)(x:RowT):MsgT:= {MsgT.zero with kind:=9,whose:=w,row:=x}
section
variable {x:RepT} {from' w:Int} {y:RowT} {recs:List (List UInt8)}
end
section
variable {x:RepT} {from' w:Int} {v:ViewT} {recs:List (List UInt8)}
end
end Api
end

section
namespace Go.Proofs.YtfocodjhmkokpaaGreatDoor
open Go Leg Codec Api Dsk Wal
theorem IH(r:Nat)(x:RepT)(o:OpT):
 DT 73 #[(.pointer (some ⟨r,0,none⟩)),(.agg (ints o.flat).toArray)] T0 [ak r (RepT.cells x) 87] (RI (.tuple #[.agg (ints (iD x o).1.flat).toArray, .int .i64 (iD x o).2.1, .int .i64 (iD x o).2.2]) [ak r (RepT.cells x) 87]):=by
 refine BD 121 Tryz.func73 rfl rfl rfl λw0 F hF=>sr λ_ J1=>XY (ints o.flat) λb3=>?_
 refine XZ vD (ints RowT.zero.flat) λb4=>?_
 refine P2 ?_;refine nx J1 (aa λ_ J2=>aa λ_ J3=>D1 2 mixed ?_);refine PD 0 ?_;refine PD 1 ?_;refine FD 2 2 dw bm ?_;refine ta 3 rfl (aP (vs:=ints x.view.flat) rfl eO rfl bm rfl (λ_ h=>h.2.1) (ap x.view) (gn x 0 rfl (by decide) (whole (ap x.view)))) ?_;refine PD 4 ?_;refine PD 5 ?_;refine FD 6 0 dw aR ?_;refine LR 7 Y3 (cR x rfl) ?_;refine AL 8 ?_;refine CE qU (dR x.view x.id) ID ?_;refine bh ?_ ?_<;>intro h17;refine EN (PD 9 ?_);refine DN (ae J3 (CN (qx J2 (aa λ_ J4=>sr λ_ J5=>FA 3 gk aR ?_))));refine LU 1 Y3 (qj o rfl) ?_;refine PS ?_;refine aq ?_ ?_<;>intro h22;have hkb:na o.key=false:=decide_eq_false (by omega);refine PS ?_
 iterate 3 refine UT ?_
 refine PS ?_;refine nx J5 (CY (sr λ_ J6=>BV ((ints RowT.zero.flat).toArray) ?_));refine SW 0 bg am ?_;refine P2 ?_;refine nx J6 (aj (ag (RU 0 [2] ec bg (am _) ?_)));exact⟨by simp[iD,gd, *],rfl⟩;refine PS ?_;refine FA 3 gk aR ?_;refine LU 1 Y3 (qj o rfl) ?_;refine PS ?_;refine aq ?_ ?_<;>intro h26;have hkb:na o.key=false:=decide_eq_false (by omega);refine PS ?_;refine nx J5 (CY (sr λ_ J7=>BV ((ints RowT.zero.flat).toArray) ?_));refine SW 0 bg am ?_;refine P2 ?_;refine nx J7 (aj (ag (RU 0 [2] ec bg (am _) ?_)));exact⟨by simp[iD,gd, *],rfl⟩;have hkb:na o.key=true:=decide_eq_true (by omega);refine PS ?_;refine nx J5 (CN (qx J4 (aa λ_ J8=>sr λ_ J9=>FA 0 gk aR ?_)));refine LU 1 Y3 (dm o rfl) ?_;refine PS ?_;refine aq ?_ ?_<;>intro h31;refine nx J9 (CY (aa λ_ J10=>D1 1 mixed ?_));refine ta 0 rfl (kA (cells:=(ints RowT.zero.flat).toArray) rfl rfl (by as_aux_lemma=>kernel_rfl)) ?_;refine PD 1 ?_;refine PD 2 ?_;refine FD 3 1068 dw FL ?_;refine FD 4 3 gk aR ?_;refine LR 5 Y3 (qj o rfl) ?_;refine AL 6 ?_;refine CE OC (nW r 1068 87 (λu=>RepT.cells {x with book:=u}) (ib x) x.book o.key) (SM [2]) ?_;refine EN (AL 7 ?_);refine SW 1 bg am ?_;refine EN (PD 8 ?_);refine PD 9 ?_;refine DN (ae J10 (aj (ag (RU 1 [0] ec bg (am _) ?_))));exact⟨by simp[iD,gd, *],rfl⟩;refine nx J9 (CN (qx J8 (aa λ_ J11=>sr λ_ J12=>P2 ?_)));refine FA 1938 dw lK ?_;refine LU 2 Y4 (zN x rfl) ?_;refine bh ?_ ?_<;>intro h42
 refine nx J12 (CY (sr λ_ J13=>BV ((ints RowT.zero.flat).toArray) ?_));refine SW 0 bg am ?_;refine P2 ?_;refine nx J13 (aj (ag (RU 0 [2] ec bg (am _) ?_)));exact⟨by simp[iD,gd, *],rfl⟩;refine nx J12 (CN (qx J11 (sr λ_ J14=>XZ vD (ints RowT.zero.flat) λb7=>?_)));refine nx J14 (sr λ_ J15=>PS ?_);refine nx J15 (aa λ_ J16=>sr λ_ J17=>FA 0 gk aR ?_);refine LU 2 Y3 (dm o rfl) ?_;refine nx J17 (av (sr λ_ J18=>PS ?_));refine aq ?_ ?_<;>intro h47;refine PS ?_;refine nx J18 (CY (D2 3 2 mixed ?_));refine PD 0 ?_;refine PD 1 ?_;refine FD 2 9 dw bg ?_;refine ta 3 rfl (aP (vs:=ints x.own.flat) rfl ec rfl bg rfl (λ_ h=>h.2.1) (am x.own) (zL x 0 rfl (by decide) (whole (am x.own)))) ?_;refine FD 4 3 gk aR ?_;refine LR 5 Y3 (qj o rfl) ?_;refine FD 6 4 gk aR ?_;refine LR 7 Y3 (y7 o rfl) ?_;refine AL 8 ?_;refine CE Qm (DJ x.own o.key o.n) ID ?_;refine EN (PD 9 ?_);refine PD 10 ?_;refine PD 11 ?_;refine AL 12 ?_;refine SW 0 bg am ?_;refine EN (PD 13 ?_);refine DN (ai (ae J16 (aa λ_ J19=>sr λ_ J20=>P2 ?_)));refine aq ?_ ?_<;>intro h98;refine nx J20 (CY (sr λ_ J21=>BV ((ints RowT.zero.flat).toArray) ?_));refine PS ?_;refine SW 1 bg am ?_;refine P2 ?_;refine nx J21 (aj (ag (RU 1 [3] ec bg (am _) ?_)));exact⟨by simp[iD,gd, *],rfl⟩;refine nx J20 (CN (qx J19 (aa λ_ J22=>aa λ_ J23=>D2 2 3 mixed ?_)));refine FD 0 0 gk aR ?_;refine LR 1 Y3 (dm o rfl) ?_;refine PD 2 ?_;refine jA ?_ ?_<;>intro h103
 · exact absurd h47 h103
 refine PD 3 ?_;refine NT 4 ?_;refine NT 5 ?_;refine NT 6 ?_;refine NT 7 ?_;refine NT 8 ?_;refine NT 9 ?_;refine NT 10 ?_;refine NT 11 ?_;refine NT 12 ?_;refine NT 13 ?_;refine NT 14 ?_;refine NT 15 ?_;refine NT 16 ?_;refine PD 17 ?_;refine DN (ae J23 (CN (qx J22 (sr λ_ J24=>LW 0 ec bg am ?_))));refine SW 1 bg am ?_;refine P2 ?_;refine nx J24 (aj (RU 1 [3] ec bg (am _) ?_));exact⟨by simp[iD,gd, *],rfl⟩;refine PS ?_;refine nx J18 (CN (sr λ_ J25=>PS ?_));refine aq ?_ ?_<;>intro h61;refine PS ?_;refine nx J25 (CY (D2 3 2 mixed ?_));refine PD 0 ?_;refine PD 1 ?_;refine FD 2 9 dw bg ?_;refine ta 3 rfl (aP (vs:=ints x.own.flat) rfl ec rfl bg rfl (λ_ h=>h.2.1) (am x.own) (zL x 0 rfl (by decide) (whole (am x.own)))) ?_;refine FD 4 3 gk aR ?_;refine LR 5 Y3 (qj o rfl) ?_;refine FD 6 4 gk aR ?_;refine LR 7 Y3 (y7 o rfl) ?_;refine AL 8 ?_;refine CE Ql (DK x.own o.key o.n) ID ?_;refine EN (PD 9 ?_);refine PD 10 ?_;refine PD 11 ?_;refine AL 12 ?_;refine SW 0 bg am ?_;refine EN (PD 13 ?_);refine DN (ai (ae J16 (aa λ_ J26=>sr λ_ J27=>P2 ?_)));refine aq ?_ ?_<;>intro h98;refine nx J27 (CY (sr λ_ J28=>BV ((ints RowT.zero.flat).toArray) ?_));refine PS ?_;refine SW 1 bg am ?_;refine P2 ?_;refine nx J28 (aj (ag (RU 1 [3] ec bg (am _) ?_)));exact⟨by simp[iD,gd, *],rfl⟩;refine nx J27 (CN (qx J26 (aa λ_ J29=>aa λ_ J30=>D2 2 3 mixed ?_)));refine FD 0 0 gk aR ?_;refine LR 1 Y3 (dm o rfl) ?_;refine PD 2 ?_;refine jA ?_ ?_<;>intro h103
 refine PD 3 ?_;refine PD 4 ?_;refine PD 5 ?_;refine FD 6 1068 dw FL ?_;refine PD 7 ?_;refine PD 8 ?_;refine FD 9 0 dw aR ?_;refine LR 10 Y3 (cR x rfl) ?_;refine FD 11 3 gk aR ?_;refine LR 12 Y3 (qj o rfl) ?_;refine FD 14 4 gk aR ?_;refine LR 15 Y3 (y7 o rfl) ?_;refine AL 13 ?_;refine CE NR (p4 r 1068 87 (λu=>RepT.cells {x with book:=u}) (ib x) x.book x.id o.key) (SM [3]) ?_;refine EN (PD 16 ?_);refine jA ?_ ?_<;>intro h117;refine PD 17 ?_;refine DN (ae J30 (CY (sr λ_ J31=>BV ((ints RowT.zero.flat).toArray) ?_)));refine SW 2 bg am ?_;refine P2 ?_;refine nx J31 (aj (ag (RU 2 [0] ec bg (am _) ?_)));exact⟨by simp[iD,gd, *],rfl⟩;refine PD 17 ?_;refine DN (ae J30 (CN (qx J29 (sr λ_ J32=>LW 1 ec bg am ?_))));refine SW 2 bg am ?_;refine P2 ?_;refine nx J32 (aj (RU 2 [0] ec bg (am _) ?_));exact⟨by simp[iD,gd, *],rfl⟩
 · exact absurd h47 h103
 refine PS ?_;refine nx J25 (CN (sr λ_ J33=>PS ?_));refine aq ?_ ?_<;>intro h75;refine PS ?_;refine nx J33 (CY (aa λ_ J34=>D2 2 3 mixed ?_));refine FD 0 2 gk aR ?_;refine LR 1 Y3 (jf o rfl) ?_;refine PD 2 ?_;refine PD 3 ?_;refine FD 4 0 dw aR ?_;refine LR 5 Y3 (cR x rfl) ?_;refine PD 6 ?_;refine jA ?_ ?_<;>intro h82;refine DN (ae J34 (CY (D2 3 2 mixed ?_)));refine PD 0 ?_;refine PD 1 ?_;refine FD 2 9 dw bg ?_;refine ta 3 rfl (aP (vs:=ints x.own.flat) rfl ec rfl bg rfl (λ_ h=>h.2.1) (am x.own) (zL x 0 rfl (by decide) (whole (am x.own)))) ?_;refine FD 4 3 gk aR ?_;refine LR 5 Y3 (qj o rfl) ?_;refine FD 6 4 gk aR ?_;refine LR 7 Y3 (y7 o rfl) ?_;refine FD 8 2 gk aR ?_;refine LR 9 Y3 (jf o rfl) ?_;refine AL 10 ?_;refine CE Qk (BH x.own o.key o.n o.to') ID ?_;refine EN (PD 11 ?_);refine PD 12 ?_;refine PD 13 ?_;refine AL 14 ?_;refine SW 0 bg am ?_;refine EN (PD 15 ?_);refine DN (ai (ae J16 (aa λ_ J35=>sr λ_ J36=>P2 ?_)));refine aq ?_ ?_<;>intro h98;refine nx J36 (CY (sr λ_ J37=>BV ((ints RowT.zero.flat).toArray) ?_));refine PS ?_;refine SW 1 bg am ?_;refine P2 ?_;refine nx J37 (aj (ag (RU 1 [3] ec bg (am _) ?_)));exact⟨by simp[iD,gd, *],rfl⟩;refine nx J36 (CN (qx J35 (aa λ_ J38=>aa λ_ J39=>D2 2 3 mixed ?_)));refine FD 0 0 gk aR ?_;refine LR 1 Y3 (dm o rfl) ?_;refine PD 2 ?_;refine jA ?_ ?_<;>intro h103;refine PD 3 ?_;refine PD 4 ?_;refine PD 5 ?_;refine FD 6 1068 dw FL ?_;refine PD 7 ?_;refine PD 8 ?_;refine FD 9 0 dw aR ?_
 refine LR 10 Y3 (cR x rfl) ?_;refine FD 11 3 gk aR ?_;refine LR 12 Y3 (qj o rfl) ?_;refine FD 14 4 gk aR ?_;refine LR 15 Y3 (y7 o rfl) ?_;refine AL 13 ?_;refine CE NR (p4 r 1068 87 (λu=>RepT.cells {x with book:=u}) (ib x) x.book x.id o.key) (SM [3]) ?_;refine EN (PD 16 ?_);refine jA ?_ ?_<;>intro h117;refine PD 17 ?_;refine DN (ae J39 (CY (sr λ_ J40=>BV ((ints RowT.zero.flat).toArray) ?_)));refine SW 2 bg am ?_;refine P2 ?_;refine nx J40 (aj (ag (RU 2 [0] ec bg (am _) ?_)));exact⟨by simp[iD,gd, *],rfl⟩;refine PD 17 ?_;refine DN (ae J39 (CN (qx J38 (sr λ_ J41=>LW 1 ec bg am ?_))));refine SW 2 bg am ?_;refine P2 ?_;refine nx J41 (aj (RU 2 [0] ec bg (am _) ?_));exact⟨by simp[iD,gd, *],rfl⟩
 · exact absurd h47 h103
 refine DN (ae J34 (CN (aV (ai (ae J16 (aa λ_ J42=>sr λ_ J43=>P2 ?_))))));refine nx J43 (CY (sr λ_ J44=>BV ((ints RowT.zero.flat).toArray) ?_));refine PS ?_;refine SW 1 bg am ?_;refine P2 ?_;refine nx J44 (aj (ag (RU 1 [3] ec bg (am _) ?_)));exact⟨by simp[iD,gd, *],rfl⟩;refine PS ?_;refine nx J33 (CN (aV (ai (ae J16 (aa λ_ J45=>sr λ_ J46=>P2 ?_)))));refine nx J46 (CY (sr λ_ J47=>BV ((ints RowT.zero.flat).toArray) ?_));refine PS ?_;refine SW 1 bg am ?_;refine P2 ?_;refine nx J47 (aj (ag (RU 1 [3] ec bg (am _) ?_)));exact⟨by simp[iD,gd, *],rfl⟩;refine EN (PD 9 ?_);refine DN (ae J3 (CY (sr λ_ J48=>BV ((ints RowT.zero.flat).toArray) ?_)));refine SW 0 bg am ?_;refine P2 ?_;refine nx J48 (aj (ag (RU 0 [2] ec bg (am _) ?_)));exact⟨by simp[iD,gd, *],rfl⟩
theorem Gh(x:Value)(l:List Int)(v:Int)(hl:l.length≤1000000):
    DT 181 #[x,(.int .i64 (v))] (IsI .i64 x l) [] (dA (λr' H=>∃n:Int,r'= .int .i64 n∧(decide (n≥0)=true↔v∈l)∧H=[])):=by
 refine BD 19 Tryz.func181 rfl rfl rfl λw0 F hF=>sr λ_ J1=>PS ?_
 refine nx J1 (aa λ_ J2=>sr λ_ J3=>PS ?_);refine tp (dI rfl jx rfl hF.len) ?_;refine PS ?_;refine nx J3 (av ?_)
 refine bz (α:=(Nat)) (λk=>k≤l.length∧∀(j:Nat),j<k→l.getD j 0≠v) (λk=>[(0,x),(1,(.int .i64 (v))),(7,(.int .i64 (((l.length:Nat):Int)))),(8,(.int .i64 (((k:Nat):Int))))]) (λk=>[]) (λk=>l.length-k) 0
     ⟨aO _,λj h=>absurd h (by omega)⟩ SB
     (λ_ s=>s) (λk hinv=>?_)
 obtain⟨hk,hv⟩:=hinv;refine sr λ_ J4=>PS ?_
 refine aq ?_ ?_<;>intro h9;obtain⟨b_a,off_a,cap_a,cs_a,T_a,z_a,hv_a,hb_a,hcs_a,hcp_a⟩:=IsI.at hF (j:=k) (by omega);refine nx J4 (aa λ_ J5=>CY (qx J5 (aa λ_ J6=>av (sr λ_ J7=>P2 ?_))));refine nx J7 (sr λ_ J8=>P3 ?_);refine tp (bO (r:=off_a+k) hv_a rfl jx aR rfl rfl (by omega) (by omega) (by omega)) ?_;refine tp (de (v:=(.int .i64 ((l.getD k 0)))) rfl Y3 rfl rfl (zO hb_a (λ_ h=>fm h)) hcs_a) ?_;refine PS ?_;refine aq ?_ ?_<;>intro h16;refine nx J8 (CY (sr λ_ J9=>P2 ?_));refine nx J9 (aj (aK (ag (ag (aK (ag (WK [] (aw rfl rfl ?_))))))));exact⟨((k:Nat):Int),rfl,by rw[decide_eq_true_iff];exact⟨λ_=>by rw[h16,List.getD_eq_getElem?_getD,List.getElem?_eq_getElem (by omega)];exact df _,λ_=>by omega⟩,rfl⟩;refine nx J8 (CN (aV (ai (ae J6 (af (AD ?_))))));refine PS ?_;refine ax ?_
 exact aM ((k+1):(Nat)) ⟨by omega,λj hj=>by
        by_cases q:j=k
        · subst q;exact λe=>h16 e.symm
        · exact hv j (by omega)⟩ (by show l.length- (k+1)<l.length-k;omega)
   SB
   (λ_ s=>s)
 refine nx J4 (aa λ_ J10=>CN (aX (aC (aC (bq (ae J2 (sr λ_ J11=>PS ?_)))))));refine nx J11 (aj (WK [] (aw rfl rfl ?_)))
 exact⟨-1,rfl,by
      rw[decide_eq_true_iff];constructor
      · intro h;omega
      · intro h
        obtain⟨j,hj,e⟩:=fB h;have:=hv j (by omega);rw[List.getD_eq_getElem?_getD,List.getElem?_eq_getElem hj]at this
        exact absurd e this,rfl⟩
theorem sn(x:Value)(l:List Int)(v:Int)(hl:l.length≤1000000):
 DT 158 #[x,(.int .i64 (v))] (IsI .i64 x l) [] (RI (.bool (decide (v∈l))) []):=by
 refine BD 9 Tryz.func158 rfl rfl rfl λw0 F hF=>sr λ_ J1=>PS ?_
 refine nx J1 (sr λ_ J2=>P2 ?_);refine CQ PN (Gh x l v hl) ID (λ_ d _=>IsI.more hF d) λvR HR hR=>?_
 obtain⟨n,rfl,hn,rfl⟩:=hR;refine P2 ?_;refine nx J2 (aj (WK [] (aw rfl rfl ?_)));exact⟨congrArg Value.bool (by rw[O5,hn,decide_eq_true_iff]),rfl⟩
theorem sz(t c:Nat)(A v:Value)(bs ys:List UInt8)(hA:A= .pointer none∨A= .pointer (some ⟨t,1,none⟩))(hv:v.oneCell'=true)(hb:bs.length+ys.length≤1000000):DT 64 #[.pointer (some ⟨t,1,none⟩),iZ ys] T0 [ak t [.pointer (some ⟨c,0,none⟩),A,v] 102,cw v bs 5] (dA (λ_ H=>∃v',v'.oneCell'=true∧H=[ak t [.pointer (some ⟨c,0,none⟩), .pointer (some ⟨t,1,none⟩),v'] 102,cw v' (bs++ys) 5])):=by
 rcases hA with rfl|rfl
 · exact CJ t c v bs ys hv hb
 · exact CI t c v bs ys hv hb
def M2(n:Int):List UInt8:=Jp n.toNat
def KF(l:List Int):List UInt8:=l.flatMap λn=>32::M2 n
def Hr(ws:List UInt8)(l:List Int):List UInt8:=ws++KF l++[10]
end Go.Proofs.YtfocodjhmkokpaaGreatDoor
end

section
namespace Go.Proofs
open Go.Shelf
def Tryz.laysItoa_ren:Go.Shelf.Ren:=⟨fun|171=>63|243=>101|246=>137|283=>166|284=>167|285=>168|286=>169|129=>186|317=>185|318=>187|319=>188|320=>189|337=>193|338=>194|n=>n,fun|3=>3|9=>9|2=>2|4=>4|171=>236|0=>0|53=>237|37=>53|5=>5|173=>240|212=>260|51=>254|20=>20|213=>261|46=>109|232=>266|233=>173|n=>n,fun|17=>0|18=>1|19=>2|n=>n⟩
theorem Tryz.laysItoa:Go.Proofs.LaysM.n171 Tryz.prog Tryz.laysItoa_ren:= {
 mixed:=by kernel_rfl
 f129:=Tryz.func186.trans (congrArg some (by kernel_rfl))
 f171:=Tryz.func63.trans (congrArg some (by kernel_rfl))
 f243:=Tryz.func101.trans (congrArg some (by kernel_rfl))
 f246:=Tryz.func137.trans (congrArg some (by kernel_rfl))
 f283:=Tryz.func166.trans (congrArg some (by kernel_rfl))
 f284:=Tryz.func167.trans (congrArg some (by kernel_rfl))
 f285:=Tryz.func168.trans (congrArg some (by kernel_rfl))
 f286:=Tryz.func169.trans (congrArg some (by kernel_rfl))
 f317:=Tryz.func185.trans (congrArg some (by kernel_rfl))
 f318:=Tryz.func187.trans (congrArg some (by kernel_rfl))
 f319:=Tryz.func188.trans (congrArg some (by kernel_rfl))
 f320:=Tryz.func189.trans (congrArg some (by kernel_rfl))
 f337:=Tryz.func193.trans (congrArg some (by kernel_rfl))
 f338:=Tryz.func194.trans (congrArg some (by kernel_rfl))
 t0:=Tryz.underlying0
 a0:=Tryz.isAgg0
 z0:=Tryz.sizeOf0
 v0:=Tryz.zeroValue0
 t2:=Tryz.underlying2
 a2:=Tryz.isAgg2
 z2:=Tryz.sizeOf2
 v2:=Tryz.zeroValue2
 t3:=Tryz.underlying3
 a3:=Tryz.isAgg3
 z3:=Tryz.sizeOf3
 v3:=Tryz.zeroValue3
 t4:=Tryz.underlying4
 a4:=Tryz.isAgg4
 z4:=Tryz.sizeOf4
 v4:=Tryz.zeroValue4
 t5:=Tryz.underlying5
 a5:=Tryz.isAgg5
 z5:=Tryz.sizeOf5
 v5:=Tryz.zeroValue5
 t9:=Tryz.underlying9
 a9:=Tryz.isAgg9
 z9:=Tryz.sizeOf9
 v9:=Tryz.zeroValue9
 t20:=Tryz.underlying20
 a20:=Tryz.isAgg20
 z20:=Tryz.sizeOf20
 v20:=Tryz.zeroValue20
 t37:=Tryz.underlying53
 a37:=Tryz.isAgg53
 z37:=Tryz.sizeOf53
 v37:=Tryz.zeroValue53
 t46:=Tryz.underlying109
 a46:=Tryz.isAgg109
 z46:=Tryz.sizeOf109
 v46:=Tryz.zeroValue109
 t51:=Tryz.underlying254
 a51:=Tryz.isAgg254
 z51:=Tryz.sizeOf254
 v51:=Tryz.zeroValue254
 t53:=Tryz.underlying237
 a53:=Tryz.isAgg237
 z53:=Tryz.sizeOf237
 v53:=Tryz.zeroValue237
 t171:=Tryz.underlying236
 a171:=Tryz.isAgg236
 z171:=Tryz.sizeOf236
 v171:=Tryz.zeroValue236
 t173:=Tryz.underlying240
 a173:=Tryz.isAgg240
 z173:=Tryz.sizeOf240
 v173:=Tryz.zeroValue240
 t212:=Tryz.underlying260
 a212:=Tryz.isAgg260
 z212:=Tryz.sizeOf260
 v212:=Tryz.zeroValue260
 t213:=Tryz.underlying261
 a213:=Tryz.isAgg261
 z213:=Tryz.sizeOf261
 t232:=Tryz.underlying266
 a232:=Tryz.isAgg266
 z232:=Tryz.sizeOf266
 v232:=Tryz.zeroValue266
 t233:=Tryz.underlying173
 a233:=Tryz.isAgg173
 z233:=Tryz.sizeOf173
 v233:=Tryz.zeroValue173
 g17:=by kernel_rfl
 g18:=by kernel_rfl
 g19:=by kernel_rfl
 i0:=by kernel_rfl
 i2:=by kernel_rfl
 i3:=by kernel_rfl
 i4:=by kernel_rfl
 i5:=by kernel_rfl
 i9:=by kernel_rfl
 i20:=by kernel_rfl
 i37:=by kernel_rfl
 i46:=by kernel_rfl
 i51:=by kernel_rfl
 i53:=by kernel_rfl
 i171:=by kernel_rfl
 i173:=by kernel_rfl
 i212:=by kernel_rfl
 i232:=by kernel_rfl
 i233:=by kernel_rfl
 m17:=by kernel_rfl
 m18:=by kernel_rfl
 m19:=by kernel_rfl}
end Go.Proofs
end

section
namespace Leg
open Go
def Lb(g F:Hl):Hl:=λb=>if(F b).isSome then none else g b
theorem MT(g F:Hl):Dj (Lb g F) F:=λb=>by
 unfold Lb;cases hF:F b with
 |some o=>exact .inl rfl
 |none=>exact .inr rfl
theorem MR{g F:Hl}(h:Le F g):g=jn (Lb g F) F:=by
 funext b
 unfold jn Lb;cases hF:F b with
 |some o=>rw[h b o hF];rfl
 |none=>
  show g b=match g b with|some o=>some o|none=>none
  cases g b<;>rfl
theorem Does.grown{P:Program}{f:FuncId}{args:Array Value}{R:Hl→Prop}{v:Value}
 (h: ∀w F,R F→(∀b o,F b=some o→w.heap[b]?=some o)→Calls P f args w λe w'=>e= .returned v∧∃k os,w'=Sort.grow (w.drewN k) os):
 Does P f args R [] (dA λr H=>r=v∧H=[]):=λw F r m=>by
 refine(h w F r λb o e=>m.frame e).mono ?_
 rintro e w' ⟨rfl,k,os,rfl⟩
 have h0:(w.drewN k).heap=w.heap:=by simp[World.drewN]
 have h1:(Sort.grow (w.drewN k) os).heap=w.heap++os:=by show(w.drewN k).heap++os=_;rw[h0]
 have hh:Le F (hp (Sort.grow (w.drewN k) os)):=λb o e=>by
  have h2:=m.frame e;obtain⟨h3,_⟩:=Array.getElem?_eq_some_iff.1 h2;show(Sort.grow (w.drewN k) os).heap[b]?=some o;rw[h1,Array.getElem?_append_left h3];exact h2
 exact⟨⟨rfl,rfl,rfl,by rw[h1,Array.size_append];omega⟩,[],⟨Lb (hp (Sort.grow (w.drewN k) os)) F,MT _ _,MR hh,trivial⟩,rfl,rfl⟩
end Leg
namespace Go.Proofs.YtfocodjhmkokpaaGreatDoor
open Go Leg
def TabR (F : Hl) : Prop := ∀ w : World, (∀ b o, F b = some o → w.heap[b]? = some o) → Lib.TabIs Tryz.prog w "internal/strconv.uint64pow10" .u64 Lib.pow10Tab
theorem TabR.more{F g:Hl}(h:TabR F)(d:Dj g F):TabR (jn g F):=λw q=>h w λb o e=>q b o (Le.right d b o e)
abbrev lH:= @TabR.more
theorem TabR.of {w : World} (h : Lib.TabIs Tryz.prog w "internal/strconv.uint64pow10" .u64 Lib.pow10Tab) : TabR (hp w) := fun w' q => by
 unfold Lib.TabIs World.var? at h ⊢;cases hg : Tryz.prog.globalNamed "internal/strconv.uint64pow10" with
 |none=>rw[hg]at h;cases h
 |some g=>
  rw[hg]at h;simp only[Option.bind_some]at h ⊢;cases ho:w.heap[g]?with
  |none=>rw[ho]at h;cases h
  |some o=>rw[q g o ho];rw[ho]at h;exact h
def zX(n:Int):Prop:= -9223372036854775808≤n∧n≤9223372036854775807
theorem yw(n:Int)(h:zX n):DT 63 #[.int .i64 n] TabR [] (RI (iZ (Lib.itoa n)) []):=
 Does.grown λw F r q=>Any.strconv_Itoa Tryz.laysItoa n h.1 h.2 w (r w q)
theorem ol{n:Int}(h:zX n):(Lib.itoa n).length≤21:=Lib.itoa_length_le n h.1 h.2
def gO(l:List Int):List UInt8:=l.flatMap λn=>32::Lib.itoa n
def mV(ws:List UInt8)(l:List Int):List UInt8:=ws++gO l++[10]
def All64(l:List Int):Prop:=∀n∈l,zX n
theorem o5: ∀l,All64 l→(gO l).length≤22*l.length
 | [],_=>aH _
 |n::l,h=>by
  have h1:=o5 l λm hm=>h m (cI _ hm)
  have h2:=Lib.itoa_length_le n (h n (cn ..)).1 (h n (cn ..)).2;show(32::Lib.itoa n++gO l).length≤_;simp only[ac,ah]at h1 h2 ⊢;omega
theorem All64.take{l:List Int}(h:All64 l)(k:Nat):All64 (l.take k):=λn hn=>h n (gj hn)
theorem sO(l:List Int){k:Nat}(h:k<l.length):gO (l.take (k+1))=gO (l.take k)++([32]++Lib.itoa (l.getD k 0)):=by
 unfold gO;rw[bU h,sw];simp[List.getD_eq_getElem?_getD,h]
theorem rM{ws:List UInt8}{l:List Int}(h:All64 l):(mV ws l).length≤ws.length+22*l.length+1:=by
 have:=o5 l h;unfold mV;simp only[ac,ah,ao];omega
theorem Hk{l:List Int}{k:Nat}(h:k<l.length):l.getD k 0∈l:=by
 rw[List.getD_eq_getElem?_getD,List.getElem?_eq_getElem h];exact df h
open Codec Api Dsk Wal
theorem nR(t c:Nat)(A v x:Value)(bs ws:List UInt8)(l:List Int)(hA:A= .pointer none∨A= .pointer (some ⟨t,1,none⟩))(hv:v.oneCell'=true)(hd:All64 l)(hb:bs.length+ws.length+22*l.length+1≤1000000):
 DT 39 #[(.pointer (some ⟨t,0,none⟩)),(iZ (ws)),x] (λF=>IsI .i64 x l F∧TabR F) [ak t [(.pointer (some ⟨c,0,none⟩)),A,v] 102,cw v (bs) 5] (dA (λ_ H=>∃v',v'.oneCell'=true∧H=[ak t [(.pointer (some ⟨c,0,none⟩)),(.pointer (some ⟨t,1,none⟩)),v'] 102,cw v' (bs++mV ws l) 5])):=by
 refine BD 31 Tryz.func39 rfl rfl rfl λw0 F hF=>?_
 have hI:=hF.1;have hT:=hF.2;refine sr λ_ J1=>P2 ?_
 refine FA 1 JF xq ?_;refine PS ?_;refine CR Ox (sz t c A v (bs) (ws) hA hv (by first|omega| (simp only[ac,ah,ao];omega))) ID λvR HR hR=>?_
 obtain⟨w1,hw1,rfl⟩:=hR;refine nx J1 (aa λ_ J2=>sr λ_ J3=>PS ?_);refine tp (dI rfl jx rfl hI.len) ?_;refine PS ?_;refine nx J3 (av ?_)
 refine bz (α:=(Nat)×(Value)) (λ⟨k,v2⟩=>k≤l.length∧v2.oneCell'=true) (λ⟨k,v2⟩=>[(0,(.pointer (some ⟨t,0,none⟩))),(13,x),(14,(.int .i64 (((l.length:Nat):Int)))),(15,(.int .i64 (((k:Nat):Int))))]) (λ⟨k,v2⟩=>[ak t [(.pointer (some ⟨c,0,none⟩)),(.pointer (some ⟨t,1,none⟩)),v2] 102,cw v2 (bs++ws++gO (l.take k)) 5]) (λ⟨k,v2⟩=>l.length-k) (0,w1)
  ⟨aO _,hw1⟩ SB
  (λ_ s=>by show bH [ak t [(.pointer (some ⟨c,0,none⟩)),(.pointer (some ⟨t,1,none⟩)),w1] 102,cw w1 (bs++ws++gO (l.take 0)) 5] _;rw[show bs++ws++gO (l.take 0)=bs++ws from aL _];exact s) (λ⟨k,v2⟩ hinv=>?_)
 obtain⟨hk,hv2⟩:=hinv;have hnl:=o5 (l.take k) (hd.take k);rw[aZ]at hnl;refine sr λ_ J4=>PS ?_
 refine aq ?_ ?_<;>intro h16;have hkl:k<l.length:=by omega
 obtain⟨b_a,off_a,cap_a,cs_a,T_a,z_a,hv_a,hb_a,hcs_a,hcp_a⟩:=IsI.at hI (j:=k) (by omega);refine nx J4 (aa λ_ J5=>CY (qx J5 (aa λ_ J6=>av (sr λ_ J7=>tp (bO (r:=off_a+k) hv_a rfl jx aR rfl rfl (by omega) (by omega) (by omega)) ?_))));refine tp (de (v:=(.int .i64 ((l.getD k 0)))) rfl Y3 rfl rfl (zO hb_a (λ_ h=>fm h)) hcs_a) ?_;refine PS ?_;refine nx J7 (D0 dx ?_);refine PD 0 ?_;refine PD 1 ?_;refine FD 2 1 JF xq ?_;refine PD 3 ?_;refine AL 4 ?_;refine CF Pw (yw (l.getD k 0) (hd _ (Hk hkl))) ID (λ_ d _=>lH hT d) ?_;have hit:=ol (hd _ (Hk hkl));refine EN (ta 5 rfl (dd (a:=[32]) (b:=Lib.itoa (l.getD k 0)) rfl rfl rfl (by simp only[ah,ao];omega)) ?_);refine AL 6 ?_;refine CR Ox (sz t c (.pointer (some ⟨t,1,none⟩)) v2 (bs++ws++gO (l.take k)) ([32]++Lib.itoa (l.getD k 0)) (Or.inr rfl) hv2 (by first|omega| (simp only[ac,ah,ao];omega))) ID λvR HR hR=>?_
 obtain⟨w2,hw2,rfl⟩:=hR;refine EN (DN (ai (ae J6 (af (AD ?_)))));refine PS ?_;refine ax ?_
 exact aM ((k+1,w2):(Nat)×(Value)) ⟨by omega,hw2⟩ (by show l.length- (k+1)<l.length-k;omega)
  SB
  (λ_ s=>by show bH [ak t [(.pointer (some ⟨c,0,none⟩)),(.pointer (some ⟨t,1,none⟩)),w2] 102,cw w2 (bs++ws++gO (l.take (k+1))) 5] _;rw[sO l (show k<l.length by omega),←aI];exact s)
 refine nx J4 (aa λ_ J8=>CN (aX (aC (aC (bq (ae J2 (af (P2 ?_))))))));refine FA 1 JF xq ?_;refine CR Ox (sz t c (.pointer (some ⟨t,1,none⟩)) v2 (bs++ws++gO (l.take k)) ([10]) (Or.inr rfl) hv2 (by first|omega| (simp only[ac,ah,ao];omega))) ID λvR HR hR=>?_
 obtain⟨w2,hw2,rfl⟩:=hR;exact ax (aF (H':=[ak t [(.pointer (some ⟨c,0,none⟩)),(.pointer (some ⟨t,1,none⟩)),w2] 102,cw w2 (bs++mV ws l) 5]) (dH _) (λ_ s=>by rw[show bs++mV ws l=bs++ws++gO (l.take k)++[10]by rw[az (by omega)];simp[mV]];exact s) (bC rfl ⟨_,hw2,rfl⟩))
end Go.Proofs.YtfocodjhmkokpaaGreatDoor
end
