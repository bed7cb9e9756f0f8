/-
  Joined texts:what a statement's proof reaches.
-/
import Derived.Test.YtkhjnolhhidecaaGreatDoorPWC5
set_option maxHeartbeats 8000000
set_option maxRecDepth 100000
set_option linter.unusedSimpArgs false
set_option linter.unusedVariables false
section
namespace Go.Proofs.YtkhjnolhhidecaaGreatDoor
open Go Leg Codec Api Dsk Wal
theorem H3{δ:Type}(V:Env δ)(r lg:Nat)(x:RepT)(m:RecT)(e:δ)(l:List SaidT)(hlog:x.log= .pointer (some ⟨lg,0,none⟩))(hok:V.ok e):
 DT 97 #[(.pointer (some ⟨r,0,none⟩)),(.agg (ints m.flat).toArray)] T0 [aj r (RepT.cells x) 95,V.lg lg e,V.E e l] (RI (.int .i64 (V.pt e (la m)).2) [aj r (RepT.cells x) 95,V.lg lg (V.pt e (la m)).1,V.E (V.pt e (la m)).1 l]):=by
 refine BD 12 Tryz.func97 rfl rfl rfl λw0 F hF=>sr λ_ J1=>XY (ints m.flat) λb3=>?_
 refine PS ?_;refine nx J1 (aa λ_ J2=>D2 1 0 bl ?_);refine PD 0 ?_;refine PD 1 ?_;refine FD 2 1 dx Qz ?_;refine LX 3 Tryz.underlying83 (.pointer (some ⟨lg,0,none⟩)) ?_ (hc:=by exact(RepT.at_log x rfl).trans (congrArg some hlog));refine LY 4 eH gq bz ?_;refine AL 5 ?_;refine CR Px (Du m) ID λvR HR hR=>?_
 obtain⟨_,rfl,rfl⟩:=hR;revert vR;intro ue;refine EN (AL 6 ?_);refine CF Py (V.put lg ue (la m) e l hok (yp m)) (SM [3,3]) (λg d s=>Lk (tZ 0 rfl rfl g d s)) ?_;refine EN (PD 7 ?_);exact DN (ad J2 (ah (WK [4,0,0] (aw rfl rfl ⟨rfl,rfl⟩))))
theorem l5{δ:Type}(V:Env δ)(r:Nat)(s:MS δ)(m:RecT)[hs:OkR V.toDk s]:DT 97 #[.pointer (some ⟨r,0,none⟩), .agg (ints m.flat).toArray] T0 [cU V r s] (RI (.int .i64 (mA V.toDk s m)) [cU V r (dR V.toDk s m)]):=
 Leg.Does.pack λa=>Leg.Does.withinR (H3 V r a.lg (s.rep a) m s.e s.o rfl hs.e) (λ_ _ _ _=>trivial) (λ_ q=>aD [0,0,2] rfl q) λv H hp=>by
  obtain⟨h1,rfl⟩:=hp;exact⟨_,λ_ q=>bw (p:=λa:Adr=>[aj r (RepT.cells ((dR V.toDk s m).rep a)) 95,V.lg a.lg (dR V.toDk s m).e,own a.rs (dR V.toDk s m).replies.length (ints ((dR V.toDk s m).replies.flatMap ReplyT.flat)) 45 3,Gr a.vo (dR V.toDk s m).vote,V.E (dR V.toDk s m).e (dR V.toDk s m).o]) a (aD [0,0,1,1,0] rfl q),h1,rfl⟩
theorem fp{δ:Type}(V:Env δ)(r:Nat)(s:MS δ)(op err val:Int)(hrs:s.replies.length≤1000000):DT 52 #[.pointer (some ⟨r,0,none⟩), .int .i64 op, .int .i64 err, .int .i64 val] T0 [cU V r s] (dG (λ_ H=>H=[cU V r (dw s op err val)])):=
 Leg.Does.pack λa=>Leg.Does.withinR (Fs r (s.rep a) op err val s.replies hrs) (λ_ _ _ _=>trivial) (λ_ q=>aD [0,1] rfl q) λv H hp=>by
  obtain⟨v',_,rfl⟩:=hp;exact⟨_,λ_ q=>bw (p:=λa:Adr=>[aj r (RepT.cells ((dw s op err val).rep a)) 95,V.lg a.lg (dw s op err val).e,own a.rs (dw s op err val).replies.length (ints ((dw s op err val).replies.flatMap ReplyT.flat)) 45 3,Gr a.vo (dw s op err val).vote,V.E (dw s op err val).e (dw s op err val).o]) {a with rs:=v'} (aD [0,1,0,0,0] rfl q),rfl⟩
theorem sK{δ:Type}(V:Env δ)(r:Nat)(s:MS δ)(y:RowT)(op:Int)[OkR V.toDk s][OkRow y]:
 DT 53 #[(.pointer (some ⟨r,0,none⟩)),(.iface V.T V.ov),(.agg (ints y.flat).toArray),(.int .i64 (op))] T0 [cU V r s] (RI (.int .i64 (dI V.toDk s y op).2) [cU V r (dI V.toDk s y op).1]):=by
 refine BD 34 Tryz.func53 rfl rfl rfl λw0 F hF=>sr λ_ J1=>XY (ints y.flat) λb6=>?_
 refine PS ?_;refine nx J1 (aa λ_ J2=>sr λ_ J3=>PS ?_);refine LW 0 el bf ai ?_;refine tp (ku RecT.zero (RecT.mk 0 0 y 0 BallotT.zero ChangeT.zero ViewT.zero) [(0,[Value.int .i64 0]),(2,ints y.flat)] eH fB (g:=RecT.sg)) ?_;refine CE FC (l5 V r s (gX y)) (SM [1]) ?_;refine PS ?_;refine nx J3 (sr λ_ J4=>P2 ?_);refine ap ?_ ?_<;>intro h15;refine nx J4 (CY (sr λ_ J5=>P2 ?_));refine nx J5 (ah (ae (WK [0] (aw rfl rfl ?_))));have e:dI V.toDk s y op=(dR V.toDk s (gX y),mA V.toDk s (gX y)):=if_pos h15;exact kn e;refine nx J4 (CN (qx J2 (sr λ_ J6=>P4 ?_)));refine LW 1 el bf ai ?_;refine P2 ?_;refine FA 9 dx bf ?_;refine iB (vs:=ints y.flat) (i:=0) (ab rfl) rfl rfl rfl rfl rfl (by rw[(ai y)];exact bf) (bv _) rfl rfl (λ_=>LC (di _) (ai _)) (λa_=>(RP ((dR V.toDk s (gX y)).rep a_) 0 rfl (by have h1:=(ai y);omega) (cy ((ai (((dR V.toDk s (gX y)).rep a_).own)).trans (ai y).symm)))) (PS ?_);refine FA 1938 dx lT ?_;refine SK 0 lT (λ_=>di _) ?_ (hc:=by exact λa_=>(Rs _ rfl _));refine PS ?_;refine FA 1939 dx aO ?_;refine SK 0 aO (λ_=>di _) ?_ (hc:=by exact λa_=>(Rr _ rfl _));refine PS ?_;refine FA 1940 dx aO ?_;refine SK 0 aO (λ_=>di _) ?_ (hc:=by exact λa_=>(RepT.set_waits _ rfl _));refine nx J6 (sr λ_ J7=>P2 ?_);refine CZ NV (oH V r (pZ (dR V.toDk s (gX y)) y op)) ID λvR=>?_
 refine nx J7 (sr λ_ J8=>PS ?_);refine nx J8 (ah (WK [0] (aw rfl rfl ?_)));have e:dI V.toDk s y op=(eX V.toDk (pZ (dR V.toDk s (gX y)) y op),0):=if_neg h15;exact kn e
theorem pW(x:RowT)(who:Int)(d:RowT):
 DT 114 #[(.agg (ints x.flat).toArray),(.int .i64 (who)),(.agg (ints d.flat).toArray)] T0 [] (RI (.tuple #[.agg (ints (cK x who d).1.flat).toArray, .int .i64 (cK x who d).2]) []):=by
 refine BD 68 Tryz.func114 rfl rfl rfl λw0 F hF=>sr λ_ J1=>XY (ints x.flat) λb3=>?_
 refine XY (ints d.flat) λb5=>?_
 refine XZ vw (ints RowT.zero.flat) λb6=>?_
 refine PS ?_;refine nx J1 (aa λ_ J2=>sr λ_ J3=>PS ?_);refine CE GQ (kT who) ID ?_;refine bg ?_ ?_<;>intro h11;have hw:cI who=true:=by simpa using h11
 have hw2:0≤who∧who<5:=of_decide_eq_true hw;refine PS ?_;refine nx J3 (CN (qx J2 (aa λ_ J4=>sr λ_ J5=>PS ?_)));refine FA 29 el fR ?_;refine IX (29+who.toNat) kJ aO ?_;refine LT 2 Y3 (.int .i64 ((x.heir[who.toNat]'(by omega)))) ?_ (hc:=by exact sS x (who.toNat) (by omega) (by omega) (li x.heir (by omega)));refine PS ?_;refine ap ?_ ?_<;>intro h18;refine nx J5 (CY (sr λ_ J6=>BV ((ints RowT.zero.flat).toArray) ?_));refine SW 0 bf ai ?_;refine PS ?_;refine nx J6 (ah (ae (RT 0 [] el bf (ai _) ?_)));have e:cK x who d=(.zero,8):=by rw[cK,hw,heirAt,dif_pos hw,if_neg (by decide),if_pos h18]
 exact⟨by rw[e],rfl⟩;refine nx J5 (CN (qx J4 (aa λ_ J7=>D1 1 bl ?_)));refine PD 0 ?_;refine PD 1 ?_;refine FD 2 0 el aO ?_;refine LR 3 Y3 (cM d rfl) ?_;refine ta 4 rfl (bA (r:=(fy (d.version+1))) rfl rfl rfl rfl) ?_;refine FD 5 1 el mp ?_;refine ta 6 rfl (aN (vs:=ints (bS d.cells.toList)) rfl Ce rfl mp rfl (λ_ h=>h.2.1) (eI d.cells) (EK d 0 rfl (by decide) (whole (eI d.cells)))) ?_;refine FD 7 29 el fR ?_;refine IY 8 (29+who.toNat) kJ aO ?_;refine FD 10 34 el CA ?_;refine AL 9 ?_;refine bK (i:=2) (ab rfl) rfl rfl rfl rfl rfl aO rfl rfl (LB (ai _)) (RowT.st_heir x (who.toNat) (by omega) (by omega) (qt x.heir (by omega) _)) rfl (EN (IY 11 (34+who.toNat*28) Nk mp ?_));refine AL 12 ?_;refine bW (vs:=ints (bS d.cells.toList)) (i:=2) (ab rfl) rfl rfl rfl rfl rfl (by rw[(eI d.cells)];exact mp) (bv _) rfl rfl (LC (ai _) (eI _)) (RowT.wr_left_ (RowT.mk x.version x.cells (x.heir.set who.toNat (fy (d.version+1)) (by omega)) x.left) (who.toNat*28) (by omega) (by have h1:=(eI d.cells);omega) (pT uJ x.left (i:=who.toNat) 0 (by omega) (by omega) (by have h1:=(eI d.cells);omega) (cy ((eI (x.left[who.toNat]'(by omega))).trans (eI d.cells).symm)))) rfl (EN (DN (ad J7 (aa λ_ J8=>sr λ_ J9=>FA 29 el fR ?_))));refine tp (aN (vs:=ints d.heir.toList) rfl kJ rfl fR rfl (RO 1) (cV d.heir) (Rm d 0 rfl (by decide) (whole (cV d.heir)))) ?_;refine PS ?_;refine nx J9 (am ?_)
 refine bG (α:=(Nat)×(RowT)) (λ⟨k,y⟩=>k≤5∧y=inhTo x who d k) (λ⟨k,y⟩=>[(1,(.int .i64 (who))),(3,(.pointer (some ⟨b3,0,none⟩))),(5,(.pointer (some ⟨b5,0,none⟩))),(6,(.pointer (some ⟨b6,0,none⟩))),(7,(.int .i64 0)),(32,(.agg (ints d.heir.toList).toArray)),(33,(.int .i64 (((k:Nat):Int))))]) (λ⟨k,y⟩=>[aj b6 (ints RowT.zero.flat) 74,aj b5 (ints d.flat) 74,aj b3 (ints y.flat) 74]) (λ⟨k,y⟩=>5-k) (0,(RowT.mk x.version x.cells (x.heir.set who.toNat (fy (d.version+1)) (by omega)) (x.left.set who.toNat d.cells (by omega))))
  ⟨aP _,by rw[inhTo,setHeir,dif_pos hw];rfl⟩ SB
  (λ_ s=>ak [0,0,0] rfl s) (λ⟨k,y⟩ hinv=>?_)
 obtain⟨hk,hy⟩:=hinv;refine sr λ_ J10=>PS ?_
 refine ap ?_ ?_<;>intro h34;refine nx J10 (aa λ_ J11=>CY (qx J11 (aa λ_ J12=>am (sr λ_ J13=>PS ?_))));refine tp (jf (cs:=ints d.heir.toList) (v:=Value.int .i64 (d.heir[k]'(by omega))) (r:=k) rfl kJ Y3 rfl aO rfl rfl (by omega) (by omega) (by omega) (li d.heir (by omega))) ?_;refine P2 ?_;refine nx J13 (sr λ_ J14=>P3 ?_);refine ap ?_ ?_<;>intro h39;refine P3 ?_;refine ap ?_ ?_<;>intro h42;refine P3 ?_;refine FA 29 el fR ?_;refine IX (29+k) kJ aO ?_;refine LT 2 Y3 (.int .i64 ((y.heir[k]'(by omega)))) ?_ (hc:=by exact sS y k (by omega) (by omega) (li y.heir (by omega)));refine PS ?_;refine ap ?_ ?_<;>intro h49;refine PS ?_;refine nx J14 (CY (D1 1 bl ?_));refine PD 0 ?_;refine PD 1 ?_;refine PD 2 ?_;refine PD 3 ?_;refine FD 4 34 el CA ?_;refine IY 5 (34+k*28) Nk mp ?_;refine ta 6 rfl (aN (vs:=ints (bS (d.left[k]'(by omega)).toList)) rfl Ce rfl mp rfl (λ_ h=>h.2.1) (eI (d.left[k]'(by omega))) (Hc d (k*28) (by omega) (by omega) (lD uJ d.left (i:=k) 0 (by omega) (by omega) (by decide) (whole (eI (d.left[k]'(by omega))))))) ?_;refine FD 7 29 el fR ?_;refine IY 8 (29+k) kJ aO ?_;refine FD 10 34 el CA ?_;refine AL 9 ?_;refine bK (i:=2) (ab rfl) rfl rfl rfl rfl rfl aO rfl rfl (LB (ai _)) (RowT.st_heir y k (by omega) (by omega) (qt y.heir (by omega) _)) rfl (EN (IY 11 (34+k*28) Nk mp ?_));refine AL 12 ?_
 refine bW (vs:=ints (bS (d.left[k]'(by omega)).toList)) (i:=2) (ab rfl) rfl rfl rfl rfl rfl (by rw[(eI (d.left[k]'(by omega)))];exact mp) (bv _) rfl rfl (LC (ai _) (eI _)) (RowT.wr_left_ (RowT.mk y.version y.cells (y.heir.set k (d.heir[k]'(by omega)) (by omega)) y.left) (k*28) (by omega) (by have h1:=(eI (d.left[k]'(by omega)));omega) (pT uJ y.left (i:=k) 0 (by omega) (by omega) (by have h1:=(eI (d.left[k]'(by omega)));omega) (cy ((eI (y.left[k]'(by omega))).trans (eI (d.left[k]'(by omega))).symm)))) rfl (EN (DN (af (ad J12 (ac (AD ?_))))));refine PS ?_;refine au ?_
 exact aL ((k+1,(RowT.mk y.version y.cells (y.heir.set k (d.heir[k]'(by omega)) (by omega)) (y.left.set k (d.left[k]'(by omega)) (by omega)))):(Nat)×(RowT)) ⟨by omega,by rw[l8,←hy,nt,ig _ (by omega),ig _ (by omega),if_pos ⟨by omega,by omega,by omega⟩,Fk _ (by omega),Is _ (by omega)]⟩ (by show 5- (k+1)<5-k;omega)
  SB
  (λ_ s=>ak [0,0,0] rfl s)
 refine PS ?_;refine nx J14 (CN (aR (af (ad J12 (ac (AD ?_))))));refine PS ?_;refine au ?_
 exact aL ((k+1,y):(Nat)×(RowT)) ⟨by omega,by rw[l8,←hy,nt,ig _ (by omega),ig _ (by omega),if_neg (by omega)]⟩ (by show 5- (k+1)<5-k;omega)
  SB
  (λ_ s=>ak [0,0,0] rfl s)
 refine P2 ?_
 iterate 5 refine UF ?_
 refine PS ?_;refine nx J14 (CN (aR (af (ad J12 (ac (AD ?_))))));refine PS ?_;refine au ?_
 exact aL ((k+1,y):(Nat)×(RowT)) ⟨by omega,by rw[l8,←hy,nt,ig _ (by omega),ig _ (by omega),if_neg (by omega)]⟩ (by show 5- (k+1)<5-k;omega)
  SB
  (λ_ s=>ak [0,0,0] rfl s)
 refine PS ?_;refine UF ?_;refine UF ?_;refine P2 ?_
 iterate 5 refine UF ?_
 refine PS ?_;refine nx J14 (CN (aR (af (ad J12 (ac (AD ?_))))));refine PS ?_;refine au ?_
 exact aL ((k+1,y):(Nat)×(RowT)) ⟨by omega,by rw[l8,←hy,nt,ig _ (by omega),ig _ (by omega),if_neg (by omega)]⟩ (by show 5- (k+1)<5-k;omega)
  SB
  (λ_ s=>ak [0,0,0] rfl s)
 refine nx J10 (aa λ_ J15=>CN (aW (aA (aA (bq (ad J8 (sr λ_ J16=>FA 0 el aO ?_)))))));refine LU 2 Y3 (cM y rfl) ?_;refine tp (bA (r:=(fy (y.version+1))) rfl rfl rfl rfl) ?_;refine FA 0 el aO ?_;refine bK (i:=2) (ab rfl) rfl rfl rfl rfl rfl aO rfl rfl (LB (ai _)) (yI y rfl _) rfl (nx J16 (sr λ_ J17=>LW 2 el bf ai ?_));refine SW 0 bf ai ?_;refine PS ?_;refine nx J17 (ah (RT 0 [] el bf (ai _) ?_));obtain rfl:k=5:=by omega
 subst hy;have e:cK x who d=({inhTo x who d 5 with version:=fy ((inhTo x who d 5).version+1)},0):=by rw[cK,hw,heirAt,dif_pos hw,if_neg (by decide),if_neg h18]
 exact⟨by rw[e],rfl⟩;refine PS ?_;refine nx J3 (CY (sr λ_ J18=>BV ((ints RowT.zero.flat).toArray) ?_));refine SW 0 bf ai ?_;refine PS ?_;refine nx J18 (ah (ae (RT 0 [] el bf (ai _) ?_)));have hw:cI who=false:=by simpa using h11
 have e:cK x who d=(.zero,5):=by rw[cK,hw];rfl
 exact⟨by rw[e],rfl⟩
theorem AA{δ:Type}(V:Env δ)(r:Nat)(s:MS δ)[OkR V.toDk s]:
 DT 112 #[(.pointer (some ⟨r,0,none⟩))] T0 [cU V r s] (dG (λr' H=>∃u,r'=u∧H=[own u (bF s).length (ints (bF s)) 3 1,cU V r s])):=by
 refine BD 44 Tryz.func112 rfl rfl rfl λw0 F hF=>sr λ_ J1=>PS ?_
 refine nx J1 (sr λ_ J2=>PS ?_);refine nx J2 (aa λ_ J3=>sr λ_ J4=>PS ?_);refine nx J4 (am ?_)
 refine bG (α:=(Nat)×(Value)) (λ⟨k,u⟩=>k≤5∧u.oneCell'=true) (λ⟨k,u⟩=>[(0,(.pointer (some ⟨r,0,none⟩))),(2,(.slice none 0 0)),(3,u),(7,(.int .i64 (((k:Nat):Int))))]) (λ⟨k,u⟩=>[own u ((iz s k).length) (ints (iz s k)) 3 1,cU V r s]) (λ⟨k,u⟩=>5-k) (0,(.slice none 0 0))
  ⟨aP _,rfl⟩ SB
  (λ_ s=>gf 3 1 (ak [0] rfl s)) (λ⟨k,u⟩ hinv=>?_)
 obtain⟨hk,hu⟩:=hinv;have hol:=Az s k;refine sr λ_ J5=>PS ?_
 refine ap ?_ ?_<;>intro h8;refine nx J5 (aa λ_ J6=>CY (qx J6 (aa λ_ J7=>am (sr λ_ J8=>P2 ?_))));refine nx J8 (sr λ_ J9=>P2 ?_);refine FA 2 dx bj ?_;refine LZ 1 eG bj an s.view ?_ (hc:=by exact λ_=>dh _);refine PS ?_;refine CE vO (ll s.view ((k:Nat):Int) OkVw.rng) ID ?_;refine P3 ?_;refine bg ?_ ?_<;>intro h18;refine P2 ?_;refine nx J9 (sr λ_ J10=>?_)
 iterate 5 refine PS ?_
 refine FA 0 dx aO ?_;refine LG 1 Y3 (.int .i64 (s.id)) ?_ (hc:=by exact λa_=>(cT _ rfl));refine PS ?_;refine ap ?_ ?_<;>intro h26
 iterate 5 refine PS ?_
 refine FA 9 dx bf ?_;refine FA 38 el fR ?_;refine IX (38+k) kJ aO ?_;refine LG 1 Y3 (.int .i64 ((s.own.heir[k]'(by omega)))) ?_ (hc:=by exact λa_=>(RepT.pt_own (s.rep a_) (29+k) (by omega) (by omega) (sS ((s.rep a_).own) k (by omega) (by omega) (li (((s.rep a_).own).heir) (by omega)))));refine PS ?_;refine ap ?_ ?_<;>intro h36;refine PS ?_;refine nx J10 (CY (ac (P2 ?_)));refine aM (cells:=#[(.int .i64 (((k:Nat):Int)))]) (ab rfl) rfl rfl rfl eh oK rfl rfl rfl (by as_aux_lemma=>kernel_rfl) (λb40=>bX (k:=1) (news:=[(.int .i64 (((k:Nat):Int)))]) (nn':=(iz s k).length+1) (xs':=ints (iz s k)++[(.int .i64 (((k:Nat):Int)))]) (ab rfl) rfl rfl rfl eh oK rfl rfl rfl rfl rfl rfl (λ_ _=>gn rfl (RO 0) rfl) (by simp[Value.oneCell']) (by simp only[maxLen];omega) (by omega) (by simp) (by simp) (λv41 ov41=>PS ?_));refine au (af (ad J7 (ac (AD ?_))));refine PS ?_;refine au ?_
 exact aL ((k+1,v41):(Nat)×(Value)) ⟨by omega,ov41⟩ (by show 5- (k+1)<5-k;omega)
  SB
  (λ_ q=>by
   show bR [own v41 (iz s (k+1)).length (ints (iz s (k+1))) 3 1,cU V r s] _;rw[show iz s (k+1)=iz s k++[((k:Nat):Int)]by rw[pL,if_pos (Ob h18 h26 (by rw[ig _ (by omega)];exact h36))],ag,eR]
   exact ak [1,1] rfl q)
 refine PS ?_;refine nx J10 (CN (aR (af (ad J7 (ac (AD ?_))))));refine PS ?_;refine au ?_
 exact aL ((k+1,u):(Nat)×(Value)) ⟨by omega,hu⟩ (by show 5- (k+1)<5-k;omega)
  SB
  (λ_ q=>by
   show bR [own u (iz s (k+1)).length (ints (iz s (k+1))) 3 1,cU V r s] _;rw[show iz s (k+1)=iz s k by rw[pL,if_neg (by intro hq;have h2:=BR hq;rw[ig _ (by omega)]at h2;first|omega| (simp_all;done)| (simp_all;omega)),aY]]
   exact ak [0,0] rfl q)
 refine P2 ?_
 iterate 8 refine UF ?_
 refine PS ?_;refine nx J10 (CN (aR (af (ad J7 (ac (AD ?_))))));refine PS ?_;refine au ?_
 exact aL ((k+1,u):(Nat)×(Value)) ⟨by omega,hu⟩ (by show 5- (k+1)<5-k;omega)
  SB
  (λ_ q=>by
   show bR [own u (iz s (k+1)).length (ints (iz s (k+1))) 3 1,cU V r s] _;rw[show iz s (k+1)=iz s k by rw[pL,if_neg (by intro hq;have h2:=BR hq;rw[ig _ (by omega)]at h2;first|omega| (simp_all;done)| (simp_all;omega)),aY]]
   exact ak [0,0] rfl q)
 refine P2 ?_;refine nx J9 (sr λ_ J11=>P2 ?_)
 iterate 6 refine UF ?_
 refine P2 ?_
 iterate 8 refine UF ?_
 refine PS ?_;refine nx J11 (CN (aR (af (ad J7 (ac (AD ?_))))));refine PS ?_;refine au ?_
 exact aL ((k+1,u):(Nat)×(Value)) ⟨by omega,hu⟩ (by show 5- (k+1)<5-k;omega)
  SB
  (λ_ q=>by
   show bR [own u (iz s (k+1)).length (ints (iz s (k+1))) 3 1,cU V r s] _;rw[show iz s (k+1)=iz s k by rw[pL,if_neg (by intro hq;have h2:=BR hq;rw[ig _ (by omega)]at h2;first|omega| (simp_all;done)| (simp_all;omega)),aY]]
   exact ak [0,0] rfl q)
 refine nx J5 (aa λ_ J12=>CN (aW (aA (aA (bq (ad J3 (sr λ_ J13=>P2 ?_)))))));refine nx J13 (ah (WK [0,0] (aw rfl rfl ?_)));obtain rfl:k=5:=by omega
 exact⟨u,rfl,rfl⟩
theorem ox{δ:Type}(V:Env δ)(r:Nat)(s:MS δ)(who w:Int)(hm:cI who=true)(hw:0≤w∧w<5):
 DT 113 #[(.pointer (some ⟨r,0,none⟩)),(.int .i64 (who)),(.int .i64 (w))] T0 [cU V r s] (RI (.bool (qw s who w)) [cU V r s]):=by
 refine BD 17 Tryz.func113 rfl rfl rfl λw0 F hF=>?_
 have hm2:0≤who∧who<5:=of_decide_eq_true hm;refine sr λ_ J1=>PS ?_
 refine nx J1 (sr λ_ J2=>P3 ?_);refine FA 1943 dx fR ?_;refine IX (1943+who.toNat) kJ aO ?_;refine LG 0 Y3 (.int .i64 ((s.told[who.toNat]'(by omega)))) ?_ (hc:=by exact λa_=>(RQ (s.rep a_) (who.toNat) (by omega) (by omega) (li ((s.rep a_).told) (by omega))));refine PS ?_;refine tp (iF (r:=((s.told[who.toNat]'(by omega)).fdiv (2^min w.toNat IntKind.i64.bits))) rfl rfl rfl (by omega) rfl) ?_;refine tp (jm (r:=(((s.told[who.toNat]'(by omega)).fdiv (2^min w.toNat IntKind.i64.bits))%2)) rfl rfl rfl (mask (k:=1) (by decide) _)) ?_;refine P2 ?_;refine nx J2 (ah (WK [0] (aw rfl rfl ?_)));exact⟨by rw[qw,kp,dif_pos hm],rfl⟩
theorem pN{δ:Type}(V:Env δ)(r:Nat)(s:MS δ)[OkR V.toDk s]:
    DT 62 #[(.pointer (some ⟨r,0,none⟩)),(.iface V.T V.ov)] T0 [cU V r s] (dG (λ_ H=>H=[cU V r (lm V.toDk s)])):=by
 refine BD 80 Tryz.func62 rfl rfl rfl λw0 F hF=>sr λ_ J1=>PS ?_
 refine CR Nd (AA V r s) ID λvR HR hR=>?_
 obtain⟨_,rfl,rfl⟩:=hR;revert vR;intro ud;refine je 0 rfl rfl (λhlud houd=>PS ?_);refine nx J1 (aa λ_ J2=>sr λ_ J3=>P2 ?_);refine FA 1938 dx lT ?_;refine LG 1 Y4 (.bool (s.busy)) ?_ (hc:=by exact λa_=>(zo _ rfl));refine bg ?_ ?_<;>intro h19;refine PS ?_
 iterate 3 refine UT ?_
 refine PS ?_;refine nx J3 (CY (ah (ae (WK [1] (dZ rfl ?_)))));exact congrArg (λq=>[cU V r q]) (show s=lm V.toDk s from(if_pos (by rw[h19];rfl)).symm);refine P2 ?_;refine tq (dO rfl eh rfl hlud) ?_;refine PS ?_;refine ap ?_ ?_<;>intro h23;refine PS ?_;refine nx J3 (CY (ah (ae (WK [1] (dZ rfl ?_)))));exact congrArg (λq=>[cU V r q]) (show s=lm V.toDk s from(if_pos (by rw[h19,decide_eq_true (by omega)];rfl)).symm);refine PS ?_;refine nx J3 (CN (qx J2 (aa λ_ J4=>sr λ_ J5=>PS ?_)));refine tp (dO rfl eh rfl hlud) ?_;refine PS ?_;refine nx J5 (am ?_)
 refine bG (α:=(Nat)) (λk=>k≤(bF s).length∧∀j,j<k→∀w∈iD ((bF s).getD j 0),qw s ((bF s).getD j 0) w=true) (λk=>[(0,(.pointer (some ⟨r,0,none⟩))),(1,(.iface V.T V.ov)),(4,ud),(25,ud),(26,(.int .i64 ((((bF s).length:Nat):Int)))),(27,(.int .i64 (((k:Nat):Int))))]) (λk=>[own ud ((bF s).length) (ints (bF s)) 3 1,cU V r s]) (λk=>(bF s).length-k) 0
     ⟨aP _,λj h=>absurd h (by omega)⟩ SB
     (λ_ s=>s) (λk hinv=>?_)
 obtain⟨hk,hal⟩:=hinv;refine sr λ_ J6=>PS ?_
 refine ap ?_ ?_<;>intro h28;refine nx J6 (aa λ_ J7=>CY (qx J7 (aa λ_ J8=>am (sr λ_ J9=>?_))));have hmm1:(bF s).getD k 0∈bF s:=by rw[List.getD_eq_getElem?_getD,List.getElem?_eq_getElem (by omega)];exact ez _
 have hm1:cI ((bF s).getD k 0)=true:=(ul hmm1).1;have hn1:0≤(bF s).getD k 0∧(bF s).getD k 0<5:=of_decide_eq_true hm1;refine jV 0 rfl rfl (by omega) (λge1 ce1 he1 _=>tp (bn (r:=k) he1 rfl eh aO rfl rfl (by omega) (by omega) (by omega)) ?_);refine tp (cm (v:=(.int .i64 (((bF s).getD k 0)))) rfl Y3 rfl rfl (gM 0 rfl he1 rfl) (yg (by omega))) ?_;refine PS ?_;refine nx J9 (sr λ_ J10=>PS ?_);refine CR DO (rj ((bF s).getD k 0) hm1) ID λvR HR hR=>?_
 obtain⟨_,rfl,rfl⟩:=hR;revert vR;intro uw;refine je 0 rfl rfl (λhluw _=>jV 0 rfl rfl (by omega) (λgw capw hvw hcapw=>tp (dO rfl eh rfl hluw) ?_));refine PS ?_;refine nx J10 (am (hO 2 (sr λ_ J11=>PS ?_)));refine nx J11 (aa λ_ J12=>CY (qx J12 (aa λ_ J13=>am (sr λ_ J14=>tp (bn (r:=0) hvw rfl eh aO rfl rfl (by omega) (by omega) rfl) ?_))));refine tp (cm (v:=(.int .i64 (((((bF s).getD k 0)+1)%5)))) rfl Y3 rfl rfl (gM 0 rfl hvw rfl) rfl) ?_;refine PS ?_;refine nx J14 (sr λ_ J15=>P3 ?_);refine CE GT (ox V r s ((bF s).getD k 0) ((((bF s).getD k 0)+1)%5) hm1 (by omega)) (SM [2]) ?_;refine bg ?_ ?_<;>intro h41;refine PS ?_;refine nx J15 (CN (aR (af (ad J13 (ac (tp (bA (r:=1) rfl rfl rfl (by decide)) ?_))))));refine PS ?_;refine au (bI (sr λ_ J16=>PS ?_));refine nx J16 (aa λ_ J17=>CY (qx J17 (aa λ_ J18=>am (sr λ_ J19=>tp (bn (r:=1) hvw rfl eh aO rfl rfl (by omega) (by omega) rfl) ?_))));refine tp (cm (v:=(.int .i64 (((((bF s).getD k 0)+2)%5)))) rfl Y3 rfl rfl (gM 1 rfl hvw rfl) rfl) ?_;refine PS ?_;refine nx J19 (sr λ_ J20=>P3 ?_);refine CE GT (ox V r s ((bF s).getD k 0) ((((bF s).getD k 0)+2)%5) hm1 (by omega)) ID ?_;refine bg ?_ ?_<;>intro h41;refine PS ?_;refine nx J20 (CN (aR (af (ad J18 (ac (tp (bA (r:=2) rfl rfl rfl (by decide)) ?_))))));refine PS ?_;refine au (bI (sr λ_ J21=>PS ?_));refine nx J21 (aa λ_ J22=>CN (aW (aA (aA (bq (af (ad J8 (ac (AD ?_)))))))));refine PS ?_
 refine au ?_
 exact aL ((k+1):(Nat)) ⟨by omega,λj hj=>by
        by_cases q:j=k
        · subst q
          intro w hw;rw[iD,if_pos hm1]at hw;simp only[bU,List.not_mem_nil,or_false]at hw;rcases hw with rfl|rfl<;>assumption
        · exact hal j (by omega)⟩ (by show(bF s).length- (k+1)< (bF s).length-k;omega)
   SB
   (λ_ s=>ak [2,0] rfl s)
 refine PS ?_;refine nx J20 (CY (ah (aI (ae (ae (aI (aI (ae (ae (aI (ae ?_)))))))))));refine WK [0] (dZ rfl ?_)
 have hb: ¬toldAll s=true:=λh=>by
   have h2:=List.all_eq_true.1 (List.all_eq_true.1 h _ hmm1) (((bF s).getD k 0+2)%5) (by rw[iD,if_pos hm1];simp);rw[h41]at h2;cases h2
 exact MQ (by rw[lm,if_neg (by rw[h19,decide_eq_false (by omega)];decide),if_neg hb]);refine PS ?_;refine nx J15 (CY (ah (aI (ae (ae (aI (aI (ae (ae (aI (ae ?_)))))))))));refine WK [0] (dZ rfl ?_)
 have hb: ¬toldAll s=true:=λh=>by
   have h2:=List.all_eq_true.1 (List.all_eq_true.1 h _ hmm1) (((bF s).getD k 0+1)%5) (by rw[iD,if_pos hm1];simp);rw[h41]at h2;cases h2
 exact MQ (by rw[lm,if_neg (by rw[h19,decide_eq_false (by omega)];decide),if_neg hb]);refine nx J6 (aa λ_ J23=>CN (aW (aA (aA (bq (ad J4 (sr λ_ J24=>P2 ?_)))))));refine FA 9 dx bf ?_;refine LZ 1 el bf ai s.own ?_ (hc:=by exact λ_=>EL _);refine XZ vw (ints RowT.zero.flat) λb9=>?_
 refine SW 0 bf ai ?_;refine nx J24 (aa λ_ J25=>sr λ_ J26=>PS ?_);refine tp (dO rfl eh rfl hlud) ?_;refine PS ?_;refine nx J26 (am ?_)
 refine bG (α:=(Nat)×(RowT)) (λ⟨q,y⟩=>q≤(bF s).length∧y=mY s ((bF s).take q)) (λ⟨q,y⟩=>[(0,(.pointer (some ⟨r,0,none⟩))),(1,(.iface V.T V.ov)),(4,ud),(9,(.pointer (some ⟨b9,0,none⟩))),(49,ud),(50,(.int .i64 ((((bF s).length:Nat):Int)))),(51,(.int .i64 (((q:Nat):Int))))]) (λ⟨q,y⟩=>[aj b9 (ints y.flat) 74,own ud ((bF s).length) (ints (bF s)) 3 1,cU V r s]) (λ⟨q,y⟩=>(bF s).length-q) (0,s.own)
     ⟨aP _,rfl⟩ SB
     (λ_ s=>ak [0,0,0] rfl s) (λ⟨q,y⟩ hinv=>?_)
 obtain⟨hq,hy⟩:=hinv;refine sr λ_ J27=>PS ?_
 refine ap ?_ ?_<;>intro h52;refine nx J27 (aa λ_ J28=>CY (qx J28 (aa λ_ J29=>am (sr λ_ J30=>?_))));have hmm2:(bF s).getD q 0∈bF s:=by rw[List.getD_eq_getElem?_getD,List.getElem?_eq_getElem (by omega)];exact ez _
 have hm2:cI ((bF s).getD q 0)=true:=(ul hmm2).1;have hn2:0≤(bF s).getD q 0∧(bF s).getD q 0<5:=of_decide_eq_true hm2;refine jV 1 rfl rfl (by omega) (λge1 ce1 he1 _=>tp (bn (r:=q) he1 rfl eh aO rfl rfl (by omega) (by omega) (by omega)) ?_);refine tp (cm (v:=(.int .i64 (((bF s).getD q 0)))) rfl Y3 rfl rfl (gM 1 rfl he1 rfl) (yg (by omega))) ?_;refine PS ?_;refine nx J30 (aa λ_ J31=>sr λ_ J32=>PS ?_);refine FA 29 el fR ?_;refine IX (29+(((bF s).getD q 0)).toNat) kJ aO ?_;refine LT 0 Y3 (.int .i64 ((y.heir[(((bF s).getD q 0)).toNat]'(by omega)))) ?_ (hc:=by exact sS y ((((bF s).getD q 0)).toNat) (by omega) (by omega) (li y.heir (by omega)));refine PS ?_;refine ap ?_ ?_<;>intro h59;refine nx J32 (CY (aW (aA (bq (ad J29 (ac (AD ?_)))))));refine PS ?_;refine au ?_
 exact aL ((q+1,y):(Nat)×(RowT)) ⟨by omega,by rw[vZ s (by omega),←hy,if_pos (by rw[heirAt,dif_pos hm2];exact h59)]⟩ (by show(bF s).length- (q+1)< (bF s).length-q;omega)
   SB
   (λ_ s=>ak [0,0,0] rfl s)
 refine nx J32 (CN (qx J31 (aa λ_ J33=>fA (α:=(Nat)) (λ_=>True) (λb12=>[(0,(.pointer (some ⟨r,0,none⟩))),(1,(.iface V.T V.ov)),(4,ud),(9,(.pointer (some ⟨b9,0,none⟩))),(12,(.pointer (some ⟨b12,0,none⟩))),(13,(.int .i64 ((cK y ((bF s).getD q 0) (s.last[(((bF s).getD q 0)).toNat]'(by omega))).2))),(49,ud),(50,(.int .i64 ((((bF s).length:Nat):Int)))),(51,(.int .i64 (((q:Nat):Int))))]) (λb12=>[aj b12 (ints ((cK y ((bF s).getD q 0) (s.last[(((bF s).getD q 0)).toNat]'(by omega))).1).flat) 74,aj b9 (ints y.flat) 74,own ud ((bF s).length) (ints (bF s)) 3 1,cU V r s]) (λb12 _=>?_) (λtl33=>?_))));refine ad J33 (aa λ_ J34=>sr λ_ J35=>P2 ?_);refine ap ?_ ?_<;>intro h73
 · exact absurd (N7 hm2 (by rw[heirAt,dif_pos hm2];exact h59)) h73
 refine nx J35 (CN (qx J34 (ac (LW 0 el bf ai ?_))));refine SW 1 bf ai ?_;refine au (af (ad J29 (ac (AD ?_))));refine PS ?_;refine au ?_
 exact aL ((q+1,(cK y ((bF s).getD q 0) (s.last[(((bF s).getD q 0)).toNat]'(by omega))).1):(Nat)×(RowT)) ⟨by omega,by rw[vZ s (by omega),←hy,if_neg (by rw[heirAt,dif_pos hm2];exact h59),lastAt,dif_pos hm2]⟩ (by show(bF s).length- (q+1)< (bF s).length-q;omega)
   SB
   (λ_ s=>ak [1,1,1] rfl s)
 refine DC bl (BL 0) (dm 2 rfl rfl) ?_;refine LY 0 el bf ai ?_;refine PD 1 ?_;refine PD 2 ?_;refine PD 3 ?_;refine PD 4 ?_;refine FD 5 1948 dx uN ?_;refine IY 6 (1948+((((bF s).getD q 0)).toNat)*174) IZ bf ?_;refine ta 7 rfl (gO (vs:=ints (s.last[(((bF s).getD q 0)).toNat]'(by omega)).flat) rfl el rfl bf rfl (λ_ h=>h.2.2.1) (ai (s.last[(((bF s).getD q 0)).toNat]'(by omega))) (λa_=>(RepT.sub_last (s.rep a_) (((((bF s).getD q 0)).toNat)*174) (by omega) (by omega) (lD dQ ((s.rep a_).last) (i:=(((bF s).getD q 0)).toNat) 0 (by omega) (by omega) (by decide) (whole (ai (((s.rep a_).last)[(((bF s).getD q 0)).toNat]'(by omega)))))))) ?_;refine db [8,12] (by kernel_rfl) rfl (aF rfl ?_ ?_);refine CE Nc (pW y ((bF s).getD q 0) (s.last[(((bF s).getD q 0)).toNat]'(by omega))) ID ?_;refine EN (PD 9 ?_);refine PD 10 ?_;refine PD 11 ?_;refine AL 12 ?_;refine XZ vw (ints RowT.zero.flat) λb12=>?_
 refine EN (AL 13 ?_);refine SW 0 bf ai ?_;refine EN (PD 14 ?_);refine DN ?_
 exact aE
   SB
   (λ_ s=>s)
   (tl33 ((b12):(Nat)) trivial)
 refine aF rfl ?_ ?_;refine XZ vw (ints RowT.zero.flat) λb12=>?_
 refine EN (AL 8 ?_);refine CE Nc (pW y ((bF s).getD q 0) (s.last[(((bF s).getD q 0)).toNat]'(by omega))) ID ?_;refine EN (PD 9 ?_);refine PD 10 ?_;refine PD 11 ?_;refine AL 13 ?_;refine SW 0 bf ai ?_;refine EN (PD 14 ?_);refine DN ?_
 exact aE
   SB
   (λ_ s=>s)
   (tl33 ((b12):(Nat)) trivial)
 exact bP;refine nx J27 (aa λ_ J36=>CN (aW (aA (aA (bq (ad J25 (ac ?_)))))));have hoy:OkRow y:=by rw[hy];exact inferInstance
 refine P2 ?_;refine LW 0 el bf ai ?_;refine CE NW (sK V r s y 0) (SM [2]) ?_;refine au (WK [0] (bC rfl ?_));obtain rfl:k=(bF s).length:=by omega
 obtain rfl:q=(bF s).length:=by omega
 have hb:toldAll s=true:=List.all_eq_true.2 λi hi=>List.all_eq_true.2 λw hw=>by
   obtain⟨j,hj,rfl⟩:=gP hi;have h2:=hal j (by omega) w;rw[List.getD_eq_getElem?_getD,List.getElem?_eq_getElem hj]at h2;exact h2 hw
 rw[gC]at hy;subst hy;exact MQ (by rw[lm,if_neg (by rw[h19,decide_eq_false (by omega)];decide),if_pos hb])
theorem zf{δ:Type}(V:Env δ)(r:Nat)(s:MS δ)[OkR V.toDk s](hrs:s.replies.length≤1000000):
 DT 150 #[(.pointer (some ⟨r,0,none⟩)),(.iface V.T V.ov)] T0 [cU V r s] (dG (λ_ H=>H=[cU V r (kI V.toDk s)])):=by
 refine BD 43 Tryz.func150 rfl rfl rfl λw0 F hF=>sr λ_ J1=>P2 ?_
 refine FA 1938 dx lT ?_;refine SK 0 lT (λ_=>di _) ?_ (hc:=by exact λa_=>(Rs _ rfl _));refine nx J1 (aa λ_ J2=>fA (α:=Unit) (λ_u=>True) (λ_u=>[(0,(.pointer (some ⟨r,0,none⟩))),(1,(.iface V.T V.ov))]) (λ_u=>[cU V r (gR s)]) (λ_u hinv=>?_) (λtl2=>?_));have _:=hinv;refine ad J2 (aa λ_ J3=>fA (α:=Unit) (λ_u=>True) (λ_u=>[(0,(.pointer (some ⟨r,0,none⟩))),(1,(.iface V.T V.ov))]) (λ_u=>[cU V r (lB (gR s))]) (λ_u hinv=>?_) (λtl3=>?_));have _:=hinv;refine ad J3 (sr λ_ J4=>P4 ?_);refine FA 9 dx bf ?_;refine LZ 0 el bf ai ((lB (gR s)).own) ?_ (hc:=by exact λ_=>EL _);refine CZ NR (nK V r (lB (gR s)) ((lB (gR s)).own)) ID λvR=>?_
 refine nx J4 (ac (P2 ?_));refine CZ Mj (pN V r (j6 V.toDk (lB (gR s)) ((lB (gR s)).own))) ID λvR=>?_
 exact au (WK [0] (bC rfl rfl));refine sr λ_ J5=>P2 ?_
 refine FA 1940 dx aO ?_;refine LG 0 Y3 (.int .i64 ((gR s).waits)) ?_ (hc:=by exact λa_=>(RepT.at_waits _ rfl));refine PS ?_;refine ap ?_ ?_<;>intro h23;refine nx J5 (CY (sr λ_ J6=>P3 ?_));refine FA 1940 dx aO ?_;refine LG 0 Y3 (.int .i64 ((gR s).waits)) ?_ (hc:=by exact λa_=>(RepT.at_waits _ rfl));refine CZ u9 (fp V r (gR s) ((gR s).waits) 0 0 hrs) ID λvR=>?_
 refine nx J6 (ac (P2 ?_));refine FA 1940 dx aO ?_;refine SK 0 aO (λ_=>di _) ?_ (hc:=by exact λa_=>(RepT.set_waits _ rfl _));refine au ?_
 exact aE
  SB
  (λ_ q=>by
   rw[zC h23]
   exact ak [0] rfl q)
  (tl3 (():Unit) trivial)
 refine nx J5 (CN (aR ?_))
 exact aE
  SB
  (λ_ q=>by
   rw[zD h23]
   exact ak [0] rfl q)
  (tl3 (():Unit) trivial)
 refine D0 bl ?_;refine PD 0 ?_;refine PD 1 ?_;refine FD 2 1068 dx Cz ?_;refine PD 3 ?_;refine PD 4 ?_;refine FD 5 0 dx aO ?_;refine PD 7 ?_;refine PD 8 ?_;refine FD 9 9 dx bf ?_;refine db [6,10] (by kernel_rfl) rfl (aF rfl ?_ ?_);refine LG 0 Y3 (.int .i64 (s.id)) ?_ (hc:=by exact λa_=>(cT _ rfl));refine EN (AL 10 ?_);refine LZ 0 el bf ai s.own ?_ (hc:=by exact λ_=>EL _);refine EN (AL 11 ?_);refine CE Mk (Leg.Does.hid (λa_=>lQ r 1068 95 _ (gL ((MS.setBusy s false).rep a_)) (MS.setBusy s false).book s.id s.own (Lg inferInstance))) ID ?_;refine EN (DN ?_)
 exact aE
  SB
  (λ_ s=>ak [0] rfl s)
  (tl2 (():Unit) trivial)
 refine aF rfl ?_ ?_;refine LZ 0 el bf ai s.own ?_ (hc:=by exact λ_=>EL _);refine EN (AL 6 ?_);refine LG 0 Y3 (.int .i64 (s.id)) ?_ (hc:=by exact λa_=>(cT _ rfl));refine EN (AL 11 ?_);refine CE Mk (Leg.Does.hid (λa_=>lQ r 1068 95 _ (gL ((MS.setBusy s false).rep a_)) (MS.setBusy s false).book s.id s.own (Lg inferInstance))) ID ?_;refine EN (DN ?_)
 exact aE
  SB
  (λ_ s=>ak [0] rfl s)
  (tl2 (():Unit) trivial)
 exact bP
theorem xd{δ:Type}(V:Env δ)(r:Nat)(s:MS δ)(from':Int)(m:MsgT)[OkR V.toDk s](hrs:s.replies.length≤1000000):
 DT 105 #[(.pointer (some ⟨r,0,none⟩)),(.iface V.T V.ov),(.int .i64 (from')),(.agg (ints m.flat).toArray)] T0 [cU V r s] (dG (λ_ H=>H=[cU V r (du V.toDk s from' m)])):=by
 refine BD 64 Tryz.func105 rfl rfl rfl λw0 F hF=>?_
 have hid:cI s.id=true:=OkR.id;have hid2:0≤s.id∧s.id<5:=of_decide_eq_true hid;refine sr λ_ J1=>XY (ints m.flat) λb7=>?_
 refine nx J1 (sr λ_ J2=>P2 ?_);refine FA 0 dx aO ?_;refine LG 1 Y3 (.int .i64 (s.id)) ?_ (hc:=by exact λa_=>(cT _ rfl));refine CR DO (rj s.id hid) ID λvR HR hR=>?_
 obtain⟨_,rfl,rfl⟩:=hR;revert vR;intro uw;refine je 0 rfl rfl (λhluw _=>jV 0 rfl rfl (by omega) (λgw capw hvw hcapw=>PS ?_));refine nx J2 (aa λ_ J3=>aa λ_ J4=>DC bl (dm 2 rfl rfl) (BL 1) ?_);refine PD 0 ?_;refine PD 1 ?_;refine FD 2 1938 dx lT ?_;refine ta 3 rfl (dD (v:=(.bool (s.busy))) rfl Y4 rfl rfl (λ_ h=>h.2.1) (λa_=>(zo _ rfl))) ?_;refine sQ ?_ ?_<;>intro h19;refine PD 4 ?_;refine PD 5 ?_;refine FD 6 176 bi aO ?_;refine LR 7 Y3 (MsgT.at_version m rfl) ?_;refine PD 8 ?_;refine PD 9 ?_;refine FD 10 9 dx bf ?_;refine FD 11 9 el aO ?_;refine tb 12 rfl (dD (v:=(.int .i64 (s.own.version))) rfl Y3 rfl rfl (λ_ h=>h.2.1) (λa_=>(RepT.pt_own (s.rep a_) 0 rfl (by decide) (cM _ rfl)))) ?_;refine PD 13 ?_;refine kg ?_ ?_<;>intro h29;refine PD 14 ?_;refine PD 15 ?_;refine NT 16 ?_;refine NT 17 ?_;refine NT 18 ?_;refine NT 19 ?_;refine PD 20 ?_;refine DN (ad J4 (CY (ah (ae (WK [2] (dZ rfl ?_))))));have ew:iD s.id=[(s.id+1)%5,(s.id+2)%5]:=by rw[iD,if_pos hid]
 have e:kr s from' m.version=false:=by rw[kr,ew,decide_eq_false h29,iq,kQ]
 exact congrArg (λq=>[cU V r q]) (show s=du V.toDk s from' m by rw[du,e];rfl);refine PD 14 ?_;refine PD 15 ?_;refine PD 16 ?_;refine PD 17 ?_;refine AL 18 ?_;refine CF M5 (rW uw [(s.id+1)%5,(s.id+2)%5] from' (by decide:2≤1000000)) ID (tY (l:=[(s.id+1)%5,(s.id+2)%5]) 0 rfl rfl) ?_;refine ap ?_ ?_<;>intro h34;have hmem:=h34;simp only[bU,List.not_mem_nil,or_false]at hmem;have hfr:0≤from'∧from'<5:=by omega
 refine EN (PD 19 ?_);refine PD 20 ?_;refine DN (ad J4 (CN (qx J3 (aa λ_ J5=>D0 bl ?_))));refine PD 0 ?_;refine PD 1 ?_;refine FD 2 1939 dx aO ?_;refine PD 4 ?_;refine ta 5 rfl (wI (r:=(cW from')) rfl rfl rfl (by omega) rfl) ?_;refine AL 3 ?_;refine LG 2 Y3 (.int .i64 (s.kept)) ?_ (hc:=by exact λa_=>(sT _ rfl));refine EN (ta 6 rfl (He (r:=(iR .i64 s.kept (cW from'))) rfl rfl rfl rfl) ?_);refine PD 7 ?_;refine FD 8 1939 dx aO ?_;refine AL 9 ?_;refine SK 2 aO (λ_=>di _) ?_ (hc:=by exact λa_=>(Rr _ rfl _));refine EN (DN (ad J5 (aa λ_ J6=>sr λ_ J7=>PS ?_)));refine tp (dO rfl eh rfl hluw) ?_;refine PS ?_;refine nx J7 (am (hO 2 (sr λ_ J8=>PS ?_)));refine nx J8 (aa λ_ J9=>CY (qx J9 (aa λ_ J10=>am (sr λ_ J11=>tp (bn (r:=0) hvw rfl eh aO rfl rfl (by omega) (by omega) rfl) ?_))));refine tp (cm (v:=(.int .i64 (((s.id+1)%5)))) rfl Y3 rfl rfl (gM 0 rfl hvw rfl) rfl) ?_;refine PS ?_;refine nx J11 (sr λ_ J12=>P2 ?_);refine FA 1939 dx aO ?_;refine LG 2 Y3 (.int .i64 ((iR .i64 s.kept (cW from')))) ?_ (hc:=by exact λa_=>(sT _ rfl));refine PS ?_;refine tp (iF (r:=((iR .i64 s.kept (cW from')).fdiv (2^min (((s.id+1)%5)).toNat IntKind.i64.bits))) rfl rfl rfl (by omega) rfl) ?_;refine tp (jm (r:=(((iR .i64 s.kept (cW from')).fdiv (2^min (((s.id+1)%5)).toNat IntKind.i64.bits))%2)) rfl rfl rfl (mask (k:=1) (by decide) _)) ?_;refine PS ?_;refine ap ?_ ?_<;>intro h59
 refine nx J12 (CY (ah (aI (ae (ae (aI (ae (WK [2] (dZ rfl ?_)))))))));have ew:iD s.id=[(s.id+1)%5,(s.id+2)%5]:=by rw[iD,if_pos hid]
 have e:kr s from' m.version=true:=by rw[kr,h19,ew,decide_eq_true (show m.version=s.own.version by omega),decide_eq_true h34];rfl
 have e2:rS (keptM s from')=false:=by rw[rS,show iD (keptM s from').id=[(s.id+1)%5,(s.id+2)%5]from ew];simp only[List.all_cons,List.all_nil,vu,keptM, *,decide_true,decide_false,RA,Qj,RB,oa,iq,kQ]
 exact congrArg (λq=>[cU V r q]) (show(MS.setKept s (iR .i64 s.kept (cW from')))=du V.toDk s from' m by rw[du,e,e2];rfl);refine nx J12 (CN (aR (af (ad J10 (ac (tp (bA (r:=1) rfl rfl rfl (by decide)) ?_))))));refine PS ?_;refine au (bI (sr λ_ J13=>PS ?_));refine nx J13 (aa λ_ J14=>CY (qx J14 (aa λ_ J15=>am (sr λ_ J16=>tp (bn (r:=1) hvw rfl eh aO rfl rfl (by omega) (by omega) rfl) ?_))));refine tp (cm (v:=(.int .i64 (((s.id+2)%5)))) rfl Y3 rfl rfl (gM 0 rfl hvw rfl) rfl) ?_;refine PS ?_;refine nx J16 (sr λ_ J17=>P2 ?_);refine FA 1939 dx aO ?_;refine LG 2 Y3 (.int .i64 ((iR .i64 s.kept (cW from')))) ?_ (hc:=by exact λa_=>(sT _ rfl));refine PS ?_;refine tp (iF (r:=((iR .i64 s.kept (cW from')).fdiv (2^min (((s.id+2)%5)).toNat IntKind.i64.bits))) rfl rfl rfl (by omega) rfl) ?_;refine tp (jm (r:=(((iR .i64 s.kept (cW from')).fdiv (2^min (((s.id+2)%5)).toNat IntKind.i64.bits))%2)) rfl rfl rfl (mask (k:=1) (by decide) _)) ?_;refine PS ?_;refine ap ?_ ?_<;>intro h59;refine nx J17 (CY (ah (aI (ae (ae (aI (ae (WK [2] (dZ rfl ?_)))))))));have ew:iD s.id=[(s.id+1)%5,(s.id+2)%5]:=by rw[iD,if_pos hid]
 have e:kr s from' m.version=true:=by rw[kr,h19,ew,decide_eq_true (show m.version=s.own.version by omega),decide_eq_true h34];rfl
 have e2:rS (keptM s from')=false:=by rw[rS,show iD (keptM s from').id=[(s.id+1)%5,(s.id+2)%5]from ew];simp only[List.all_cons,List.all_nil,vu,keptM, *,decide_true,decide_false,RA,Qj,RB,oa,iq,kQ]
 exact congrArg (λq=>[cU V r q]) (show(MS.setKept s (iR .i64 s.kept (cW from')))=du V.toDk s from' m by rw[du,e,e2];rfl);refine nx J17 (CN (aR (af (ad J15 (ac (tp (bA (r:=2) rfl rfl rfl (by decide)) ?_))))));refine PS ?_;refine au (bI (sr λ_ J18=>PS ?_));refine nx J18 (aa λ_ J19=>CN (aW (aA (aA (bq (ad J6 (ac (P2 ?_))))))));refine CZ Pw (zf V r (keptM s from') hrs) (SM [2]) λvR=>?_
 refine au (WK [0] (bC rfl ?_));have ew:iD s.id=[(s.id+1)%5,(s.id+2)%5]:=by rw[iD,if_pos hid]
 have e:kr s from' m.version=true:=by rw[kr,h19,ew,decide_eq_true (show m.version=s.own.version by omega),decide_eq_true h34];rfl
 have e2:rS (keptM s from')=true:=by rw[rS,show iD (keptM s from').id=[(s.id+1)%5,(s.id+2)%5]from ew];simp only[List.all_cons,List.all_nil,vu,keptM, *,decide_true,decide_false,RA,Qj,RB,oa,iq,kQ]
 exact congrArg (λq=>[cU V r q]) (show(kI V.toDk (keptM s from'))=du V.toDk s from' m by rw[du,e,e2];rfl);refine EN (PD 19 ?_);refine PD 20 ?_;refine DN (ad J4 (CY (ah (ae (WK [2] (dZ rfl ?_))))));have ew:iD s.id=[(s.id+1)%5,(s.id+2)%5]:=by rw[iD,if_pos hid]
 have e:kr s from' m.version=false:=by rw[kr,ew,decide_eq_false h34];simp
 exact congrArg (λq=>[cU V r q]) (show s=du V.toDk s from' m by rw[du,e];rfl);refine PD 4 ?_;refine PD 5 ?_;refine NT 6 ?_;refine NT 7 ?_;refine NT 8 ?_;refine NT 9 ?_;refine NT 10 ?_;refine NT 11 ?_;refine NT 12 ?_;refine NT 13 ?_;refine PD 14 ?_;refine PD 15 ?_;refine NT 16 ?_;refine NT 17 ?_;refine NT 18 ?_;refine NT 19 ?_;refine PD 20 ?_;refine DN (ad J4 (CY (ah (ae (WK [2] (dZ rfl ?_))))));have ew:iD s.id=[(s.id+1)%5,(s.id+2)%5]:=by rw[iD,if_pos hid]
 have e:kr s from' m.version=false:=by rw[kr,ew,h19];simp
 exact congrArg (λq=>[cU V r q]) (show s=du V.toDk s from' m by rw[du,e];rfl)
theorem yR{δ:Type}(V:Env δ)(r:Nat)(s:MS δ)(from':Int)(m:MsgT)[OkR V.toDk s][OkMg m](hto:from'≠s.id):
 DT 104 #[(.pointer (some ⟨r,0,none⟩)),(.iface V.T V.ov),(.int .i64 (from')),(.agg (ints m.flat).toArray)] T0 [cU V r s] (dG (λ_ H=>H=[cU V r (gI V.toDk s from' m)])):=by
 refine BD 56 Tryz.func104 rfl rfl rfl λw0 F hF=>sr λ_ J1=>XY (ints m.flat) λb7=>?_
 refine nx J1 (aa λ_ J2=>aa λ_ J3=>D1 0 bl ?_);refine FD 0 1 bi aO ?_;refine LR 1 Y3 (cC m rfl) ?_;refine PD 2 ?_;refine PD 3 ?_;refine kg ?_ ?_<;>intro h11;refine PD 4 ?_;refine NT 5 ?_;refine NT 6 ?_;refine NT 7 ?_;refine NT 8 ?_;refine NT 9 ?_;refine NT 10 ?_;refine PD 11 ?_;refine DN (ad J3 (CY (ah (ae (WK [1] (dZ rfl ?_))))));exact congrArg (λq=>[cU V r q]) (show _=gI V.toDk s from' m from(if_pos (.inl (by omega))).symm);refine PD 4 ?_;refine PD 5 ?_;refine PD 6 ?_;refine FD 7 183 dx uM ?_;refine FD 8 1 bi aO ?_;refine LR 9 Y3 (cC m rfl) ?_;refine AL 10 ?_;refine CE NO (Leg.Does.hid (λa_=>nY r 183 95 _ (ey (s.rep a_)) s.mirror m.whose)) (SM [1]) ?_;refine bg ?_ ?_<;>intro h18;refine EN (PD 11 ?_);refine DN (ad J3 (CY (ah (ae (WK [0] (dZ rfl ?_))))));exact congrArg (λq=>[cU V r q]) (show _=gI V.toDk s from' m from(if_pos (.inr h18)).symm);refine EN (PD 11 ?_);refine DN (ad J3 (CN (qx J2 (aa λ_ J4=>aa λ_ J5=>D1 1 bl ?_))));refine PD 0 ?_;refine PD 1 ?_;refine FD 2 183 dx uM ?_;refine FD 3 1 bi aO ?_;refine LR 4 Y3 (cC m rfl) ?_;refine FD 5 2 bi bf ?_;refine ta 6 rfl (aN (vs:=ints m.row.flat) rfl el rfl bf rfl (λ_ h=>h.2.1) (ai m.row) (m7 m 0 rfl (by decide) (whole (ai m.row)))) ?_;refine AL 7 ?_;refine CE M7 (Leg.Does.hid (λa_=>rP r 183 95 _ (ey (s.rep a_)) s.mirror m.whose m.row (Lg inferInstance))) ID ?_;refine bg ?_ ?_<;>intro h27;refine EN (DN (ad J5 (CY (aa λ_ J6=>sr λ_ J7=>PS ?_))))
 refine FA 1 bi aO ?_;refine LU 1 Y3 (cC m rfl) ?_;refine FA 2 bi bf ?_;refine LV 1 el bf ai MsgT.sp_row (y:=m.row) ?_;refine tp (ku RecT.zero (RecT.mk 1 m.whose m.row 0 BallotT.zero ChangeT.zero ViewT.zero) [(0,[Value.int .i64 1]),(1,[Value.int .i64 m.whose]),(2,ints m.row.flat)] eH fB (g:=RecT.sg)) ?_;refine CE FC (l5 V r s (kZ m.whose m.row)) ID ?_;refine PS ?_;refine ap ?_ ?_<;>intro h35;refine nx J7 (CY (ah (ae (ae (WK [0] (dZ rfl ?_))))));have hn: ¬(m.whose≠from'∨fg s.mirror m.whose=true):=λh=>h.elim (λh=>by omega) (λh=>by rw[h18]at h;cases h)
 exact MQ (by rw[gI,if_neg hn,if_pos h27,if_pos h35]<;>rfl);refine nx J7 (CN (qx J6 (D1 1 bl ?_)));refine PD 0 ?_;refine PD 1 ?_;refine FD 2 183 dx uM ?_;refine FD 3 1 bi aO ?_;refine LR 4 Y3 (cC m rfl) ?_;refine FD 5 2 bi bf ?_;refine ta 6 rfl (aN (vs:=ints m.row.flat) rfl el rfl bf rfl (λ_ h=>h.2.1) (ai m.row) (m7 m 0 rfl (by decide) (whole (ai m.row)))) ?_;refine AL 7 ?_;refine CE OY (Leg.Does.hid (λa_=>tV r 183 95 _ (ey ((dR V.toDk s (kZ m.whose m.row)).rep a_)) (dR V.toDk s (kZ m.whose m.row)).mirror m.whose m.row (Lg inferInstance))) ID ?_;refine EN (DN (ad J4 (D1 1 bl ?_)));refine PD 0 ?_;refine PD 1 ?_;refine PD 2 ?_;refine PD 3 ?_;refine PD 4 ?_;refine FD 5 183 dx uM ?_;refine FD 6 1 bi aO ?_;refine LR 7 Y3 (cC m rfl) ?_;refine AL 8 ?_;refine CE JV (Leg.Does.hid (λa_=>mD r 183 95 _ (ey ((il (dR V.toDk s (kZ m.whose m.row)) m.whose m.row).rep a_)) (il (dR V.toDk s (kZ m.whose m.row)) m.whose m.row).mirror m.whose)) ID ?_;refine EN (ta 9 rfl (yJ (cs:=ints (mirRow (il (dR V.toDk s (kZ m.whose m.row)) m.whose m.row).mirror m.whose).flat) (v:=Value.int .i64 ((mirRow (il (dR V.toDk s (kZ m.whose m.row)) m.whose m.row).mirror m.whose).version)) rfl el rfl Y3 rfl rfl (cM _ rfl)) ?_)
 refine ta 10 rfl (ku MsgT.zero (MsgT.mk 1 0 RowT.zero ((mirRow (il (dR V.toDk s (kZ m.whose m.row)) m.whose m.row).mirror m.whose).version) 0 BallotT.zero BallotT.zero ChangeT.zero ViewT.zero) [(0,[Value.int .i64 1]),(3,[Value.int .i64 ((mirRow (il (dR V.toDk s (kZ m.whose m.row)) m.whose m.row).mirror m.whose).version)])] bi bD (g:=MsgT.sg)) ?_;refine AL 11 ?_;refine CZ jL (j8 V r (il (dR V.toDk s (kZ m.whose m.row)) m.whose m.row) from' (pJ (mirRow (il (dR V.toDk s (kZ m.whose m.row)) m.whose m.row).mirror m.whose).version) hto) ID λvR=>?_
 refine EN (DN (WK [0] (bC rfl ?_)));have hn: ¬(m.whose≠from'∨fg s.mirror m.whose=true):=λh=>h.elim (λh=>by omega) (λh=>by rw[h18]at h;cases h)
 exact MQ (by rw[gI,if_neg hn,if_pos h27,if_neg h35]<;>rfl);refine EN (DN (ad J5 (CN (qx J4 (D1 1 bl ?_)))));refine PD 0 ?_;refine PD 1 ?_;refine PD 2 ?_;refine PD 3 ?_;refine PD 4 ?_;refine FD 5 183 dx uM ?_;refine FD 6 1 bi aO ?_;refine LR 7 Y3 (cC m rfl) ?_;refine AL 8 ?_;refine CE JV (Leg.Does.hid (λa_=>mD r 183 95 _ (ey (s.rep a_)) s.mirror m.whose)) ID ?_;refine EN (ta 9 rfl (yJ (cs:=ints (mirRow s.mirror m.whose).flat) (v:=Value.int .i64 ((mirRow s.mirror m.whose).version)) rfl el rfl Y3 rfl rfl (cM _ rfl)) ?_);refine ta 10 rfl (ku MsgT.zero (MsgT.mk 1 0 RowT.zero ((mirRow s.mirror m.whose).version) 0 BallotT.zero BallotT.zero ChangeT.zero ViewT.zero) [(0,[Value.int .i64 1]),(3,[Value.int .i64 ((mirRow s.mirror m.whose).version)])] bi bD (g:=MsgT.sg)) ?_;refine AL 11 ?_;refine CZ jL (j8 V r s from' (pJ (mirRow s.mirror m.whose).version) hto) ID λvR=>?_
 refine EN (DN (WK [0] (bC rfl ?_)));have hn: ¬(m.whose≠from'∨fg s.mirror m.whose=true):=λh=>h.elim (λh=>by omega) (λh=>by rw[h18]at h;cases h)
 exact MQ (by rw[gI,if_neg hn,if_neg (by rw[h27];decide)]<;>rfl)
theorem oV{δ:Type}(V:Env δ)(r:Nat)(s:MS δ)(from':Int)(m:MsgT)[OkR V.toDk s][OkMg m]:
 DT 108 #[(.pointer (some ⟨r,0,none⟩)),(.iface V.T V.ov),(.int .i64 (from')),(.agg (ints m.flat).toArray)] T0 [cU V r s] (dG (λ_ H=>H=[cU V r (dB V.toDk s from' m)])):=by
 refine BD 59 Tryz.func108 rfl rfl rfl λw0 F hF=>sr λ_ J1=>XY (ints m.flat) λb7=>?_
 refine nx J1 (aa λ_ J2=>fA (α:=Unit) (λ_u=>True) (λ_u=>[(0,(.pointer (some ⟨r,0,none⟩))),(1,(.iface V.T V.ov))]) (λ_u=>[cU V r (if from'∈iD m.whose then toldS s from' m.whose m.row else s)]) (λ_u hinv=>?_) (λtl2=>?_));have _:=hinv;refine ad J2 (ac (P2 ?_));refine CZ Mj (pN V r (if from'∈iD m.whose then toldS s from' m.whose m.row else s)) ID λvR=>?_
 exact au (WK [0] (bC rfl rfl));refine sr λ_ J3=>FA 1 bi aO ?_
 refine LU 0 Y3 (cC m rfl) ?_;refine CR DO (qn m.whose) ID λvR HR hR=>?_
 obtain⟨_,rfl,rfl⟩:=hR;revert vR;intro uw;refine PS ?_;refine CF M5 (rW uw (iD m.whose) from' (Jc m.whose)) ID (tY (l:=(iD m.whose)) 0 rfl rfl) ?_;refine ap ?_ ?_<;>intro h12
 have hm:cI m.whose=true:=by
  unfold iD at h12;split at h12
  · assumption
  · cases h12
 have hm2:0≤m.whose∧m.whose<5:=of_decide_eq_true hm;have hta:kp s m.whose=s.told[m.whose.toNat]'(by omega):=by rw[kp,dif_pos hm]
 have hla:lastAt s m.whose=s.last[m.whose.toNat]'(by omega):=by rw[lastAt,dif_pos hm]
 have hf:0≤from'∧from'<5:=by
  rw[iD,if_pos hm]at h12;simp only[bU,List.not_mem_nil,or_false]at h12;omega
 refine nx J3 (CY (aa λ_ J4=>fA (α:=Unit) (λ_u=>True) (λ_u=>[(0,(.pointer (some ⟨r,0,none⟩))),(1,(.iface V.T V.ov)),(2,(.int .i64 (from'))),(7,(.pointer (some ⟨b7,0,none⟩)))]) (λ_u=>[cU V r (mG s m.whose m.row),aj b7 (ints m.flat) 134]) (λ_u hinv=>?_) (λtl4=>?_)));have _:=hinv;refine ad J4 (D1 1 bl ?_);refine PD 0 ?_;refine FD 1 1 bi aO ?_;refine LR 2 Y3 (cC m rfl) ?_;refine PD 3 ?_;refine FD 4 1943 dx fR ?_;refine IY 5 (1943+(m.whose).toNat) kJ aO ?_;refine PD 7 ?_;refine ta 8 rfl (wI (r:=(cW from')) rfl rfl rfl (by omega) rfl) ?_;refine PD 10 ?_;refine FD 11 1943 dx fR ?_;refine AL 6 ?_;refine LG 0 Y3 (.int .i64 ((((mG s m.whose m.row).told)[(m.whose).toNat]'(by omega)))) ?_ (hc:=by exact λa_=>(RQ ((mG s m.whose m.row).rep a_) ((m.whose).toNat) (by omega) (by omega) (li (((mG s m.whose m.row).rep a_).told) (by omega))));refine EN (ta 9 rfl (He (r:=(iR .i64 (s.told[m.whose.toNat]'(by omega)) (cW from'))) rfl rfl rfl rfl) ?_);refine IY 12 (1943+(m.whose).toNat) kJ aO ?_;refine AL 13 ?_;refine SK 0 aO (λ_=>di _) ?_ (hc:=by exact λa_=>(RepT.st_told ((mG s m.whose m.row).rep a_) ((m.whose).toNat) (by omega) (by omega) (qt (((mG s m.whose m.row).rep a_).told) (by omega) _)));refine EN (DN ?_)
 exact aE
  SB
  (λ_ q=>by
   rw[if_pos h12,show toldS s from' m.whose m.row= {mG s m.whose m.row with told:=s.told.set m.whose.toNat (iR .i64 (s.told[m.whose.toNat]'(by omega)) (cW from')) (by omega)}by rw[toldS,uO,dif_pos hm,hta]]
   exact ak [0] rfl q)
  (tl2 (():Unit) trivial)
 refine aa λ_ J5=>DC bl (BL 1) (dm 2 rfl rfl) ?_
 refine PD 0 ?_;refine FD 1 1 bi aO ?_;refine LR 2 Y3 (cC m rfl) ?_;refine PD 3 ?_;refine FD 4 1943 dx fR ?_;refine IY 5 (1943+(m.whose).toNat) kJ aO ?_;refine ta 6 rfl (dD (v:=(.int .i64 ((s.told[(m.whose).toNat]'(by omega))))) rfl Y3 rfl rfl (λ_ h=>h.2.2.1) (λa_=>(RQ (s.rep a_) ((m.whose).toNat) (by omega) (by omega) (li ((s.rep a_).told) (by omega))))) ?_;refine PD 7 ?_;refine kg ?_ ?_<;>intro h20;refine PD 8 ?_;refine NT 9 ?_;refine NT 10 ?_;refine NT 11 ?_;refine NT 12 ?_;refine NT 13 ?_;refine NT 14 ?_;refine NT 15 ?_;refine NT 16 ?_;refine NT 17 ?_;refine NT 18 ?_;refine NT 19 ?_;refine NT 20 ?_;refine PD 21 ?_;refine DN (ad J5 (CY (D1 1 bl ?_)));refine PD 0 ?_;refine FD 1 1 bi aO ?_;refine LR 2 Y3 (cC m rfl) ?_;refine FD 3 2 bi bf ?_;refine ta 4 rfl (aN (vs:=ints m.row.flat) rfl el rfl bf rfl (λ_ h=>h.2.1) (ai m.row) (m7 m 0 rfl (by decide) (whole (ai m.row)))) ?_;refine PD 5 ?_;refine FD 6 1948 dx uN ?_;refine IY 7 (1948+((m.whose).toNat)*174) IZ bf ?_;refine AL 8 ?_;refine iB (vs:=ints m.row.flat) (i:=2) (ab rfl) rfl rfl rfl rfl rfl (by rw[(ai m.row)];exact bf) (bv _) rfl rfl (λ_=>LC (di _) (ai _)) (λa_=>(RepT.wr_last_ (s.rep a_) (((m.whose).toNat)*174) (by omega) (by have h1:=(ai m.row);omega) (pT dQ ((s.rep a_).last) (i:=(m.whose).toNat) 0 (by omega) (by omega) (by have h1:=(ai m.row);omega) (cy ((ai (((s.rep a_).last)[(m.whose).toNat]'(by omega))).trans (ai m.row).symm))))) (EN (DN ?_))
 exact aE
  SB
  (λ_ q=>by
   rw[show mG s m.whose m.row= {s with last:=s.last.set m.whose.toNat m.row (by omega)}by rw[mG,if_pos (.inl (hta.trans h20)),uO,dif_pos hm]]
   exact ak [2,1] rfl q)
  (tl4 (():Unit) trivial)
 refine PD 8 ?_;refine FD 9 2 bi bf ?_;refine FD 10 2 el aO ?_;refine LX 11 Y3 (.int .i64 (m.row.version)) ?_ (hc:=by exact MsgT.pt_row m 0 rfl (by decide) (cM m.row rfl));refine PD 12 ?_;refine FD 13 1 bi aO ?_;refine LR 14 Y3 (cC m rfl) ?_;refine PD 15 ?_;refine FD 16 1948 dx uN ?_;refine IY 17 (1948+((m.whose).toNat)*174) IZ bf ?_;refine tb 18 rfl (bc (r:=1948+((m.whose).toNat)*174) rfl el rfl aO rfl rfl) ?_;refine tb 19 rfl (dD (v:=(.int .i64 ((s.last[(m.whose).toNat]'(by omega)).version))) rfl Y3 rfl rfl (λ_ h=>h.2.2.1) (λa_=>(RepT.pt_last (s.rep a_) (((m.whose).toNat)*174) (by omega) (by omega) (pU dQ ((s.rep a_).last) (i:=(m.whose).toNat) 0 (by omega) (by omega) (by decide) (cM _ rfl))))) ?_;refine PD 20 ?_;refine kg ?_ ?_<;>intro h33;refine PD 21 ?_;refine DN (ad J5 (CY (D1 1 bl ?_)));refine PD 0 ?_;refine FD 1 1 bi aO ?_;refine LR 2 Y3 (cC m rfl) ?_;refine FD 3 2 bi bf ?_;refine ta 4 rfl (aN (vs:=ints m.row.flat) rfl el rfl bf rfl (λ_ h=>h.2.1) (ai m.row) (m7 m 0 rfl (by decide) (whole (ai m.row)))) ?_;refine PD 5 ?_;refine FD 6 1948 dx uN ?_;refine IY 7 (1948+((m.whose).toNat)*174) IZ bf ?_;refine AL 8 ?_
 refine iB (vs:=ints m.row.flat) (i:=2) (ab rfl) rfl rfl rfl rfl rfl (by rw[(ai m.row)];exact bf) (bv _) rfl rfl (λ_=>LC (di _) (ai _)) (λa_=>(RepT.wr_last_ (s.rep a_) (((m.whose).toNat)*174) (by omega) (by have h1:=(ai m.row);omega) (pT dQ ((s.rep a_).last) (i:=(m.whose).toNat) 0 (by omega) (by omega) (by have h1:=(ai m.row);omega) (cy ((ai (((s.rep a_).last)[(m.whose).toNat]'(by omega))).trans (ai m.row).symm))))) (EN (DN ?_))
 exact aE
  SB
  (λ_ q=>by
   rw[show mG s m.whose m.row= {s with last:=s.last.set m.whose.toNat m.row (by omega)}by rw[mG,if_pos (.inr (by rw[hla];omega)),uO,dif_pos hm]]
   exact ak [2,1] rfl q)
  (tl4 (():Unit) trivial)
 refine PD 21 ?_;refine DN (ad J5 (CN (aR ?_)))
 exact aE
  SB
  (λ_ q=>by
   rw[show mG s m.whose m.row= {s with last:=s.last}by rw[mG,if_neg (by rw[hta,hla];omega)]]
   exact ak [2,1] rfl q)
  (tl4 (():Unit) trivial)
 refine nx J3 (CN (aR ?_))
 exact aE
  SB
  (λ_ q=>by
   rw[if_neg h12]
   exact ak [2] rfl q)
  (tl2 (():Unit) trivial)
abbrev TK{δ:Type}(V:Env δ)(r f:Nat)(s:MS δ)(from':Int)(m:MsgT)(s':MS δ):Prop:=Leg.Does Tryz.prog f #[.pointer (some ⟨r,0,none⟩), .iface V.T V.ov, .int .i64 from', .agg (ints m.flat).toArray] (λ_=>True) [cU V r s] (dG (λ_ H=>H=[cU V r s']))
theorem pv{δ:Type}(V:Env δ)(r:Nat)(s s':MS δ)(from':Int)(m:MsgT)[OkMg m](h0:m.kind=0→TK V r 104 s from' m s')(h1:m.kind=1→TK V r 105 s from' m s')(h2:m.kind=2→yC s m.whose m.row=s')(h7:m.kind=7→DT 106 #[.pointer (some ⟨r,0,none⟩), .iface V.T V.ov, .agg (ints m.view.flat).toArray] T0 [cU V r s] (dG (λv H=>(∃b,v= .bool b)∧H=[cU V r s'])))(h8:m.kind=8→TK V r 107 s from' m s')(h9:m.kind=9→TK V r 108 s from' m s')(hv:m.kind=3∨m.kind=4∨m.kind=5∨m.kind=6→TK V r 109 s from' m s')(hn:m.kind≠0∧m.kind≠1∧m.kind≠2∧m.kind≠7∧m.kind≠8∧m.kind≠9∧m.kind≠3∧m.kind≠4∧m.kind≠5∧m.kind≠6→s=s'):
 DT 60 #[(.pointer (some ⟨r,0,none⟩)),(.iface V.T V.ov),(.int .i64 (from')),(.agg (ints m.flat).toArray)] T0 [cU V r s] (dG (λ_ H=>H=[cU V r s'])):=by
 refine BD 65 Tryz.func60 rfl rfl rfl λw0 F hF=>sr λ_ J1=>XY (ints m.flat) λb7=>?_
 refine nx J1 (sr λ_ J2=>FA 0 bi aO ?_);refine LU 0 Y3 (fk m rfl) ?_;refine nx J2 (am (sr λ_ J3=>PS ?_));refine ap ?_ ?_<;>intro h11;refine PS ?_;refine nx J3 (CY (ac (P3 ?_)));refine LW 0 bi ct aH ?_;refine CZ PK ((h0 h11)) (SM [1]) λvR=>?_
 exact au (af (WK [0] (bC rfl rfl)));refine PS ?_;refine nx J3 (CN (sr λ_ J4=>PS ?_));refine ap ?_ ?_<;>intro h18;refine PS ?_;refine nx J4 (CY (ac (P3 ?_)));refine LW 0 bi ct aH ?_;refine CZ PJ ((h1 h18)) (SM [1]) λvR=>?_
 exact au (af (WK [0] (bC rfl rfl)));refine PS ?_;refine nx J4 (CN (sr λ_ J5=>PS ?_));refine ap ?_ ?_<;>intro h25;refine PS ?_;refine nx J5 (CY (D1 0 bl ?_));refine PD 0 ?_;refine PD 1 ?_;refine FD 2 1068 dx Cz ?_;refine FD 3 1 bi aO ?_;refine LR 4 Y3 (cC m rfl) ?_;refine FD 5 2 bi bf ?_;refine ta 6 rfl (aN (vs:=ints m.row.flat) rfl el rfl bf rfl (λ_ h=>h.2.1) (ai m.row) (m7 m 0 rfl (by decide) (whole (ai m.row)))) ?_;refine AL 7 ?_;refine CE Mk (Leg.Does.hid (λa_=>lQ r 1068 95 _ (gL (s.rep a_)) s.book m.whose m.row (Lg inferInstance))) (SM [1]) ?_;refine EN (DN (af (WK [0] (bC rfl ?_))));exact congrArg (λq=>[cU V r q]) (h2 h25);refine PS ?_;refine nx J5 (CN (sr λ_ J6=>PS ?_));refine ap ?_ ?_<;>intro h35;refine PS ?_;refine nx J6 (CY (ac (P2 ?_)));refine FA 185 bi bj ?_;refine LV 0 eG bj an MsgT.sp_view (y:=m.view) ?_;refine CR Kh ((h7 h35)) (SM [1]) λvR HR hR=>?_
 obtain⟨_,rfl⟩:=hR;exact au (af (WK [0] (bC rfl rfl)));refine PS ?_;refine nx J6 (CN (sr λ_ J7=>PS ?_));refine ap ?_ ?_<;>intro h42;refine PS ?_;refine nx J7 (CY (ac (P3 ?_)));refine LW 0 bi ct aH ?_;refine CZ PI ((h8 h42)) (SM [1]) λvR=>?_
 exact au (af (WK [0] (bC rfl rfl)));refine PS ?_;refine nx J7 (CN (sr λ_ J8=>PS ?_));refine ap ?_ ?_<;>intro h49;refine PS ?_;refine nx J8 (CY (ac (P3 ?_)));refine LW 0 bi ct aH ?_;refine CZ PH ((h9 h49)) (SM [1]) λvR=>?_
 exact au (af (WK [0] (bC rfl rfl)));refine PS ?_;refine nx J8 (CN (aa λ_ J9=>sr λ_ J10=>P2 ?_));refine ap ?_ ?_<;>intro h55;refine nx J10 (CY (qx J9 (CY (ac (P3 ?_)))));refine LW 0 bi ct aH ?_;refine CZ GU ((hv (by omega))) (SM [1]) λvR=>?_
 exact au (af (WK [0] (bC rfl rfl)));refine nx J10 (CN (sr λ_ J11=>P2 ?_));refine ap ?_ ?_<;>intro h55;refine nx J11 (CY (qx J9 (CY (ac (P3 ?_)))));refine LW 0 bi ct aH ?_;refine CZ GU ((hv (by omega))) (SM [1]) λvR=>?_
 exact au (af (WK [0] (bC rfl rfl)));refine nx J11 (CN (sr λ_ J12=>P2 ?_));refine ap ?_ ?_<;>intro h55;refine nx J12 (CY (qx J9 (CY (ac (P3 ?_)))));refine LW 0 bi ct aH ?_;refine CZ GU ((hv (by omega))) (SM [1]) λvR=>?_
 exact au (af (WK [0] (bC rfl rfl)));refine nx J12 (CN (ac (PS ?_)));refine ap ?_ ?_<;>intro h59;refine PS ?_;refine nx J9 (CY (ac (P3 ?_)));refine LW 0 bi ct aH ?_;refine CZ GU ((hv (by omega))) (SM [1]) λvR=>?_
 exact au (af (WK [0] (bC rfl rfl)));refine PS ?_;refine nx J9 (CN (aR (af (WK [1] (bC rfl ?_)))));exact congrArg (λq=>[cU V r q]) (hn ⟨h11,h18,h25,h35,h42,h49,by omega,by omega,by omega,by omega⟩)
theorem Fe{δ:Type}{V:Env δ}{r:Nat}{s s':MS δ}{from':Int}{m:MsgT}[OkMg m](hk:m.kind=9)(h:TK V r 108 s from' m s'):TK V r 60 s from' m s':=pv V r s s' from' m (λe=>by omega) (λe=>by omega) (λe=>by omega) (λe=>by omega) (λe=>by omega) (λ_=>h) (λe=>by omega) (λe=>by omega)
theorem Ff{δ:Type}{V:Env δ}{r:Nat}{s s':MS δ}{from':Int}{m:MsgT}[OkMg m](hk:m.kind=8)(h:TK V r 107 s from' m s'):TK V r 60 s from' m s':=pv V r s s' from' m (λe=>by omega) (λe=>by omega) (λe=>by omega) (λe=>by omega) (λ_=>h) (λe=>by omega) (λe=>by omega) (λe=>by omega)
theorem pu{δ:Type}{V:Env δ}{r:Nat}{s s':MS δ}{from':Int}{m:MsgT}[OkMg m](hk:m.kind=3∨m.kind=4∨m.kind=5∨m.kind=6)(h:TK V r 109 s from' m s'):TK V r 60 s from' m s':=pv V r s s' from' m (λe=>by omega) (λe=>by omega) (λe=>by omega) (λe=>by omega) (λe=>by omega) (λe=>by omega) (λ_=>h) (λe=>by omega)
theorem xz{δ:Type}(V:Env δ)(r:Nat)(s:MS δ)(w:Int)(y:RowT)[OkR V.toDk s][OkRow y]:TK V r 60 s s.id (eW w y) (dB V.toDk s s.id (eW w y)):=Fe rfl (oV V r s s.id (eW w y))
theorem qz{δ:Type}(V:Env δ)(r:Nat)(s:MS δ)(s':MS δ)(from':Int)(m:MsgT)[OkR V.toDk s'][OkMg m](hl:DT 106 #[.pointer (some ⟨r,0,none⟩), .iface V.T V.ov, .agg (ints m.view.flat).toArray] T0 [cU V r s] (dG (λv H=>(∃b,v= .bool b)∧H=[cU V r s']))):
 DT 107 #[(.pointer (some ⟨r,0,none⟩)),(.iface V.T V.ov),(.int .i64 (from')),(.agg (ints m.flat).toArray)] T0 [cU V r s] (dG (λ_ H=>H=[cU V r (eC V.toDk s' from' m.whose)])):=by
 refine BD 64 Tryz.func107 rfl rfl rfl λw0 F hF=>sr λ_ J1=>XY (ints m.flat) λb7=>?_
 refine nx J1 (sr λ_ J2=>P2 ?_);refine FA 185 bi bj ?_;refine LV 0 eG bj an MsgT.sp_view (y:=m.view) ?_;refine CR Kh (hl) (SM [1]) λvR HR hR=>?_
 obtain⟨_,rfl⟩:=hR;refine nx J2 (aa λ_ J3=>aa λ_ J4=>DC bl (dm 0 rfl rfl) (BL 1) ?_);refine PD 0 ?_;refine PD 1 ?_;refine FD 2 2 dx bj ?_;refine ta 3 rfl (gO (vs:=ints s'.view.flat) rfl eG rfl bj rfl (λ_ h=>h.2.1) (an s'.view) (λa_=>(gH (s'.rep a_) 0 rfl (by decide) (whole (an ((s'.rep a_).view)))))) ?_;refine FD 4 1 bi aO ?_;refine LR 5 Y3 (cC m rfl) ?_;refine AL 6 ?_;refine CE vO (ll s'.view m.whose OkVw.rng) ID ?_;refine EN (PD 7 ?_);refine PD 8 ?_;refine PD 9 ?_;refine sQ ?_ ?_<;>intro h24;refine PD 10 ?_;refine PD 11 ?_;refine DN (ad J4 (sr λ_ J5=>PS ?_));refine PS ?_;refine P4 ?_;refine ap ?_ ?_<;>intro h30;refine PS ?_;refine nx J5 (CY (ah (ae (WK [0] (dZ rfl ?_)))));exact MQ (by rw[eC,if_pos (λh=>h30 (by rw[h];rfl))]);refine PS ?_;refine nx J5 (CN (qx J3 (aa λ_ J6=>aa λ_ J7=>D1 1 bl ?_)));refine PD 0 ?_;refine PD 1 ?_;refine FD 2 183 dx uM ?_;refine FD 3 1 bi aO ?_;refine LR 4 Y3 (cC m rfl) ?_;refine AL 5 ?_;refine CE NO (Leg.Does.hid (λa_=>nY r 183 95 _ (ey (s'.rep a_)) s'.mirror m.whose)) ID ?_;refine bg ?_ ?_<;>intro h37;refine EN (PD 6 ?_);refine DN (ad J7 (CN (qx J6 (D1 1 bl ?_))));refine PD 0 ?_;refine PD 1 ?_;refine PD 2 ?_;refine FD 3 1 bi aO ?_;refine LR 4 Y3 (cC m rfl) ?_;refine PD 5 ?_;refine PD 6 ?_;refine FD 7 183 dx uM ?_;refine FD 8 1 bi aO ?_;refine LR 9 Y3 (cC m rfl) ?_;refine AL 10 ?_;refine CE JV (Leg.Does.hid (λa_=>mD r 183 95 _ (ey (s'.rep a_)) s'.mirror m.whose)) ID ?_
 refine EN (ta 11 rfl (ku MsgT.zero (MsgT.mk 9 m.whose (mirRow s'.mirror m.whose) 0 0 BallotT.zero BallotT.zero ChangeT.zero ViewT.zero) [(0,[Value.int .i64 9]),(1,[Value.int .i64 m.whose]),(2,ints (mirRow s'.mirror m.whose).flat)] bi bD (g:=MsgT.sg)) ?_);refine AL 12 ?_;refine CZ jL (gW V r s' from' (eW m.whose (mirRow s'.mirror m.whose)) (λs=>dB V.toDk s s.id (eW m.whose (mirRow s.mirror m.whose))) (λ_=>xz V r s' m.whose _)) ID λvR=>?_
 refine EN (DN (WK [0] (bC rfl ?_)));exact MQ (by rw[eC,if_neg (λh=>h (vj h24 (by omega))),if_pos h37]);refine EN (PD 6 ?_);refine DN (ad J7 (CY (aa λ_ J8=>sr λ_ J9=>PS ?_)));refine FA 1 bi aO ?_;refine LU 1 Y3 (cC m rfl) ?_;refine tp (ku RecT.zero (RecT.mk 2 m.whose RowT.zero 0 BallotT.zero ChangeT.zero ViewT.zero) [(0,[Value.int .i64 2]),(1,[Value.int .i64 m.whose])] eH fB (g:=RecT.sg)) ?_;refine CE FC (l5 V r s' (j7 m.whose)) ID ?_;refine PS ?_;refine ap ?_ ?_<;>intro h44;refine nx J9 (CY (ah (ae (ae (WK [0] (dZ rfl ?_))))));exact MQ (by rw[eC,if_neg (λh=>h (vj h24 (by omega))),if_neg (by rw[h37];decide),if_pos h44]);refine nx J9 (CN (qx J8 (D1 1 bl ?_)));refine PD 0 ?_;refine PD 1 ?_;refine FD 2 183 dx uM ?_;refine FD 3 1 bi aO ?_;refine LR 4 Y3 (cC m rfl) ?_;refine AL 5 ?_;refine CE OX (Leg.Does.hid (λa_=>tU r 183 95 _ (ey ((dR V.toDk s' (j7 m.whose)).rep a_)) (dR V.toDk s' (j7 m.whose)).mirror m.whose)) ID ?_;refine EN (DN (ad J6 (D1 1 bl ?_)));refine PD 0 ?_;refine PD 1 ?_;refine PD 2 ?_;refine FD 3 1 bi aO ?_;refine LR 4 Y3 (cC m rfl) ?_;refine PD 5 ?_;refine PD 6 ?_;refine FD 7 183 dx uM ?_;refine FD 8 1 bi aO ?_;refine LR 9 Y3 (cC m rfl) ?_;refine AL 10 ?_;refine CE JV (Leg.Does.hid (λa_=>mD r 183 95 _ (ey ((lc (dR V.toDk s' (j7 m.whose)) m.whose).rep a_)) (lc (dR V.toDk s' (j7 m.whose)) m.whose).mirror m.whose)) ID ?_
 refine EN (ta 11 rfl (ku MsgT.zero (MsgT.mk 9 m.whose (mirRow (lc (dR V.toDk s' (j7 m.whose)) m.whose).mirror m.whose) 0 0 BallotT.zero BallotT.zero ChangeT.zero ViewT.zero) [(0,[Value.int .i64 9]),(1,[Value.int .i64 m.whose]),(2,ints (mirRow (lc (dR V.toDk s' (j7 m.whose)) m.whose).mirror m.whose).flat)] bi bD (g:=MsgT.sg)) ?_);refine AL 12 ?_;refine CZ jL (gW V r (lc (dR V.toDk s' (j7 m.whose)) m.whose) from' (eW m.whose (mirRow (lc (dR V.toDk s' (j7 m.whose)) m.whose).mirror m.whose)) (λs=>dB V.toDk s s.id (eW m.whose (mirRow s.mirror m.whose))) (λ_=>xz V r (lc (dR V.toDk s' (j7 m.whose)) m.whose) m.whose _)) ID λvR=>?_
 refine EN (DN (WK [0] (bC rfl ?_)));exact MQ (by rw[eC,if_neg (λh=>h (vj h24 (by omega))),if_neg (by rw[h37];decide),if_neg h44]);refine PD 10 ?_;refine PD 11 ?_;refine DN (ad J4 (sr λ_ J10=>PS ?_));refine PS ?_;refine PS ?_
 iterate 3 refine UT ?_
 refine PS ?_;refine nx J10 (CY (ah (ae (WK [0] (dZ rfl ?_)))));exact MQ (by rw[eC,if_pos (λh=>by rw[h]at h24;cases h24)])
section
variable {δ:Type} {V:Env δ} {r:Nat} {s:MS δ} {H:List HP} {h:Hl}
theorem GV(q:bR (cU V r s::H) h): ∃vo,bR (wT V r s vo::H) h:=by
 obtain⟨a,q1⟩:=fH q;exact⟨a.vo,bw (p:=λa':Nat×Value=>[aj r (RepT.cells (s.rep ⟨a'.1,a.vo,a'.2⟩)) 95,V.lg a'.1 s.e,own a'.2 s.replies.length (ints (s.replies.flatMap ReplyT.flat)) 45 3,V.E s.e s.o]) (a.lg,a.rs) (Jx (aD [3,0,0,0,0] rfl q1))⟩
theorem DR(q:bR (wT V r s (.pointer none)::H) h):bR (cU V r {s with vote:=none}::H) h:=by
 obtain⟨a,q1⟩:=fH q;have q2:bR (Gr (.pointer none) none::([aj r (RepT.cells (s.rep ⟨a.1, .pointer none,a.2⟩)) 95,V.lg a.1 s.e,own a.2 s.replies.length (ints (s.replies.flatMap ReplyT.flat)) 45 3,V.E s.e s.o]++H)) h:=⟨em,h,EP h,(rV h).symm,rfl,q1⟩;exact bw (p:=λa:Adr=>[aj r (RepT.cells ({s with vote:=none}.rep a)) 95,V.lg a.lg {s with vote:=none}.e,own a.rs {s with vote:=none}.replies.length (ints ({s with vote:=none}.replies.flatMap ReplyT.flat)) 45 3,Gr a.vo {s with vote:=none}.vote,V.E {s with vote:=none}.e {s with vote:=none}.o]) ⟨a.1, .pointer none,a.2⟩ (aD [1,1,1,0,0] rfl q2)
theorem tT(hv:s.vote=none)(q:bR (cU V r s::H) h):bR (wT V r s (.pointer none)::H) h:=by
 obtain⟨a,q1⟩:=fH q;have q2:=aD [3,0,0,0,0] rfl q1;obtain⟨h1,h2,d,rfl,e,q3⟩:=q2;rw[hv]at e;have e':a.vo= .pointer none:=e;obtain⟨lg,vo,rs⟩:=a;obtain rfl:=e';rw[oz d];exact mq _ (bw (p:=λa':Nat×Value=>[aj r (RepT.cells (s.rep ⟨a'.1, .pointer none,a'.2⟩)) 95,V.lg a'.1 s.e,own a'.2 s.replies.length (ints (s.replies.flatMap ReplyT.flat)) 45 3,V.E s.e s.o]) (lg,rs) q3) d.symm
theorem nX{vt:VoteT}(hv:s.vote=some vt)(q:bR (cU V r s::H) h): ∃vb,bR (wT V r s (.pointer (some ⟨vb,0,none⟩))::aj vb (VoteT.cells vt) 196::H) h:=by
 obtain⟨a,q1⟩:=fH q;have q2:=aD [3,0,0,0,0] rfl q1;obtain⟨h1,h2,d,rfl,e,q3⟩:=q2;rw[hv]at e;obtain⟨vb,e',e⟩:=e;obtain⟨lg,vo,rs⟩:=a;have e2:vo= .pointer (some ⟨vb,0,none⟩):=e';obtain rfl:=e2;refine⟨vb,eO (List.Perm.swap _ _ _) ?_⟩;exact⟨h1,h2,d,rfl,e,bw (p:=λa':Nat×Value=>[aj r (RepT.cells (s.rep ⟨a'.1, .pointer (some ⟨vb,0,none⟩),a'.2⟩)) 95,V.lg a'.1 s.e,own a'.2 s.replies.length (ints (s.replies.flatMap ReplyT.flat)) 45 3,V.E s.e s.o]) (lg,rs) q3⟩
theorem o5{vt:VoteT}{vb:Nat}(q:bR (wT V r s (.pointer (some ⟨vb,0,none⟩))::aj vb (VoteT.cells vt) 196::H) h):bR (cU V r {s with vote:=some vt}::H) h:=by
 obtain⟨a,q1⟩:=fH q;have q2:bR ([aj r (RepT.cells (s.rep ⟨a.1, .pointer (some ⟨vb,0,none⟩),a.2⟩)) 95,V.lg a.1 s.e,own a.2 s.replies.length (ints (s.replies.flatMap ReplyT.flat)) 45 3,V.E s.e s.o]++(Gr (.pointer (some ⟨vb,0,none⟩)) (some vt)::H)) h:=HD (λ_ e=>⟨vb,rfl,e⟩) q1;exact bw (p:=λa:Adr=>[aj r (RepT.cells ({s with vote:=some vt}.rep a)) 95,V.lg a.lg {s with vote:=some vt}.e,own a.rs {s with vote:=some vt}.replies.length (ints ({s with vote:=some vt}.replies.flatMap ReplyT.flat)) 45 3,Gr a.vo {s with vote:=some vt}.vote,V.E {s with vote:=some vt}.e {s with vote:=some vt}.o]) ⟨a.1, .pointer (some ⟨vb,0,none⟩),a.2⟩ (aD [0,0,0,1,0] rfl q2)
theorem o6{vt:VoteT}{vb:Nat}(hv:s.vote=some vt)(q:bR (wT V r s (.pointer (some ⟨vb,0,none⟩))::aj vb (VoteT.cells vt) 196::H) h):bR (cU V r s::H) h:=by
 have q2:=o5 q
 rwa [show({s with vote:=some vt}:MS δ)=s by cases s;simp_all]at q2
end
theorem Ec{δ:Type}(V:Env δ)(r:Nat)(s:MS δ)(v:ViewT):
 DT 44 #[(.pointer (some ⟨r,0,none⟩)),(.agg (ints v.flat).toArray)] T0 [cU V r s] (dG (λ_ H=>H=[cU V r (lO s v)])):=by
 refine BD 20 Tryz.func44 rfl rfl rfl λw0 F hF=>sr λ_ J1=>XY (ints v.flat) λb3=>?_
 refine nx J1 (sr λ_ J2=>PS ?_);refine LW 0 eG bj an ?_;refine PS ?_;refine FA 2 dx bj ?_;refine iB (vs:=ints v.flat) (i:=1) (ab rfl) rfl rfl rfl rfl rfl (by rw[(an v)];exact bj) (bv _) rfl rfl (λ_=>LC (di _) (an _)) (λa_=>(Ro (s.rep a_) 0 rfl (by have h1:=(an v);omega) (cy ((an ((s.rep a_).view)).trans (an v).symm)))) (nx J2 (sr λ_ J3=>PS ?_));refine FA 0 eG aO ?_;refine LU 0 Y3 (aV v rfl) ?_;refine tp (ku AccT.zero (AccT.mk v.epoch BallotT.zero BallotT.zero ChangeT.zero) [(0,[Value.int .i64 v.epoch])] qi pm (g:=AccT.sg)) ?_;refine PS ?_;refine FA 1058 dx gp ?_;refine iB (vs:=ints (AccT.mk v.epoch BallotT.zero BallotT.zero ChangeT.zero).flat) (i:=1) (ab rfl) rfl rfl rfl rfl rfl (by rw[(be (AccT.mk v.epoch BallotT.zero BallotT.zero ChangeT.zero))];exact gp) (bv _) rfl rfl (λ_=>LC (di _) (be _)) (λa_=>(lu ((MS.setView s v).rep a_) 0 rfl (by have h1:=(be (AccT.mk v.epoch BallotT.zero BallotT.zero ChangeT.zero));omega) (cy ((be (((MS.setView s v).rep a_).acc)).trans (be (AccT.mk v.epoch BallotT.zero BallotT.zero ChangeT.zero)).symm)))) (nx J3 (sr λ_ J4=>ci (λ_ q=>aD [1] rfl q) (Np (H':=λvo:Value=>wT V r (MS.setAcc (MS.setView s v) (AccT.mk v.epoch BallotT.zero BallotT.zero ChangeT.zero)) vo::[aj b3 (ints v.flat) 85]) (λ_ q=>GV q) (λvo=>P2 ?_))));refine FA 1067 dx nO ?_;refine SK 0 nO (λ_=>di _) ?_ (hc:=by exact λa_=>(Rq _ rfl _))
 refine nx J4 (ac (ci (H':=cU V r {{s with view:=v}with acc:= {AccT.zero with epoch:=v.epoch},vote:=none}::[aj b3 (ints v.flat) 85]) (λ_ q=>DR (aD [0] rfl q)) (P2 ?_)));refine FA 1066 dx aO ?_;refine SK 0 aO (λ_=>di _) ?_ (hc:=by exact λa_=>(mM _ rfl _));exact au (WK [0] (bC rfl rfl))
theorem vW{δ:Type}(V:Env δ)(r:Nat)(s:MS δ)(v:ViewT)[OkR V.toDk s][OkVw v](hcl: ¬v.epoch≤s.view.epoch→DT 63 #[.pointer (some ⟨r,0,none⟩), .iface V.T V.ov] T0 [cU V r (lO (dR V.toDk s (j0 v)) v)] (dG (λ_ H=>H=[cU V r (n5 V.toDk (lO (dR V.toDk s (j0 v)) v))]))):
 DT 106 #[(.pointer (some ⟨r,0,none⟩)),(.iface V.T V.ov),(.agg (ints v.flat).toArray)] T0 [cU V r s] (RI (.bool (iZ V.toDk s v)) [cU V r (gz V.toDk s v)]):=by
 refine BD 28 Tryz.func106 rfl rfl rfl λw0 F hF=>sr λ_ J1=>XY (ints v.flat) λb5=>?_
 refine PS ?_;refine nx J1 (aa λ_ J2=>aa λ_ J3=>DC bl (BL 0) (dm 1 rfl rfl) ?_);refine FD 0 0 eG aO ?_;refine LR 1 Y3 (aV v rfl) ?_;refine PD 2 ?_;refine PD 3 ?_;refine FD 4 2 dx bj ?_;refine FD 5 2 eG aO ?_;refine ta 6 rfl (dD (v:=(.int .i64 (s.view.epoch))) rfl Y3 rfl rfl (λ_ h=>h.2.2.1) (λa_=>(cz (s.rep a_) 0 rfl (by decide) (aV _ rfl)))) ?_;refine PD 7 ?_;refine kg ?_ ?_<;>intro h14;refine PD 8 ?_;refine NT 9 ?_;refine NT 10 ?_;refine NT 11 ?_;refine NT 12 ?_;refine NT 13 ?_;refine PD 14 ?_;refine DN (ad J3 (CY (sr λ_ J4=>PS ?_)));refine nx J4 (ah (ae (WK [1] (aw rfl rfl ?_))));have e:gz V.toDk s v=s:=by rw[gz,if_pos h14]
 exact⟨by rw[iZ,decide_eq_false (by omega),iq],congrArg (λq=>[cU V r q]) e.symm⟩;refine PD 8 ?_;refine PD 9 ?_;refine LY 10 eG bj an ?_;refine tb 11 rfl (ku RecT.zero (RecT.mk 5 0 RowT.zero 0 BallotT.zero ChangeT.zero v) [(0,[Value.int .i64 5]),(6,ints v.flat)] eH fB (g:=RecT.sg)) ?_;refine AL 12 ?_;refine CE FC (l5 V r s (j0 v)) (SM [1]) ?_;refine EN (PD 13 ?_);refine kg ?_ ?_<;>intro h20;refine PD 14 ?_;refine DN (ad J3 (CY (sr λ_ J5=>PS ?_)));refine nx J5 (ah (ae (WK [0] (aw rfl rfl ?_))));have e:gz V.toDk s v=(dR V.toDk s (j0 v)):=by rw[gz,if_neg h14,if_pos h20]
 exact⟨by rw[iZ,decide_eq_true (by omega),decide_eq_false h20,oa],congrArg (λq=>[cU V r q]) e.symm⟩;refine PD 14 ?_;refine DN (ad J3 (CN (qx J2 (sr λ_ J6=>PS ?_))));refine LW 1 eG bj an ?_;refine CZ NX (Ec V r (dR V.toDk s (j0 v)) v) ID λvR=>?_
 refine nx J6 (sr λ_ J7=>P2 ?_);refine CZ NU ((hcl (by omega))) ID λvR=>?_
 refine nx J7 (sr λ_ J8=>PS ?_);refine nx J8 (ah (WK [0] (aw rfl rfl ?_)));have e:gz V.toDk s v=(n5 V.toDk (lO (dR V.toDk s (j0 v)) v)):=by rw[gz,if_neg h14,if_neg h20]
 exact⟨by rw[iZ,decide_eq_true (by omega),decide_eq_true (by omega),oa],congrArg (λq=>[cU V r q]) e.symm⟩
theorem DY{δ:Type}(V:Env δ)(r:Nat)(s:MS δ)(v:ViewT)[OkR V.toDk s][OkVw v](h:v.epoch≤s.view.epoch):DT 106 #[.pointer (some ⟨r,0,none⟩), .iface V.T V.ov, .agg (ints v.flat).toArray] T0 [cU V r s] (dG (λq H=>(∃b,q= .bool b)∧H=[cU V r s])):=
 (vW V r s v (λq=>absurd h q)).mono λe H hp=>by
  cases e with
  |returned q=>exact⟨⟨_,hp.1⟩,hp.2.trans (by rw[gz,if_pos h])⟩
  |panicked c=>exact hp.elim
  |outgrown=>exact hp.elim
theorem xA{δ:Type}(V:Env δ)(r:Nat)(s:MS δ)(i:Int)[OkR V.toDk s]:TK V r 60 s s.id (nj i s.view) (eC V.toDk s s.id i):=Ff rfl (qz V r s s s.id (nj i s.view) (DY V r s s.view (Int.le_refl _)))
theorem qV{δ:Type}(V:Env δ)(r:Nat)(s:MS δ)[OkR V.toDk s]:
 DT 63 #[(.pointer (some ⟨r,0,none⟩)),(.iface V.T V.ov)] T0 [cU V r s] (dG (λ_ H=>H=[cU V r (n5 V.toDk s)])):=by
 refine BD 39 Tryz.func63 rfl rfl rfl λw0 F hF=>sr λ_ J1=>PS ?_
 refine CR Nd (AA V r s) ID λvR HR hR=>?_
 obtain⟨_,rfl,rfl⟩:=hR;revert vR;intro ud;refine je 0 rfl rfl (λhlud houd=>tp (dO rfl eh rfl hlud) ?_);refine PS ?_;refine nx J1 (am ?_)
 refine bG (α:=(Nat)) (λk=>k≤(bF s).length) (λk=>[(0,(.pointer (some ⟨r,0,none⟩))),(1,(.iface V.T V.ov)),(9,ud),(10,(.int .i64 ((((bF s).length:Nat):Int)))),(11,(.int .i64 (((k:Nat):Int))))]) (λk=>[own ud ((bF s).length) (ints (bF s)) 3 1,cU V r (gi V.toDk ((bF s).take k) s)]) (λk=>(bF s).length-k) 0
  (aP _) SB
  (λ_ s=>s) (λk hinv=>?_)
 obtain hk:=hinv;have hcl:OkR V.toDk (gi V.toDk ((bF s).take k) s):=vn _ _ inferInstance;refine sr λ_ J2=>PS ?_
 refine ap ?_ ?_<;>intro h12;refine nx J2 (aa λ_ J3=>CY (qx J3 (aa λ_ J4=>am (sr λ_ J5=>?_))));have hmm1:(bF s).getD k 0∈bF s:=by rw[List.getD_eq_getElem?_getD,List.getElem?_eq_getElem (by omega)];exact ez _
 have hm1:cI ((bF s).getD k 0)=true:=(ul hmm1).1;have hn1:0≤(bF s).getD k 0∧(bF s).getD k 0<5:=of_decide_eq_true hm1;refine jV 0 rfl rfl (by omega) (λge1 ce1 he1 _=>tp (bn (r:=k) he1 rfl eh aO rfl rfl (by omega) (by omega) (by omega)) ?_);refine tp (cm (v:=(.int .i64 (((bF s).getD k 0)))) rfl Y3 rfl rfl (gM 0 rfl he1 rfl) (yg (by omega))) ?_;refine PS ?_;refine nx J5 (sr λ_ J6=>PS ?_);refine CR DO (rj ((bF s).getD k 0) hm1) ID λvR HR hR=>?_
 obtain⟨_,rfl,rfl⟩:=hR;revert vR;intro uw;refine je 0 rfl rfl (λhluw _=>jV 0 rfl rfl (by omega) (λgw capw hvw hcapw=>tp (dO rfl eh rfl hluw) ?_));refine PS ?_;refine nx J6 (am (hO 2 (sr λ_ J7=>PS ?_)));refine nx J7 (aa λ_ J8=>CY (qx J8 (aa λ_ J9=>fA (α:=Unit) (λ_u=>True) (λ_u=>[(0,(.pointer (some ⟨r,0,none⟩))),(1,(.iface V.T V.ov)),(5,(.int .i64 (((bF s).getD k 0)))),(9,ud),(10,(.int .i64 ((((bF s).length:Nat):Int)))),(11,(.int .i64 (((k:Nat):Int)))),(16,uw),(17,(.int .i64 2)),(18,(.int .i64 0)),(19,(.bool true))]) (λ_u=>[cU V r (gG V.toDk (gi V.toDk ((bF s).take k) s) ((bF s).getD k 0) ((((bF s).getD k 0)+1)%5)),own uw (2) ([.int .i64 ((((bF s).getD k 0)+1)%5), .int .i64 ((((bF s).getD k 0)+2)%5)]) 3 1,own ud ((bF s).length) (ints (bF s)) 3 1]) (λ_u hinv=>?_) (λtl9=>?_))));have _:=hinv;refine ad J9 (ac (tp (bA (r:=1) rfl rfl rfl (by decide)) ?_));refine PS ?_;refine au (bI (sr λ_ J10=>PS ?_))
 refine nx J10 (aa λ_ J11=>CY (qx J11 (aa λ_ J12=>fA (α:=Unit) (λ_u=>True) (λ_u=>[(0,(.pointer (some ⟨r,0,none⟩))),(1,(.iface V.T V.ov)),(5,(.int .i64 (((bF s).getD k 0)))),(9,ud),(10,(.int .i64 ((((bF s).length:Nat):Int)))),(11,(.int .i64 (((k:Nat):Int)))),(16,uw),(17,(.int .i64 2)),(18,(.int .i64 1)),(19,(.bool true)),(37,(.int .i64 1))]) (λ_u=>[cU V r (gG V.toDk (gG V.toDk (gi V.toDk ((bF s).take k) s) ((bF s).getD k 0) ((((bF s).getD k 0)+1)%5)) ((bF s).getD k 0) ((((bF s).getD k 0)+2)%5)),own uw (2) ([.int .i64 ((((bF s).getD k 0)+1)%5), .int .i64 ((((bF s).getD k 0)+2)%5)]) 3 1,own ud ((bF s).length) (ints (bF s)) 3 1]) (λ_u hinv=>?_) (λtl12=>?_))));have _:=hinv;refine ad J12 (ac (tp (bA (r:=2) rfl rfl rfl (by decide)) ?_));refine PS ?_;refine au (bI (sr λ_ J13=>PS ?_));refine nx J13 (aa λ_ J14=>CN (aW (aA (aA (bq (af (ad J4 (ac (AD ?_)))))))));refine PS ?_;refine au ?_
 exact aL ((k+1):(Nat)) (by omega) (by show(bF s).length- (k+1)< (bF s).length-k;omega)
  SB
  (λ_ q=>by
   rw[Et V.toDk (by omega) s]
   exact ak [2,0] rfl q)
 refine am (sr λ_ J15=>tp (bn (r:=1) hvw rfl eh aO rfl rfl (by omega) (by omega) rfl) ?_);refine tp (cm (v:=(.int .i64 (((((bF s).getD k 0)+2)%5)))) rfl Y3 rfl rfl (gM 1 rfl hvw rfl) rfl) ?_;refine PS ?_;refine nx J15 (sr λ_ J16=>P3 ?_);refine CE GT (ox V r (gG V.toDk (gi V.toDk ((bF s).take k) s) ((bF s).getD k 0) ((((bF s).getD k 0)+1)%5)) ((bF s).getD k 0) ((((bF s).getD k 0)+2)%5) hm1 (by omega)) ID ?_;refine bg ?_ ?_<;>intro h25;refine PS ?_;refine nx J16 (CN (aR (af ?_)))
 exact aE
  SB
  (λ_ q=>by
   rw[gG,if_pos h25]
   exact ak [0,0,0] rfl q)
  (tl12 (():Unit) trivial)
 refine PS ?_;refine nx J16 (CY (ac ?_))
 iterate 6 refine PS ?_
 refine FA 2 dx bj ?_;refine LZ 0 eG bj an ((gG V.toDk (gi V.toDk ((bF s).take k) s) ((bF s).getD k 0) ((((bF s).getD k 0)+1)%5)).view) ?_ (hc:=by exact λ_=>dh _);refine tp (ku MsgT.zero (MsgT.mk 8 ((bF s).getD k 0) RowT.zero 0 0 BallotT.zero BallotT.zero ChangeT.zero ((gG V.toDk (gi V.toDk ((bF s).take k) s) ((bF s).getD k 0) ((((bF s).getD k 0)+1)%5)).view)) [(0,[Value.int .i64 8]),(1,[Value.int .i64 ((bF s).getD k 0)]),(8,ints ((gG V.toDk (gi V.toDk ((bF s).take k) s) ((bF s).getD k 0) ((((bF s).getD k 0)+1)%5)).view).flat)] bi bD (g:=MsgT.sg)) ?_;refine CZ jL (gW V r (gG V.toDk (gi V.toDk ((bF s).take k) s) ((bF s).getD k 0) ((((bF s).getD k 0)+1)%5)) ((((bF s).getD k 0)+2)%5) (nj ((bF s).getD k 0) (gG V.toDk (gi V.toDk ((bF s).take k) s) ((bF s).getD k 0) ((((bF s).getD k 0)+1)%5)).view) (λs_=>eC V.toDk s_ s_.id ((bF s).getD k 0)) (λ_=>xA V r (gG V.toDk (gi V.toDk ((bF s).take k) s) ((bF s).getD k 0) ((((bF s).getD k 0)+1)%5)) ((bF s).getD k 0))) ID λvR=>?_
 refine au (af ?_)
 exact aE
  SB
  (λ_ q=>by
   rw[gG,if_neg (by rw[h25];decide)]
   exact ak [0,0,0] rfl q)
  (tl12 (():Unit) trivial)
 refine am (sr λ_ J17=>tp (bn (r:=0) hvw rfl eh aO rfl rfl (by omega) (by omega) rfl) ?_);refine tp (cm (v:=(.int .i64 (((((bF s).getD k 0)+1)%5)))) rfl Y3 rfl rfl (gM 0 rfl hvw rfl) rfl) ?_;refine PS ?_;refine nx J17 (sr λ_ J18=>P3 ?_);refine CE GT (ox V r (gi V.toDk ((bF s).take k) s) ((bF s).getD k 0) ((((bF s).getD k 0)+1)%5) hm1 (by omega)) (SM [2]) ?_;refine bg ?_ ?_<;>intro h25;refine PS ?_;refine nx J18 (CN (aR (af ?_)))
 exact aE
  SB
  (λ_ q=>by
   rw[gG,if_pos h25]
   exact ak [0,0,0] rfl q)
  (tl9 (():Unit) trivial)
 refine PS ?_;refine nx J18 (CY (ac ?_))
 iterate 6 refine PS ?_
 refine FA 2 dx bj ?_;refine LZ 0 eG bj an ((gi V.toDk ((bF s).take k) s).view) ?_ (hc:=by exact λ_=>dh _);refine tp (ku MsgT.zero (MsgT.mk 8 ((bF s).getD k 0) RowT.zero 0 0 BallotT.zero BallotT.zero ChangeT.zero ((gi V.toDk ((bF s).take k) s).view)) [(0,[Value.int .i64 8]),(1,[Value.int .i64 ((bF s).getD k 0)]),(8,ints ((gi V.toDk ((bF s).take k) s).view).flat)] bi bD (g:=MsgT.sg)) ?_;refine CZ jL (gW V r (gi V.toDk ((bF s).take k) s) ((((bF s).getD k 0)+1)%5) (nj ((bF s).getD k 0) (gi V.toDk ((bF s).take k) s).view) (λs_=>eC V.toDk s_ s_.id ((bF s).getD k 0)) (λ_=>xA V r (gi V.toDk ((bF s).take k) s) ((bF s).getD k 0))) ID λvR=>?_
 refine au (af ?_)
 exact aE
  SB
  (λ_ q=>by
   rw[gG,if_neg (by rw[h25];decide)]
   exact ak [0,0,0] rfl q)
  (tl9 (():Unit) trivial)
 refine nx J2 (aa λ_ J19=>CN (aW (aA (aA (bq (WK [1] (bC rfl ?_)))))));obtain rfl:k=(bF s).length:=by omega
 exact MQ (by rw[gC];rfl)
theorem vX{δ:Type}(V:Env δ)(r:Nat)(s:MS δ)(v:ViewT)[OkR V.toDk s][OkVw v]:DT 106 #[.pointer (some ⟨r,0,none⟩), .iface V.T V.ov, .agg (ints v.flat).toArray] T0 [cU V r s] (RI (.bool (iZ V.toDk s v)) [cU V r (gz V.toDk s v)]):=vW V r s v λ_=>qV V r _
theorem vY{δ:Type}(V:Env δ)(r:Nat)(s:MS δ)(v:ViewT)[OkR V.toDk s][OkVw v]:DT 106 #[.pointer (some ⟨r,0,none⟩), .iface V.T V.ov, .agg (ints v.flat).toArray] T0 [cU V r s] (dG (λq H=>(∃b,q= .bool b)∧H=[cU V r (gz V.toDk s v)])):=
 (vX V r s v).mono λe H hp=>by
  cases e with
  |returned q=>exact⟨⟨_,hp.1⟩,hp.2⟩
  |panicked c=>exact hp.elim
  |outgrown=>exact hp.elim
theorem xc{δ:Type}(V:Env δ)(r:Nat)(s:MS δ)(from':Int)(m:MsgT)[OkR V.toDk s][OkMg m]:TK V r 107 s from' m (iK V.toDk s from' m):=qz V r s _ from' m (vY V r s m.view)
theorem NC:Tryz.prog.eqGuardType Tryz.prog.depth 90=false:=by kernel_rfl
theorem NA:Tryz.prog.keyTypeAt 6 90=true:=by kernel_rfl
theorem Oa:qQ Tryz.prog 6 90=some 2:=by kernel_rfl
theorem II:(match Tryz.prog.underlying 90 with|some (.struct _)|some (.array _ _)=>true|_=>false)=true:=by kernel_rfl
theorem IS:Tryz.prog.cellsOf 90=2:=by kernel_rfl
theorem QE:Tryz.prog.eqGuardType Tryz.prog.depth 92=false:=by kernel_rfl
theorem QA:Tryz.prog.keyTypeAt 6 92=true:=by kernel_rfl
theorem Ri:qQ Tryz.prog 6 92=some 8:=by kernel_rfl
theorem PQ:(match Tryz.prog.underlying 92 with|some (.struct _)|some (.array _ _)=>true|_=>false)=true:=by kernel_rfl
theorem PY:Tryz.prog.cellsOf 92=8:=by kernel_rfl
theorem Ap(a b:BallotT):
 DT 174 #[(.agg (ints a.flat).toArray),(.agg (ints b.flat).toArray)] T0 [] (RI (.bool (DW a b)) []):=by
 refine BD 20 Tryz.func174 rfl rfl rfl λw0 F hF=>sr λ_ J1=>XY (ints a.flat) λb2=>?_
 refine XY (ints b.flat) λb3=>?_
 refine PS ?_;refine nx J1 (aa λ_ J2=>sr λ_ J3=>FA 0 kV aO ?_);refine LU 1 Y3 (fE a rfl) ?_;refine FA 0 kV aO ?_;refine LU 0 Y3 (fE b rfl) ?_;refine PS ?_;refine ap ?_ ?_<;>intro h9;refine nx J3 (CY (sr λ_ J4=>FA 0 kV aO ?_));refine LU 1 Y3 (fE a rfl) ?_;refine FA 0 kV aO ?_;refine LU 0 Y3 (fE b rfl) ?_;refine P2 ?_;refine nx J4 (ah (ae (WK [] (aw rfl rfl ?_))));exact⟨congrArg Value.bool (by simp[DW, *]),rfl⟩;refine nx J3 (CN (qx J2 (sr λ_ J5=>FA 1 kV aO ?_)));refine LU 1 Y3 (BallotT.at_who a rfl) ?_;refine FA 1 kV aO ?_;refine LU 0 Y3 (BallotT.at_who b rfl) ?_;refine P2 ?_;refine nx J5 (ah (WK [] (aw rfl rfl ?_)));exact⟨congrArg Value.bool (by simp[DW, *]),rfl⟩
theorem tO(a:AccT)(ep:Int)(b:BallotT):
 DT 156 #[(.agg (ints a.flat).toArray),(.int .i64 (ep)),(.agg (ints b.flat).toArray)] T0 [] (RI (.bool (AQ a ep b)) []):=by
 refine BD 22 Tryz.func156 rfl rfl rfl λw0 F hF=>sr λ_ J1=>XY (ints a.flat) λb3=>?_
 refine XY (ints b.flat) λb5=>?_
 refine PS ?_;refine nx J1 (sr λ_ J2=>PS ?_);refine FA 0 qi aO ?_;refine LU 1 Y3 (AccT.at_epoch a rfl) ?_;refine PS ?_;refine ap ?_ ?_<;>intro h10;refine PS ?_
 iterate 3 refine UT ?_
 refine P2 ?_
 iterate 4 refine UT ?_
 refine P2 ?_;refine nx J2 (ah (WK [] (aw rfl rfl ?_)));exact⟨congrArg Value.bool (by simp[AQ, *]),rfl⟩;refine PS ?_;refine FA 0 kV aO ?_;refine LU 0 Y3 (fE b rfl) ?_;refine PS ?_;refine ap ?_ ?_<;>intro h14;refine P2 ?_
 iterate 4 refine UT ?_
 refine P2 ?_;refine nx J2 (ah (WK [] (aw rfl rfl ?_)));exact⟨congrArg Value.bool (by simp[AQ, *]),rfl⟩;refine P2 ?_;refine LW 0 kV cJ aq ?_;refine FA 1 qi cJ ?_;refine LV 1 kV cJ aq AccT.sp_vow (y:=a.vow) ?_;refine CE MY (Ap b a.vow) ID ?_;refine P2 ?_;refine nx J2 (ah (WK [] (aw rfl rfl ?_)));exact⟨congrArg Value.bool (by simp[AQ, *]),rfl⟩
theorem oC(a:AccT)(ep:Int)(b:BallotT):
 DT 116 #[(.agg (ints a.flat).toArray),(.int .i64 (ep)),(.agg (ints b.flat).toArray)] T0 [] (RI (.tuple #[.agg (ints (cb a ep b).1.flat).toArray, .bool (cb a ep b).2]) []):=by
 refine BD 16 Tryz.func116 rfl rfl rfl λw0 F hF=>sr λ_ J1=>XY (ints a.flat) λb3=>?_
 refine XY (ints b.flat) λb5=>?_
 refine XZ I7 (ints AccT.zero.flat) λb6=>?_
 refine PS ?_;refine nx J1 (aa λ_ J2=>sr λ_ J3=>LW 2 qi gp be ?_);refine PS ?_;refine LW 1 kV cJ aq ?_;refine CE M4 (tO a ep b) ID ?_;refine bg ?_ ?_<;>intro h11;refine nx J3 (CY (sr λ_ J4=>LW 2 qi gp be ?_));refine SW 0 gp be ?_;refine PS ?_;refine nx J4 (ah (ae (RT 0 [] qi gp (be _) ?_)));exact⟨by rw[cb];simp_all,rfl⟩;refine nx J3 (CN (qx J2 (sr λ_ J5=>LW 1 kV cJ aq ?_)));refine FA 1 qi cJ ?_;refine SP 2 cJ aq be AccT.wp_vow ?_;refine nx J5 (sr λ_ J6=>LW 2 qi gp be ?_);refine SW 0 gp be ?_;refine PS ?_;refine nx J6 (ah (RT 0 [] qi gp (be _) ?_));exact⟨by rw[cb];simp_all,rfl⟩
theorem wm(a:AccT)(ep:Int)(b:BallotT)(ch:ChangeT):
 DT 173 #[(.agg (ints a.flat).toArray),(.int .i64 (ep)),(.agg (ints b.flat).toArray),(.agg (ints ch.flat).toArray)] T0 [] (RI (.tuple #[.agg (ints (ib a ep b ch).1.flat).toArray, .bool (ib a ep b ch).2]) []):=by
 refine BD 22 Tryz.func173 rfl rfl rfl λw0 F hF=>sr λ_ J1=>XY (ints a.flat) λb4=>?_
 refine XY (ints b.flat) λb6=>?_
 refine XY (ints ch.flat) λb7=>?_
 refine XZ I7 (ints AccT.zero.flat) λb8=>?_
 refine PS ?_;refine nx J1 (aa λ_ J2=>sr λ_ J3=>LW 3 qi gp be ?_);refine PS ?_;refine LW 2 kV cJ aq ?_;refine CE M4 (tO a ep b) ID ?_;refine bg ?_ ?_<;>intro h13;refine nx J3 (CY (sr λ_ J4=>LW 3 qi gp be ?_));refine SW 0 gp be ?_;refine PS ?_;refine nx J4 (ah (ae (RT 0 [] qi gp (be _) ?_)));exact⟨by rw[ib];simp_all,rfl⟩;refine nx J3 (CN (qx J2 (aa λ_ J5=>D2 2 1 bl ?_)));refine LY 0 kV cJ aq ?_;refine LY 1 kV cJ aq ?_;refine LY 2 mS fF aJ ?_;refine FD 3 1 qi cJ ?_;refine AL 4 ?_;refine SP 3 cJ aq be AccT.wp_vow ?_;refine EN (FD 5 3 qi cJ ?_);refine AL 6 ?_;refine SP 3 cJ aq be AccT.wp_had ?_;refine EN (FD 7 5 qi fF ?_);refine AL 8 ?_;refine SP 3 fF aJ be AccT.wp_change ?_;refine EN (DN (ad J5 (sr λ_ J6=>LW 3 qi gp be ?_)));refine SW 0 gp be ?_;refine PS ?_;refine nx J6 (ah (RT 0 [] qi gp (be _) ?_));exact⟨by rw[ib];simp_all,rfl⟩
theorem vN(b:Int):
 DT 127 #[(.int .i64 (b))] T0 [] (dG (λr' H=>∃u,r'=u∧H=[own u (Fj b).length (ints (Fj b)) 3 1])):=by
 refine BD 19 Tryz.func127 rfl rfl rfl λw0 F hF=>sr λ_ J1=>PS ?_
 refine nx J1 (sr λ_ J2=>PS ?_);refine nx J2 (aa λ_ J3=>sr λ_ J4=>PS ?_);refine nx J4 (am ?_)
 refine bG (α:=(Nat)×(Value)) (λ⟨k,u⟩=>k≤5∧u.oneCell'=true) (λ⟨k,u⟩=>[(0,(.int .i64 (b))),(2,(.slice none 0 0)),(3,u),(5,(.int .i64 (((k:Nat):Int))))]) (λ⟨k,u⟩=>[own u ((lX b k).length) (ints (lX b k)) 3 1]) (λ⟨k,u⟩=>5-k) (0,(.slice none 0 0))
  ⟨aP _,rfl⟩ SB
  (λ_ s=>gf 3 1 (ak [] rfl s)) (λ⟨k,u⟩ hinv=>?_)
 obtain⟨hk,hu⟩:=hinv;have hol:=uP b k;refine sr λ_ J5=>PS ?_
 refine ap ?_ ?_<;>intro h6;refine nx J5 (aa λ_ J6=>CY (qx J6 (aa λ_ J7=>am (sr λ_ J8=>P2 ?_))));refine nx J8 (sr λ_ J9=>P2 ?_);refine tp (iF (r:=(b.fdiv (2^min ((k:Nat):Int).toNat IntKind.i64.bits))) rfl rfl rfl (by omega) rfl) ?_;refine tp (jm (r:=((b.fdiv (2^min ((k:Nat):Int).toNat IntKind.i64.bits))%2)) rfl rfl rfl (mask (k:=1) (by decide) _)) ?_;refine PS ?_;refine ap ?_ ?_<;>intro h12;refine nx J9 (CY (ac (P2 ?_)));refine aM (cells:=#[(.int .i64 (((k:Nat):Int)))]) (ab rfl) rfl rfl rfl eh oK rfl rfl rfl (by as_aux_lemma=>kernel_rfl) (λb15=>bX (k:=1) (news:=[(.int .i64 (((k:Nat):Int)))]) (nn':=(lX b k).length+1) (xs':=ints (lX b k)++[(.int .i64 (((k:Nat):Int)))]) (ab rfl) rfl rfl rfl eh oK rfl rfl rfl rfl rfl rfl (λ_ _=>gn rfl (RO 0) rfl) (by simp[Value.oneCell']) (by simp only[maxLen];omega) (by omega) (by simp) (by simp) (λv16 ov16=>PS ?_));refine au (af (ad J7 (ac (AD ?_))));refine PS ?_;refine au ?_
 exact aL ((k+1,v16):(Nat)×(Value)) ⟨by omega,ov16⟩ (by show 5- (k+1)<5-k;omega)
  SB
  (λ_ q=>by
   show bR [own v16 (lX b (k+1)).length (ints (lX b (k+1))) 3 1] _;rw[show lX b (k+1)=lX b k++[((k:Nat):Int)]by rw[xr,if_pos (by rw[IU,decide_eq_true (by assumption)])],ag,eR]
   exact ak [1] rfl q)
 refine nx J9 (CN (aR (af (ad J7 (ac (AD ?_))))));refine PS ?_;refine au ?_
 exact aL ((k+1,u):(Nat)×(Value)) ⟨by omega,hu⟩ (by show 5- (k+1)<5-k;omega)
  SB
  (λ_ q=>by
   show bR [own u (lX b (k+1)).length (ints (lX b (k+1))) 3 1] _;rw[show lX b (k+1)=lX b k by rw[xr,if_neg (by rw[IU,decide_eq_false (by assumption)];decide),aY]]
   exact ak [0] rfl q)
 refine nx J5 (aa λ_ J10=>CN (aW (aA (aA (bq (ad J3 (sr λ_ J11=>P2 ?_)))))));refine nx J11 (ah (WK [0] (aw rfl rfl ?_)));obtain rfl:k=5:=by omega
 exact⟨u,rfl,rfl⟩
theorem BC(part all:Int):
 DT 180 #[(.int .i64 (part)),(.int .i64 (all))] T0 [] (RI (.bool (Nh part all)) []):=by
 refine BD 15 Tryz.func180 rfl rfl rfl λw0 F hF=>sr λ_ J1=>PS ?_
 refine nx J1 (sr λ_ J2=>P2 ?_);refine tp (jm (r:=(rH .i64 part all)) rfl rfl rfl rfl) ?_;refine CR GP (vN (rH .i64 part all)) ID λvR HR hR=>?_
 obtain⟨_,rfl,rfl⟩:=hR;revert vR;intro us1;refine je 0 rfl rfl (λhlus1 _=>?_);have hzus1:=uP (rH .i64 part all) 5;change (Fj (rH .i64 part all)).length≤5 at hzus1;refine tp (dO rfl eh rfl hlus1) ?_;refine tp (EM (r:=(2* (((Fj (rH .i64 part all)).length:Nat):Int))) rfl rfl rfl (bH (by omega) (by omega))) ?_;refine PS ?_;refine CR GP (vN all) ID λvR HR hR=>?_
 obtain⟨_,rfl,rfl⟩:=hR;revert vR;intro us2;refine je 0 rfl rfl (λhlus2 _=>?_);have hzus2:=uP all 5;change (Fj all).length≤5 at hzus2;refine tp (dO rfl eh rfl hlus2) ?_;refine P2 ?_;exact nx J2 (ah (WK [] (aw rfl rfl ⟨rfl,rfl⟩)))
theorem jQ(v:ViewT)(bits:Int):
 DT 175 #[(.agg (ints v.flat).toArray),(.int .i64 (bits))] T0 [] (RI (.bool (im v bits)) []):=by
 refine BD 9 Tryz.func175 rfl rfl rfl λw0 F hF=>sr λ_ J1=>XY (ints v.flat) λb2=>?_
 refine PS ?_;refine nx J1 (sr λ_ J2=>PS ?_);refine FA 1 eG aO ?_;refine LU 0 Y3 (kL v rfl) ?_;refine CE Pj (BC bits v.members) ID ?_;refine PS ?_;exact nx J2 (ah (WK [] (aw rfl rfl ⟨rfl,rfl⟩)))
theorem A1(v:ViewT)(b:BallotT)(ch:ChangeT):
 DT 117 #[(.agg (ints v.flat).toArray),(.agg (ints b.flat).toArray),(.agg (ints ch.flat).toArray)] T0 [] (dG (λr' H=>∃vb,r'= .pointer (some ⟨vb,0,none⟩)∧H=[aj vb (VoteT.cells (ju v b ch)) 196])):=by
 refine BD 12 Tryz.func117 rfl rfl rfl λw0 F hF=>sr λ_ J1=>XY (ints v.flat) λb3=>?_
 refine XY (ints b.flat) λb4=>?_
 refine XY (ints ch.flat) λb5=>?_
 refine PS ?_;refine nx J1 (sr λ_ J2=>LW 2 eG bj an ?_);refine LW 1 kV cJ aq ?_;refine LW 0 mS fF aJ ?_;refine tp (zu (cs:=VoteT.cells (VoteT.mk v b ch BallotT.zero 0 0 false)) (segs:=[ints ViewT.zero.flat,ints BallotT.zero.flat,ints ChangeT.zero.flat,ints BallotT.zero.flat,[Value.int .i64 0],[Value.int .i64 0],[Value.bool false]]) (res:=[ints v.flat,ints b.flat,ints ch.flat,ints BallotT.zero.flat,[Value.int .i64 0],[Value.int .i64 0],[Value.bool false]]) (parts:=[(0,ints v.flat),(1,ints b.flat),(2,ints ch.flat)]) rfl rfl kf (by kernel_rfl) (by kernel_rfl) rfl (fI rfl ((an v).trans (an ViewT.zero).symm) (fI rfl ((aq b).trans (aq BallotT.zero).symm) (fI rfl ((aJ ch).trans (aJ ChangeT.zero).symm) my))) (fZ (VoteT.mk v b ch BallotT.zero 0 0 false)).symm) ?_;refine XY (VoteT.cells (VoteT.mk v b ch BallotT.zero 0 0 false)) λb11=>?_
 refine PS ?_;exact nx J2 (ah (WK [0] (aw rfl rfl ⟨b11,rfl,rfl⟩)))
theorem bQ(vb:Nat)(v:VoteT):
 DT 118 #[(.pointer (some ⟨vb,0,none⟩))] T0 [aj vb (VoteT.cells v) 196] (RI (.agg (ints v.ballot.flat).toArray) [aj vb (VoteT.cells v) 196]):=by
 refine BD 7 Tryz.func118 rfl rfl rfl λw0 F hF=>sr λ_ J1=>XZ Qo (ints BallotT.zero.flat) λb2=>?_
 refine nx J1 (sr λ_ J2=>P2 ?_);refine FA 7 kf cJ ?_;refine LV 1 kV cJ aq VoteT.sp_ballot (y:=v.ballot) ?_;refine SW 0 cJ aq ?_;refine nx J2 (ah (RC 0 [1] kV cJ (aq _) ?_));exact⟨rfl,rfl⟩
theorem dy(vb:Nat)(v:VoteT):
 DT 67 #[(.pointer (some ⟨vb,0,none⟩))] T0 [aj vb (VoteT.cells v) 196] (RI (.agg (ints v.change.flat).toArray) [aj vb (VoteT.cells v) 196]):=by
 refine BD 7 Tryz.func67 rfl rfl rfl λw0 F hF=>sr λ_ J1=>XZ Qp (ints ChangeT.zero.flat) λb2=>?_
 refine nx J1 (sr λ_ J2=>P2 ?_);refine FA 9 kf fF ?_;refine LV 1 mS fF aJ VoteT.sp_change (y:=v.change) ?_;refine SW 0 fF aJ ?_;refine nx J2 (ah (RC 0 [1] mS fF (aJ _) ?_));exact⟨rfl,rfl⟩
theorem oT(vb:Nat)(v:VoteT):
 DT 119 #[(.pointer (some ⟨vb,0,none⟩))] T0 [aj vb (VoteT.cells v) 196] (RI (.bool v.putting) [aj vb (VoteT.cells v) 196]):=by
 refine BD 7 Tryz.func119 rfl rfl rfl λw0 F hF=>sr λ_ J1=>PS ?_
 refine nx J1 (sr λ_ J2=>P2 ?_);refine FA 16 kf lT ?_;refine LU 0 Y4 (m4 v rfl) ?_;refine PS ?_;exact nx J2 (ah (WK [0] (aw rfl rfl ⟨rfl,rfl⟩)))
theorem E3(vb:Nat)(v:VoteT)(who:Int)(b had:BallotT)(ch:ChangeT)(hb:WF b.flat)(hvb:WF v.ballot.flat):
 DT 153 #[(.pointer (some ⟨vb,0,none⟩)),(.int .i64 (who)),(.agg (ints b.flat).toArray),(.agg (ints had.flat).toArray),(.agg (ints ch.flat).toArray)] T0 [aj vb (VoteT.cells v) 196] (RI (.bool (fi v who b had ch).2) [aj vb (VoteT.cells (fi v who b had ch).1) 196]):=by
 refine BD 76 Tryz.func153 rfl rfl rfl λw0 F hF=>sr λ_ J1=>XY (ints b.flat) λb7=>?_
 refine XY (ints had.flat) λb8=>?_
 refine XY (ints ch.flat) λb9=>?_
 refine PS ?_;refine nx J1 (aa λ_ J2=>aa λ_ J3=>D2 3 2 bl ?_);refine PD 0 ?_;refine PD 1 ?_;refine FD 2 16 kf lT ?_;refine LR 3 Y4 (m4 v rfl) ?_;refine sQ ?_ ?_<;>intro h14;refine PD 4 ?_;refine NT 5 ?_;refine NT 6 ?_;refine NT 7 ?_;refine NT 8 ?_;refine NT 9 ?_;refine NT 10 ?_;refine PD 11 ?_;refine PD 12 ?_;refine NT 13 ?_;refine NT 14 ?_;refine NT 15 ?_;refine NT 16 ?_;refine NT 17 ?_;refine NT 18 ?_;refine NT 19 ?_;refine PD 20 ?_;refine DN (ad J3 (CY (sr λ_ J4=>PS ?_)));refine nx J4 (ah (ae (WK [3] (aw rfl rfl ?_))));have e:fi v who b had ch=(v,false):=by rw[fi,h14,if_pos (by rfl)]
 exact⟨congrArg (λq:VoteT×Bool=>Value.bool q.2) e.symm,congrArg (λq:VoteT×Bool=>[aj vb (VoteT.cells q.1) 196]) e.symm⟩;refine PD 4 ?_;refine LY 5 kV cJ aq ?_;refine PD 6 ?_;refine PD 7 ?_;refine FD 8 7 kf cJ ?_;refine tb 9 rfl (aN (vs:=ints v.ballot.flat) rfl kV rfl cJ rfl (λ_ h=>h.2.1) (aq v.ballot) (MO v 0 rfl (by decide) (whole (aq v.ballot)))) ?_;refine tb 10 rfl (MR (a:=b.flat) (b:=v.ballot.flat) (m:=6) (c:=2) NC NA rfl Oa (fq (aq b)) (fq (aq v.ballot)) ⟨jq II IS (fq (aq b)),jq II IS (fq (aq v.ballot))⟩ hb hvb rfl rfl rfl) ?_;refine kg ?_ ?_<;>intro h21;refine PD 11 ?_;refine PD 12 ?_;refine NT 13 ?_;refine NT 14 ?_;refine NT 15 ?_;refine NT 16 ?_;refine NT 17 ?_;refine NT 18 ?_;refine NT 19 ?_;refine PD 20 ?_;refine DN (ad J3 (CY (sr λ_ J5=>PS ?_)));refine nx J5 (ah (ae (WK [3] (aw rfl rfl ?_))));have e:fi v who b had ch=(v,false):=by rw[fi,oG,decide_eq_false h21,if_pos (by rw[h14];rfl)]
 exact⟨congrArg (λq:VoteT×Bool=>Value.bool q.2) e.symm,congrArg (λq:VoteT×Bool=>[aj vb (VoteT.cells q.1) 196]) e.symm⟩;refine PD 11 ?_;refine PD 12 ?_;refine PD 13 ?_;refine PD 14 ?_;refine FD 15 0 kf bj ?_;refine tb 16 rfl (aN (vs:=ints v.view.flat) rfl eG rfl bj rfl (λ_ h=>h.2.1) (an v.view) (EI v 0 rfl (by decide) (whole (an v.view)))) ?_;refine PD 17 ?_;refine AL 18 ?_;refine CE qK (dU v.view who) ID ?_;refine bg ?_ ?_<;>intro h29;have hw:0≤who∧who<5:=by unfold js cI at h29;simp only[ao,decide_eq_true_eq]at h29;exact h29.1
 refine EN (PD 19 ?_);refine PD 20 ?_;refine DN (ad J3 (CN (qx J2 (aa λ_ J6=>D0 bl ?_))));refine PD 0 ?_;refine PD 1 ?_;refine FD 2 14 kf aO ?_;refine PD 4 ?_;refine ta 5 rfl (wI (r:=(cW who)) rfl rfl rfl (by omega) rfl) ?_;refine AL 3 ?_;refine LU 3 Y3 (mJ v rfl) ?_;refine EN (ta 6 rfl (He (r:=(iR .i64 v.vowed (cW who))) rfl rfl rfl rfl) ?_);refine PD 7 ?_;refine FD 8 14 kf aO ?_;refine AL 9 ?_;refine SS 3 aO (oD _) (VoteT.set_vowed v rfl _) ?_;refine EN (DN (ad J6 (aa λ_ J7=>aa λ_ J8=>D2 1 3 bl ?_)));refine FD 0 0 kV aO ?_;refine LR 1 Y3 (fE had rfl) ?_;refine PD 2 ?_;refine kg ?_ ?_<;>intro h43;refine PD 3 ?_;refine PD 4 ?_;refine PD 5 ?_;refine FD 6 12 kf cJ ?_;refine tb 7 rfl (aN (vs:=ints v.best.flat) rfl kV rfl cJ rfl (λ_ h=>h.2.2.1) (aq v.best) (VoteT.sub_best (VoteT.mk v.view v.ballot v.change v.best (iR .i64 v.vowed (cW who)) v.took v.putting) 0 rfl (by decide) (whole (aq v.best)))) ?_;refine LY 8 kV cJ aq ?_;refine AL 9 ?_;refine CE MY (Ap v.best had) ID ?_;refine bg ?_ ?_<;>intro h50;refine EN (PD 10 ?_);refine DN (ad J8 (CY (D2 1 0 bl ?_)));refine PD 0 ?_;refine PD 1 ?_;refine LY 2 kV cJ aq ?_;refine LY 3 mS fF aJ ?_;refine PD 4 ?_;refine FD 5 12 kf cJ ?_;refine AL 6 ?_;refine SP 3 cJ aq oD VoteT.wp_best ?_;refine EN (PD 7 ?_);refine FD 8 9 kf fF ?_;refine AL 9 ?_;refine SP 3 fF aJ oD VoteT.wp_change ?_
 refine EN (DN (ad J7 (aa λ_ J9=>fA (α:=Unit) (λ_=>True) (λ_u=>[(0,(.pointer (some ⟨vb,0,none⟩))),(10,(.bool false))]) (λ_u=>[aj b9 (ints ch.flat) 28,aj b8 (ints had.flat) 90,aj b7 (ints b.flat) 90,aj vb (VoteT.cells (VoteT.mk v.view v.ballot ch had (iR .i64 v.vowed (cW who)) v.took (im v.view (iR .i64 v.vowed (cW who))))) 196]) (λ_u _=>?_) (λtl9=>?_))));refine ad J9 (sr λ_ J10=>P2 ?_);refine FA 16 kf lT ?_;refine LT 3 Y4 (.bool (im v.view (iR .i64 v.vowed (cW who)))) ?_ (hc:=by exact m4 _ rfl);refine PS ?_;refine nx J10 (ah (WK [3] (aw rfl rfl ?_)));have e:fi v who b had ch=((VoteT.mk v.view v.ballot ch had (iR .i64 v.vowed (cW who)) v.took (im v.view (iR .i64 v.vowed (cW who)))),im v.view (iR .i64 v.vowed (cW who))):=by rw[fi,oG,decide_eq_true (show b.flat=v.ballot.flat from Decidable.not_not.1 h21),h29,h14,if_neg (by decide),w7,decide_eq_true (show 0<had.round by omega),h50,if_pos (by decide)]
 exact⟨congrArg (λq:VoteT×Bool=>Value.bool q.2) e.symm,congrArg (λq:VoteT×Bool=>[aj vb (VoteT.cells q.1) 196]) e.symm⟩;refine D0 bl ?_;refine PD 0 ?_;refine PD 1 ?_;refine PD 2 ?_;refine FD 3 0 kf bj ?_;refine PD 5 ?_;refine PD 6 ?_;refine FD 7 14 kf aO ?_;refine db [4,8] (by kernel_rfl) rfl (aF rfl ?_ ?_);refine LV 3 eG bj an qk (y:=v.view) ?_;refine EN (AL 8 ?_);refine LT 3 Y3 (.int .i64 ((iR .i64 v.vowed (cW who)))) ?_ (hc:=by exact mJ _ rfl);refine EN (AL 9 ?_);refine CE xV (jQ v.view (iR .i64 v.vowed (cW who))) ID ?_;refine EN (PD 10 ?_);refine FD 11 16 kf lT ?_;refine AL 12 ?_;refine SS 3 lT (oD _) (lZ _ rfl _) ?_;refine EN (DN ?_)
 exact aE
  SB
  (λ_ s=>s)
  (tl9 (():Unit) trivial)
 refine aF rfl ?_ ?_;refine LT 3 Y3 (.int .i64 ((iR .i64 v.vowed (cW who)))) ?_ (hc:=by exact mJ _ rfl);refine EN (AL 4 ?_);refine LV 3 eG bj an qk (y:=v.view) ?_;refine EN (AL 9 ?_);refine CE xV (jQ v.view (iR .i64 v.vowed (cW who))) ID ?_;refine EN (PD 10 ?_);refine FD 11 16 kf lT ?_;refine AL 12 ?_;refine SS 3 lT (oD _) (lZ _ rfl _) ?_;refine EN (DN ?_)
 exact aE
  SB
  (λ_ s=>s)
  (tl9 (():Unit) trivial)
 exact bP;refine EN (PD 10 ?_);refine DN (ad J8 (CN (qx J7 (aa λ_ J11=>fA (α:=Unit) (λ_=>True) (λ_u=>[(0,(.pointer (some ⟨vb,0,none⟩))),(10,(.bool false))]) (λ_u=>[aj b9 (ints ch.flat) 28,aj b8 (ints had.flat) 90,aj b7 (ints b.flat) 90,aj vb (VoteT.cells (VoteT.mk v.view v.ballot v.change v.best (iR .i64 v.vowed (cW who)) v.took (im v.view (iR .i64 v.vowed (cW who))))) 196]) (λ_u _=>?_) (λtl11=>?_)))));refine ad J11 (sr λ_ J12=>P2 ?_);refine FA 16 kf lT ?_;refine LT 3 Y4 (.bool (im v.view (iR .i64 v.vowed (cW who)))) ?_ (hc:=by exact m4 _ rfl);refine PS ?_;refine nx J12 (ah (WK [3] (aw rfl rfl ?_)));have e:fi v who b had ch=((VoteT.mk v.view v.ballot v.change v.best (iR .i64 v.vowed (cW who)) v.took (im v.view (iR .i64 v.vowed (cW who)))),im v.view (iR .i64 v.vowed (cW who))):=by rw[fi,oG,decide_eq_true (show b.flat=v.ballot.flat from Decidable.not_not.1 h21),h29,h14,if_neg (by decide),w7,h50,kQ,if_neg (by decide)]
 exact⟨congrArg (λq:VoteT×Bool=>Value.bool q.2) e.symm,congrArg (λq:VoteT×Bool=>[aj vb (VoteT.cells q.1) 196]) e.symm⟩;refine D0 bl ?_;refine PD 0 ?_;refine PD 1 ?_;refine PD 2 ?_;refine FD 3 0 kf bj ?_;refine PD 5 ?_;refine PD 6 ?_;refine FD 7 14 kf aO ?_;refine db [4,8] (by kernel_rfl) rfl (aF rfl ?_ ?_);refine LV 3 eG bj an qk (y:=v.view) ?_;refine EN (AL 8 ?_);refine LT 3 Y3 (.int .i64 ((iR .i64 v.vowed (cW who)))) ?_ (hc:=by exact mJ _ rfl);refine EN (AL 9 ?_);refine CE xV (jQ v.view (iR .i64 v.vowed (cW who))) ID ?_;refine EN (PD 10 ?_);refine FD 11 16 kf lT ?_;refine AL 12 ?_;refine SS 3 lT (oD _) (lZ _ rfl _) ?_;refine EN (DN ?_)
 exact aE
  SB
  (λ_ s=>s)
  (tl11 (():Unit) trivial)
 refine aF rfl ?_ ?_;refine LT 3 Y3 (.int .i64 ((iR .i64 v.vowed (cW who)))) ?_ (hc:=by exact mJ _ rfl);refine EN (AL 4 ?_);refine LV 3 eG bj an qk (y:=v.view) ?_;refine EN (AL 9 ?_);refine CE xV (jQ v.view (iR .i64 v.vowed (cW who))) ID ?_;refine EN (PD 10 ?_);refine FD 11 16 kf lT ?_;refine AL 12 ?_;refine SS 3 lT (oD _) (lZ _ rfl _) ?_;refine EN (DN ?_)
 exact aE
  SB
  (λ_ s=>s)
  (tl11 (():Unit) trivial)
 exact bP;refine PD 3 ?_;refine NT 4 ?_;refine NT 5 ?_;refine NT 6 ?_;refine NT 7 ?_;refine NT 8 ?_;refine NT 9 ?_;refine PD 10 ?_;refine DN (ad J8 (CN (qx J7 (aa λ_ J13=>fA (α:=Unit) (λ_=>True) (λ_u=>[(0,(.pointer (some ⟨vb,0,none⟩))),(10,(.bool false))]) (λ_u=>[aj b9 (ints ch.flat) 28,aj b8 (ints had.flat) 90,aj b7 (ints b.flat) 90,aj vb (VoteT.cells (VoteT.mk v.view v.ballot v.change v.best (iR .i64 v.vowed (cW who)) v.took (im v.view (iR .i64 v.vowed (cW who))))) 196]) (λ_u _=>?_) (λtl13=>?_)))));refine ad J13 (sr λ_ J14=>P2 ?_);refine FA 16 kf lT ?_;refine LT 3 Y4 (.bool (im v.view (iR .i64 v.vowed (cW who)))) ?_ (hc:=by exact m4 _ rfl);refine PS ?_;refine nx J14 (ah (WK [3] (aw rfl rfl ?_)));have e:fi v who b had ch=((VoteT.mk v.view v.ballot v.change v.best (iR .i64 v.vowed (cW who)) v.took (im v.view (iR .i64 v.vowed (cW who)))),im v.view (iR .i64 v.vowed (cW who))):=by rw[fi,oG,decide_eq_true (show b.flat=v.ballot.flat from Decidable.not_not.1 h21),h29,h14,if_neg (by decide),w7,decide_eq_false (show ¬0<had.round by omega),iq,if_neg (by decide)]
 exact⟨congrArg (λq:VoteT×Bool=>Value.bool q.2) e.symm,congrArg (λq:VoteT×Bool=>[aj vb (VoteT.cells q.1) 196]) e.symm⟩;refine D0 bl ?_;refine PD 0 ?_;refine PD 1 ?_;refine PD 2 ?_;refine FD 3 0 kf bj ?_;refine PD 5 ?_;refine PD 6 ?_;refine FD 7 14 kf aO ?_;refine db [4,8] (by kernel_rfl) rfl (aF rfl ?_ ?_);refine LV 3 eG bj an qk (y:=v.view) ?_;refine EN (AL 8 ?_);refine LT 3 Y3 (.int .i64 ((iR .i64 v.vowed (cW who)))) ?_ (hc:=by exact mJ _ rfl);refine EN (AL 9 ?_);refine CE xV (jQ v.view (iR .i64 v.vowed (cW who))) ID ?_;refine EN (PD 10 ?_);refine FD 11 16 kf lT ?_;refine AL 12 ?_;refine SS 3 lT (oD _) (lZ _ rfl _) ?_;refine EN (DN ?_)
 exact aE
  SB
  (λ_ s=>s)
  (tl13 (():Unit) trivial)
 refine aF rfl ?_ ?_;refine LT 3 Y3 (.int .i64 ((iR .i64 v.vowed (cW who)))) ?_ (hc:=by exact mJ _ rfl);refine EN (AL 4 ?_);refine LV 3 eG bj an qk (y:=v.view) ?_;refine EN (AL 9 ?_);refine CE xV (jQ v.view (iR .i64 v.vowed (cW who))) ID ?_;refine EN (PD 10 ?_);refine FD 11 16 kf lT ?_;refine AL 12 ?_;refine SS 3 lT (oD _) (lZ _ rfl _) ?_;refine EN (DN ?_)
 exact aE
  SB
  (λ_ s=>s)
  (tl13 (():Unit) trivial)
 exact bP;refine EN (PD 19 ?_);refine PD 20 ?_;refine DN (ad J3 (CY (sr λ_ J15=>PS ?_)));refine nx J15 (ah (ae (WK [3] (aw rfl rfl ?_))));have e:fi v who b had ch=(v,false):=by rw[fi,oG,h29,if_pos (by rw[h14,kQ];rfl)]
 exact⟨congrArg (λq:VoteT×Bool=>Value.bool q.2) e.symm,congrArg (λq:VoteT×Bool=>[aj vb (VoteT.cells q.1) 196]) e.symm⟩
theorem Fc(vb:Nat)(v:VoteT)(who:Int)(b:BallotT)(hb:WF b.flat)(hvb:WF v.ballot.flat):
 DT 154 #[(.pointer (some ⟨vb,0,none⟩)),(.int .i64 (who)),(.agg (ints b.flat).toArray)] T0 [aj vb (VoteT.cells v) 196] (RI (.bool (ia v who b).2) [aj vb (VoteT.cells (ia v who b).1) 196]):=by
 refine BD 47 Tryz.func154 rfl rfl rfl λw0 F hF=>sr λ_ J1=>XY (ints b.flat) λb5=>?_
 refine PS ?_;refine nx J1 (aa λ_ J2=>aa λ_ J3=>D2 1 0 bl ?_);refine PD 0 ?_;refine PD 1 ?_;refine FD 2 16 kf lT ?_;refine LR 3 Y4 (m4 v rfl) ?_;refine sQ ?_ ?_<;>intro h10;refine PD 4 ?_;refine PD 5 ?_;refine LY 6 kV cJ aq ?_;refine PD 7 ?_;refine PD 8 ?_;refine FD 9 7 kf cJ ?_;refine tb 10 rfl (aN (vs:=ints v.ballot.flat) rfl kV rfl cJ rfl (λ_ h=>h.2.1) (aq v.ballot) (MO v 0 rfl (by decide) (whole (aq v.ballot)))) ?_;refine tb 11 rfl (MR (a:=b.flat) (b:=v.ballot.flat) (m:=6) (c:=2) NC NA rfl Oa (fq (aq b)) (fq (aq v.ballot)) ⟨jq II IS (fq (aq b)),jq II IS (fq (aq v.ballot))⟩ hb hvb rfl rfl rfl) ?_;refine kg ?_ ?_<;>intro h18;refine PD 12 ?_;refine PD 13 ?_;refine NT 14 ?_;refine NT 15 ?_;refine NT 16 ?_;refine NT 17 ?_;refine NT 18 ?_;refine NT 19 ?_;refine NT 20 ?_;refine PD 21 ?_;refine DN (ad J3 (CY (sr λ_ J4=>PS ?_)));refine nx J4 (ah (ae (WK [1] (aw rfl rfl ?_))));have e:ia v who b=(v,false):=by rw[ia,oG,decide_eq_false h18,if_pos (by rw[h10];rfl)]
 exact⟨congrArg (λq:VoteT×Bool=>Value.bool q.2) e.symm,congrArg (λq:VoteT×Bool=>[aj vb (VoteT.cells q.1) 196]) e.symm⟩;refine PD 12 ?_;refine PD 13 ?_;refine PD 14 ?_;refine PD 15 ?_;refine FD 16 0 kf bj ?_;refine tb 17 rfl (aN (vs:=ints v.view.flat) rfl eG rfl bj rfl (λ_ h=>h.2.1) (an v.view) (EI v 0 rfl (by decide) (whole (an v.view)))) ?_;refine PD 18 ?_;refine AL 19 ?_;refine CE qK (dU v.view who) ID ?_;refine bg ?_ ?_<;>intro h26;have hw:0≤who∧who<5:=by unfold js cI at h26;simp only[ao,decide_eq_true_eq]at h26;exact h26.1
 refine EN (PD 20 ?_);refine PD 21 ?_;refine DN (ad J3 (CN (qx J2 (aa λ_ J5=>D0 bl ?_))));refine PD 0 ?_;refine PD 1 ?_;refine FD 2 15 kf aO ?_;refine PD 4 ?_;refine ta 5 rfl (wI (r:=(cW who)) rfl rfl rfl (by omega) rfl) ?_;refine AL 3 ?_;refine LU 1 Y3 (VoteT.at_took v rfl) ?_;refine EN (ta 6 rfl (He (r:=(iR .i64 v.took (cW who))) rfl rfl rfl rfl) ?_);refine PD 7 ?_;refine FD 8 15 kf aO ?_;refine AL 9 ?_;refine SS 1 aO (oD _) (VoteT.set_took v rfl _) ?_;refine EN (DN (ad J5 (aa λ_ J6=>D1 1 bl ?_)));refine PD 0 ?_;refine PD 1 ?_;refine FD 2 0 kf bj ?_;refine ta 3 rfl (aN (vs:=ints v.view.flat) rfl eG rfl bj rfl (λ_ h=>h.2.1) (an v.view) (EI (VoteT.mk v.view v.ballot v.change v.best v.vowed (iR .i64 v.took (cW who)) v.putting) 0 rfl (by decide) (whole (an v.view)))) ?_;refine PD 4 ?_;refine PD 5 ?_;refine FD 6 15 kf aO ?_;refine LX 7 Y3 (.int .i64 ((iR .i64 v.took (cW who)))) ?_ (hc:=by exact VoteT.at_took _ rfl);refine AL 8 ?_;refine CE xV (jQ v.view (iR .i64 v.took (cW who))) ID ?_;refine EN (PD 9 ?_);refine DN (ad J6 (ah (WK [1] (aw rfl rfl ?_))));have e:ia v who b=((VoteT.mk v.view v.ballot v.change v.best v.vowed (iR .i64 v.took (cW who)) v.putting),im v.view (iR .i64 v.took (cW who))):=by rw[ia,oG,decide_eq_true (show b.flat=v.ballot.flat from Decidable.not_not.1 h18),h26,h10,if_neg (by decide)]
 exact⟨congrArg (λq:VoteT×Bool=>Value.bool q.2) e.symm,congrArg (λq:VoteT×Bool=>[aj vb (VoteT.cells q.1) 196]) e.symm⟩;refine EN (PD 20 ?_);refine PD 21 ?_;refine DN (ad J3 (CY (sr λ_ J7=>PS ?_)));refine nx J7 (ah (ae (WK [1] (aw rfl rfl ?_))));have e:ia v who b=(v,false):=by rw[ia,oG,h26,if_pos (by rw[h10,kQ];rfl)]
 exact⟨congrArg (λq:VoteT×Bool=>Value.bool q.2) e.symm,congrArg (λq:VoteT×Bool=>[aj vb (VoteT.cells q.1) 196]) e.symm⟩;refine PD 4 ?_;refine PD 5 ?_;refine NT 6 ?_;refine NT 7 ?_;refine NT 8 ?_;refine NT 9 ?_;refine NT 10 ?_;refine NT 11 ?_;refine PD 12 ?_;refine PD 13 ?_;refine NT 14 ?_;refine NT 15 ?_;refine NT 16 ?_;refine NT 17 ?_;refine NT 18 ?_;refine NT 19 ?_;refine NT 20 ?_;refine PD 21 ?_;refine DN (ad J3 (CY (sr λ_ J8=>PS ?_)));refine nx J8 (ah (ae (WK [1] (aw rfl rfl ?_))));have e:ia v who b=(v,false):=by rw[ia,h10,if_pos (by rfl)]
 exact⟨congrArg (λq:VoteT×Bool=>Value.bool q.2) e.symm,congrArg (λq:VoteT×Bool=>[aj vb (VoteT.cells q.1) 196]) e.symm⟩
theorem B4{δ:Type}(V:Env δ)(r vb:Nat)(s:MS δ)(vt:VoteT)(hv:s.vote=some vt)[OkR V.toDk s]:
 DT 155 #[(.pointer (some ⟨r,0,none⟩)),(.iface V.T V.ov)] T0 [wT V r s (.pointer (some ⟨vb,0,none⟩)),aj vb (VoteT.cells vt) 196] (dG (λ_ H=>H=[cU V r (jd V.toDk s vt.change)])):=by
 refine BD 32 Tryz.func155 rfl rfl rfl λw0 F hF=>aa λ_ J1=>fA (α:=(Nat)) (λ_=>True) (λb4=>[(0,(.pointer (some ⟨r,0,none⟩))),(1,(.iface V.T V.ov)),(4,(.pointer (some ⟨b4,0,none⟩))),(5,(.int .i64 ((dM s.view vt.change).2)))]) (λb4=>[aj b4 (ints ((dM s.view vt.change).1).flat) 85,aj vb (VoteT.cells vt) 196,wT V r s (.pointer (some ⟨vb,0,none⟩))]) (λb4 _=>?_) (λtl1=>?_)
 refine ad J1 (aa λ_ J2=>sr λ_ J3=>ci (H':=cU V r s::[aj b4 (ints ((dM s.view vt.change).1).flat) 85]) (λ_ q=>o6 hv (aD [2,1] rfl q)) (P2 ?_));refine ap ?_ ?_<;>intro h20;refine PS ?_
 iterate 5 refine UT ?_
 refine PS ?_;refine nx J3 (CY (ah (ae (WK [0] (dZ rfl ?_)))));exact MQ (by rw[jd,if_pos h20]);refine P3 ?_;refine LW 1 eG bj an ?_;refine CE Kh (vX V r s ((dM s.view vt.change).1)) ID ?_;refine bg ?_ ?_<;>intro h25;refine PS ?_;refine PS ?_;refine nx J3 (CN (qx J2 (ac (P2 ?_))));refine LW 1 eG bj an ?_;refine CZ NS (nJ V r (gz V.toDk s ((dM s.view vt.change).1)) ((dM s.view vt.change).1)) ID λvR=>?_
 refine au (WK [0] (bC rfl ?_));exact MQ (by rw[jd,if_neg h20,h25,if_pos rfl]);refine PS ?_;refine PS ?_;refine nx J3 (CY (ah (ae (WK [0] (dZ rfl ?_)))));exact MQ (by rw[jd,if_neg h20,h25,if_neg (by decide)]);refine D1 1 bl ?_;refine PD 0 ?_;refine PD 1 ?_;refine FD 2 2 dx bj ?_;refine PD 4 ?_;refine PD 5 ?_;refine FD 6 1067 dx nO ?_;refine db [3,7,13] (by kernel_rfl) rfl (aF rfl ?_ ?_);refine LZ 0 eG bj an s.view ?_ (hc:=by exact λ_=>dh _);refine EN (db [7,13] (by kernel_rfl) rfl (aF rfl ?_ ?_));refine LG 0 qb (.pointer (some ⟨vb,0,none⟩)) ?_ (hc:=by exact λa_=>(cg _ rfl));refine EN (db [8,13] (by kernel_rfl) rfl (aF rfl ?_ ?_));refine CE u6 (dy vb vt) (SM [1]) ?_;refine EN (db [9,13] (by kernel_rfl) rfl (aF rfl ?_ ?_));refine CE nV (dL s.view vt.change OkVw.rng) ID ?_;refine EN (PD 10 ?_);refine PD 11 ?_;refine PD 12 ?_;refine AL 13 ?_;refine XZ sV (ints ViewT.zero.flat) λb4=>?_
 refine EN (AL 14 ?_);refine SW 0 bj an ?_;refine EN (PD 15 ?_);refine DN ?_
 exact aE
  SB
  (λ_ s=>s)
  (tl1 ((b4):(Nat)) trivial)
 refine aF rfl ?_ ?_;refine XZ sV (ints ViewT.zero.flat) λb4=>?_
 refine EN (AL 9 ?_);refine CE nV (dL s.view vt.change OkVw.rng) ID ?_;refine EN (PD 10 ?_);refine PD 11 ?_;refine PD 12 ?_;refine AL 14 ?_;refine SW 0 bj an ?_;refine EN (PD 15 ?_);refine DN ?_
 exact aE
  SB
  (λ_ s=>s)
  (tl1 ((b4):(Nat)) trivial)
 exact bP;refine aF rfl ?_ ?_;refine XZ sV (ints ViewT.zero.flat) λb4=>?_
 refine EN (AL 8 ?_);refine CE u6 (dy vb vt) (SM [2]) ?_;refine EN (AL 9 ?_);refine CE nV (dL s.view vt.change OkVw.rng) ID ?_;refine EN (PD 10 ?_);refine PD 11 ?_;refine PD 12 ?_;refine AL 14 ?_;refine SW 1 bj an ?_;refine EN (PD 15 ?_);refine DN ?_
 exact aE
  SB
  (λ_ s=>ak [1,0,0] rfl s)
  (tl1 ((b4):(Nat)) trivial)
 exact bP;refine aF rfl ?_ ?_;refine XZ sV (ints ViewT.zero.flat) λb4=>?_
 refine EN (AL 7 ?_);refine LG 1 qb (.pointer (some ⟨vb,0,none⟩)) ?_ (hc:=by exact λa_=>(cg _ rfl));refine EN (AL 8 ?_);refine CE u6 (dy vb vt) (SM [2]) ?_;refine EN (AL 9 ?_);refine CE nV (dL s.view vt.change OkVw.rng) ID ?_;refine EN (PD 10 ?_);refine PD 11 ?_;refine PD 12 ?_;refine AL 14 ?_;refine SW 1 bj an ?_;refine EN (PD 15 ?_);refine DN ?_
 exact aE
  SB
  (λ_ s=>ak [1,0,0] rfl s)
  (tl1 ((b4):(Nat)) trivial)
 exact bP;refine aF rfl ?_ ?_;refine LG 0 qb (.pointer (some ⟨vb,0,none⟩)) ?_ (hc:=by exact λa_=>(cg _ rfl));refine EN (db [3,8,13] (by kernel_rfl) rfl (aF rfl ?_ ?_));refine LZ 0 eG bj an s.view ?_ (hc:=by exact λ_=>dh _);refine EN (db [8,13] (by kernel_rfl) rfl (aF rfl ?_ ?_));refine CE u6 (dy vb vt) (SM [1]) ?_;refine EN (db [9,13] (by kernel_rfl) rfl (aF rfl ?_ ?_));refine CE nV (dL s.view vt.change OkVw.rng) ID ?_;refine EN (PD 10 ?_);refine PD 11 ?_;refine PD 12 ?_;refine AL 13 ?_;refine XZ sV (ints ViewT.zero.flat) λb4=>?_
 refine EN (AL 14 ?_);refine SW 0 bj an ?_;refine EN (PD 15 ?_);refine DN ?_
 exact aE
  SB
  (λ_ s=>s)
  (tl1 ((b4):(Nat)) trivial)
 refine aF rfl ?_ ?_;refine XZ sV (ints ViewT.zero.flat) λb4=>?_
 refine EN (AL 9 ?_);refine CE nV (dL s.view vt.change OkVw.rng) ID ?_;refine EN (PD 10 ?_);refine PD 11 ?_;refine PD 12 ?_;refine AL 14 ?_;refine SW 0 bj an ?_;refine EN (PD 15 ?_);refine DN ?_
 exact aE
  SB
  (λ_ s=>s)
  (tl1 ((b4):(Nat)) trivial)
 exact bP;refine aF rfl ?_ ?_;refine XZ sV (ints ViewT.zero.flat) λb4=>?_
 refine EN (AL 8 ?_);refine CE u6 (dy vb vt) (SM [2]) ?_;refine EN (AL 9 ?_);refine CE nV (dL s.view vt.change OkVw.rng) ID ?_;refine EN (PD 10 ?_);refine PD 11 ?_;refine PD 12 ?_;refine AL 14 ?_;refine SW 1 bj an ?_;refine EN (PD 15 ?_);refine DN ?_
 exact aE
  SB
  (λ_ s=>ak [1,0,0] rfl s)
  (tl1 ((b4):(Nat)) trivial)
 exact bP;refine aF rfl ?_ ?_;refine CE u6 (dy vb vt) (SM [1]) ?_;refine EN (db [3,13] (by kernel_rfl) rfl (aF rfl ?_ ?_));refine LZ 1 eG bj an s.view ?_ (hc:=by exact λ_=>dh _);refine EN (db [9,13] (by kernel_rfl) rfl (aF rfl ?_ ?_));refine CE nV (dL s.view vt.change OkVw.rng) ID ?_;refine EN (PD 10 ?_);refine PD 11 ?_;refine PD 12 ?_;refine AL 13 ?_;refine XZ sV (ints ViewT.zero.flat) λb4=>?_
 refine EN (AL 14 ?_);refine SW 0 bj an ?_;refine EN (PD 15 ?_);refine DN ?_
 exact aE
  SB
  (λ_ s=>s)
  (tl1 ((b4):(Nat)) trivial)
 refine aF rfl ?_ ?_;refine XZ sV (ints ViewT.zero.flat) λb4=>?_
 refine EN (AL 9 ?_);refine CE nV (dL s.view vt.change OkVw.rng) ID ?_;refine EN (PD 10 ?_);refine PD 11 ?_;refine PD 12 ?_;refine AL 14 ?_;refine SW 0 bj an ?_;refine EN (PD 15 ?_);refine DN ?_
 exact aE
  SB
  (λ_ s=>s)
  (tl1 ((b4):(Nat)) trivial)
 exact bP;refine aF rfl ?_ ?_;refine XZ sV (ints ViewT.zero.flat) λb4=>?_
 refine EN (AL 3 ?_);refine LZ 2 eG bj an s.view ?_ (hc:=by exact λ_=>dh _);refine EN (AL 9 ?_);refine CE nV (dL s.view vt.change OkVw.rng) ID ?_;refine EN (PD 10 ?_);refine PD 11 ?_;refine PD 12 ?_;refine AL 14 ?_;refine SW 0 bj an ?_;refine EN (PD 15 ?_);refine DN ?_
 exact aE
  SB
  (λ_ s=>s)
  (tl1 ((b4):(Nat)) trivial)
 exact bP;refine aF rfl ?_ ?_;refine XZ sV (ints ViewT.zero.flat) λb4=>?_
 refine EN (db [3,8] (by kernel_rfl) rfl (aF rfl ?_ ?_));refine LZ 1 eG bj an s.view ?_ (hc:=by exact λ_=>dh _);refine EN (AL 8 ?_);refine CE u6 (dy vb vt) (SM [2]) ?_;refine EN (AL 9 ?_);refine CE nV (dL s.view vt.change OkVw.rng) ID ?_;refine EN (PD 10 ?_);refine PD 11 ?_;refine PD 12 ?_;refine AL 14 ?_;refine SW 1 bj an ?_;refine EN (PD 15 ?_);refine DN ?_
 exact aE
  SB
  (λ_ s=>ak [1,0,0] rfl s)
  (tl1 ((b4):(Nat)) trivial)
 refine aF rfl ?_ ?_;refine CE u6 (dy vb vt) (SM [2]) ?_;refine EN (AL 3 ?_);refine LZ 2 eG bj an s.view ?_ (hc:=by exact λ_=>dh _);refine EN (AL 9 ?_);refine CE nV (dL s.view vt.change OkVw.rng) ID ?_;refine EN (PD 10 ?_);refine PD 11 ?_;refine PD 12 ?_;refine AL 14 ?_;refine SW 1 bj an ?_;refine EN (PD 15 ?_);refine DN ?_
 exact aE
  SB
  (λ_ s=>ak [1,0,0] rfl s)
  (tl1 ((b4):(Nat)) trivial)
 exact bP;exact bP;refine aF rfl ?_ ?_;refine XZ sV (ints ViewT.zero.flat) λb4=>?_
 refine EN (db [3,7] (by kernel_rfl) rfl (aF rfl ?_ ?_));refine LZ 1 eG bj an s.view ?_ (hc:=by exact λ_=>dh _);refine EN (AL 7 ?_);refine LG 1 qb (.pointer (some ⟨vb,0,none⟩)) ?_ (hc:=by exact λa_=>(cg _ rfl));refine EN (AL 8 ?_);refine CE u6 (dy vb vt) (SM [2]) ?_;refine EN (AL 9 ?_);refine CE nV (dL s.view vt.change OkVw.rng) ID ?_;refine EN (PD 10 ?_);refine PD 11 ?_;refine PD 12 ?_;refine AL 14 ?_;refine SW 1 bj an ?_;refine EN (PD 15 ?_);refine DN ?_
 exact aE
  SB
  (λ_ s=>ak [1,0,0] rfl s)
  (tl1 ((b4):(Nat)) trivial)
 refine aF rfl ?_ ?_;refine LG 1 qb (.pointer (some ⟨vb,0,none⟩)) ?_ (hc:=by exact λa_=>(cg _ rfl));refine EN (db [3,8] (by kernel_rfl) rfl (aF rfl ?_ ?_));refine LZ 1 eG bj an s.view ?_ (hc:=by exact λ_=>dh _);refine EN (AL 8 ?_);refine CE u6 (dy vb vt) (SM [2]) ?_;refine EN (AL 9 ?_);refine CE nV (dL s.view vt.change OkVw.rng) ID ?_;refine EN (PD 10 ?_);refine PD 11 ?_;refine PD 12 ?_;refine AL 14 ?_;refine SW 1 bj an ?_;refine EN (PD 15 ?_);refine DN ?_
 exact aE
  SB
  (λ_ s=>ak [1,0,0] rfl s)
  (tl1 ((b4):(Nat)) trivial)
 refine aF rfl ?_ ?_;refine CE u6 (dy vb vt) (SM [2]) ?_;refine EN (AL 3 ?_);refine LZ 2 eG bj an s.view ?_ (hc:=by exact λ_=>dh _);refine EN (AL 9 ?_);refine CE nV (dL s.view vt.change OkVw.rng) ID ?_;refine EN (PD 10 ?_);refine PD 11 ?_;refine PD 12 ?_;refine AL 14 ?_;refine SW 1 bj an ?_;refine EN (PD 15 ?_);refine DN ?_
 exact aE
  SB
  (λ_ s=>ak [1,0,0] rfl s)
  (tl1 ((b4):(Nat)) trivial)
 exact bP;exact bP;exact bP
theorem B3{δ:Type}(V:Env δ)(r:Nat)(s:MS δ)(vt:VoteT)(hv:s.vote=some vt)[OkR V.toDk s]:DT 155 #[.pointer (some ⟨r,0,none⟩), .iface V.T V.ov] T0 [cU V r s] (dG (λ_ H=>H=[cU V r (jd V.toDk s vt.change)])):=
 Leg.Does.ex (λ_ q=>nX hv q) λvb=>B4 V r vb s vt hv
theorem o7{δ:Type}{V:Env δ}{r:Nat}{s:MS δ}{H:List HP}{h:Hl}(hv:s.vote=none)(q:bR (wT V r s (.pointer none)::H) h):bR (cU V r s::H) h:=by
 have q2:=DR q
 rwa [show({s with vote:=none}:MS δ)=s by cases s;simp_all]at q2
theorem lE{δ:Type}(V:Env δ)(r:Nat)(s:MS δ)(f:MS δ→MS δ)(from':Int)(m:MsgT)[OkR V.toDk s][OkMg m](hfe:from'=s.id→m.epoch=s.view.epoch)(h3:m.kind=3→m.epoch=s.view.epoch→TK V r 151 (dC s (max s.round m.ballot.round)) from' m (f (dC s (max s.round m.ballot.round))))(h5:m.kind=5→m.epoch=s.view.epoch→TK V r 152 (dC s (max s.round m.ballot.round)) from' m (f (dC s (max s.round m.ballot.round))))(hn:m.kind≠3∧m.kind≠5→f (dC s (max s.round m.ballot.round))=(dC s (max s.round m.ballot.round)))(hv:m.kind=4∨m.kind=6→s.vote=none):
 DT 109 #[(.pointer (some ⟨r,0,none⟩)),(.iface V.T V.ov),(.int .i64 (from')),(.agg (ints m.flat).toArray)] T0 [cU V r s] (dG (λ_ H=>H=[cU V r (eB V.toDk f s from' m)])):=by
 refine BD 124 Tryz.func109 rfl rfl rfl λw0 F hF=>sr λ_ J1=>XY (ints m.flat) λb7=>?_
 refine nx J1 (aa λ_ J2=>aa λ_ J3=>DC bl (BL 0) (dm 1 rfl rfl) ?_);refine FD 0 177 bi aO ?_;refine LR 1 Y3 (fc m rfl) ?_;refine PD 2 ?_;refine PD 3 ?_;refine FD 4 2 dx bj ?_;refine FD 5 2 eG aO ?_;refine ta 6 rfl (dD (v:=(.int .i64 (s.view.epoch))) rfl Y3 rfl rfl (λ_ h=>h.2.2.1) (λa_=>(cz (s.rep a_) 0 rfl (by decide) (aV _ rfl)))) ?_;refine PD 7 ?_;refine kg ?_ ?_<;>intro h15;refine DN (ad J3 (CY (aa λ_ J4=>sr λ_ J5=>FA 0 bi aO ?_)));refine LU 0 Y3 (fk m rfl) ?_;refine PS ?_;refine ap ?_ ?_<;>intro h18;refine PS ?_
 iterate 3 refine UT ?_
 refine PS ?_;refine nx J5 (CY (ac ?_))
 iterate 5 refine PS ?_
 refine FA 2 dx bj ?_;refine LZ 1 eG bj an s.view ?_ (hc:=by exact λ_=>dh _);refine tp (ku MsgT.zero (MsgT.mk 7 0 RowT.zero 0 0 BallotT.zero BallotT.zero ChangeT.zero s.view) [(0,[Value.int .i64 7]),(8,ints s.view.flat)] bi bD (g:=MsgT.sg)) ?_;refine CZ jL (j8 V r s from' (jt s.view) (λe=>absurd (hfe e) (by omega))) (SM [1]) λvR=>?_
 refine nx J4 (ah (ae (WK [0] (dZ rfl ?_))));exact congrArg (λq=>[cU V r q]) (show(iL V.toDk s ([SaidT.mk from' (jt s.view)]))=eB V.toDk f s from' m by rw[eB,if_pos h15,if_pos (.inl h18)];rfl);refine PS ?_;refine FA 0 bi aO ?_;refine LU 0 Y3 (fk m rfl) ?_;refine PS ?_;refine ap ?_ ?_<;>intro h22;refine PS ?_;refine nx J5 (CY (ac ?_))
 iterate 5 refine PS ?_
 refine FA 2 dx bj ?_;refine LZ 1 eG bj an s.view ?_ (hc:=by exact λ_=>dh _);refine tp (ku MsgT.zero (MsgT.mk 7 0 RowT.zero 0 0 BallotT.zero BallotT.zero ChangeT.zero s.view) [(0,[Value.int .i64 7]),(8,ints s.view.flat)] bi bD (g:=MsgT.sg)) ?_;refine CZ jL (j8 V r s from' (jt s.view) (λe=>absurd (hfe e) (by omega))) (SM [1]) λvR=>?_
 refine nx J4 (ah (ae (WK [0] (dZ rfl ?_))));exact congrArg (λq=>[cU V r q]) (show(iL V.toDk s ([SaidT.mk from' (jt s.view)]))=eB V.toDk f s from' m by rw[eB,if_pos h15,if_pos (.inr h22)];rfl);refine PS ?_;refine nx J5 (CN (qx J4 (ah (ae (WK [1] (dZ rfl ?_))))));exact congrArg (λq=>[cU V r q]) (show s=eB V.toDk f s from' m by rw[eB,if_pos h15,if_neg (by omega)]);refine DN (ad J3 (CN (qx J2 (aa λ_ J6=>aa λ_ J7=>DC bl (BL 0) (dm 1 rfl rfl) ?_))));refine FD 0 177 bi aO ?_;refine LR 1 Y3 (fc m rfl) ?_;refine PD 2 ?_;refine PD 3 ?_;refine FD 4 2 dx bj ?_;refine FD 5 2 eG aO ?_;refine ta 6 rfl (dD (v:=(.int .i64 (s.view.epoch))) rfl Y3 rfl rfl (λ_ h=>h.2.2.1) (λa_=>(cz (s.rep a_) 0 rfl (by decide) (aV _ rfl)))) ?_;refine PD 7 ?_;refine kg ?_ ?_<;>intro h40;refine PD 8 ?_;refine NT 9 ?_;refine NT 10 ?_;refine NT 11 ?_;refine NT 12 ?_;refine NT 13 ?_;refine NT 14 ?_;refine NT 15 ?_;refine NT 16 ?_;refine NT 17 ?_;refine NT 18 ?_;refine PD 19 ?_;refine DN (ad J7 (CY (ah (ae (WK [1] (dZ rfl ?_))))));exact congrArg (λq=>[cU V r q]) (show s=eB V.toDk f s from' m by rw[eB,if_neg h15,if_pos (.inl (by omega))]);refine PD 8 ?_;refine PD 9 ?_;refine PD 10 ?_;refine FD 11 2 dx bj ?_;refine tb 12 rfl (gO (vs:=ints s.view.flat) rfl eG rfl bj rfl (λ_ h=>h.2.2.1) (an s.view) (λa_=>(gH (s.rep a_) 0 rfl (by decide) (whole (an ((s.rep a_).view)))))) ?_;refine PD 13 ?_;refine PD 14 ?_;refine FD 15 0 dx aO ?_
 refine tb 16 rfl (dD (v:=(.int .i64 (s.id))) rfl Y3 rfl rfl (λ_ h=>h.2.2.1) (λa_=>(cT _ rfl))) ?_;refine AL 17 ?_;refine CE qK (dU s.view s.id) ID ?_;refine bg ?_ ?_<;>intro h50;refine EN (PD 18 ?_);refine PD 19 ?_;refine DN (ad J7 (CN (qx J6 (aa λ_ J8=>D1 0 bl ?_))));refine PD 0 ?_;refine PD 1 ?_;refine PD 2 ?_;refine FD 3 1066 dx aO ?_;refine FD 5 178 bi cJ ?_;refine FD 6 178 kV aO ?_;refine LX 7 Y3 (.int .i64 (m.ballot.round)) ?_ (hc:=by exact MsgT.pt_ballot m 0 rfl (by decide) (fE m.ballot rfl));refine AL 4 ?_;refine LG 1 Y3 (.int .i64 (s.round)) ?_ (hc:=by exact λa_=>(wH _ rfl));refine EN (ta 8 rfl (zr rfl rfl rfl) ?_);refine PD 9 ?_;refine FD 10 1066 dx aO ?_;refine AL 11 ?_;refine SK 1 aO (λ_=>di _) ?_ (hc:=by exact λa_=>(mM _ rfl _));refine EN (DN (ad J8 (sr λ_ J9=>FA 0 bi aO ?_)));refine LU 0 Y3 (fk m rfl) ?_;refine nx J9 (am (sr λ_ J10=>PS ?_));refine ap ?_ ?_<;>intro h67;refine PS ?_;refine nx J10 (CY (ac (P3 ?_)));refine LW 0 bi ct aH ?_;refine CZ Pv ((h3 (by omega) (by omega))) (SM [1]) λvR=>?_
 refine au (af (WK [0] (bC rfl ?_)));exact congrArg (λq=>[cU V r q]) (show(f (dC s (max s.round m.ballot.round)))=eB V.toDk f s from' m by rw[eB,if_neg h15,if_neg (λh=>h.elim (λh=>absurd h (by omega)) (λh=>by rw[h50]at h;cases h))]);refine PS ?_;refine nx J10 (CN (sr λ_ J11=>PS ?_));refine ap ?_ ?_<;>intro h74;refine PS ?_;refine nx J11 (CY (ac (P3 ?_)));refine LW 0 bi ct aH ?_;refine CZ Pu ((h5 (by omega) (by omega))) (SM [1]) λvR=>?_
 refine au (af (WK [0] (bC rfl ?_)));exact congrArg (λq=>[cU V r q]) (show(f (dC s (max s.round m.ballot.round)))=eB V.toDk f s from' m by rw[eB,if_neg h15,if_neg (λh=>h.elim (λh=>absurd h (by omega)) (λh=>by rw[h50]at h;cases h))]);refine PS ?_;refine nx J11 (CN (sr λ_ J12=>PS ?_));refine ap ?_ ?_<;>intro h81;refine ci (H':=wT V r (dC s (max s.round m.ballot.round)) (.pointer none)::[aj b7 (ints m.flat) 134]) (λ_ q=>tT (hv (by omega)) (aD [1] rfl q)) (PS ?_);refine nx J12 (CY (aa λ_ J13=>DC bl (dm 0 rfl rfl) (BL 1) ?_));refine PD 0 ?_;refine PD 1 ?_;refine FD 2 1067 dx nO ?_;refine ta 3 rfl (dD (v:=(.pointer none)) rfl qb rfl rfl (λ_ h=>h.2.1) (λa_=>(cg _ rfl))) ?_;refine ta 4 rfl (jA rfl qb rfl rfl) ?_;refine PD 5 ?_;refine NT 6 ?_;refine NT 7 ?_;refine NT 8 ?_;refine NT 9 ?_;refine NT 10 ?_;refine NT 11 ?_;refine NT 12 ?_;refine NT 13 ?_;refine NT 14 ?_;refine NT 15 ?_;refine NT 16 ?_;refine NT 17 ?_;refine PD 18 ?_;refine DN (ad J13 (CN (aR (af (aE (H':=[cU V r (dC s (max s.round m.ballot.round))]) (dN _) (λ_ q=>o7 (hv (by omega)) (ak [0] rfl q)) (bC rfl ?_))))));exact congrArg (λq=>[cU V r q]) (show(dC s (max s.round m.ballot.round))=eB V.toDk f s from' m by rw[eB,if_neg h15,if_neg (λh=>h.elim (λh=>absurd h (by omega)) (λh=>by rw[h50]at h;cases h)),hn (by omega)]);refine PS ?_;refine nx J12 (CN (sr λ_ J14=>PS ?_));refine ap ?_ ?_<;>intro h105
 refine ci (H':=wT V r (dC s (max s.round m.ballot.round)) (.pointer none)::[aj b7 (ints m.flat) 134]) (λ_ q=>tT (hv (by omega)) (aD [1] rfl q)) (PS ?_);refine nx J14 (CY (aa λ_ J15=>DC bl (dm 0 rfl rfl) (BL 1) ?_));refine PD 0 ?_;refine PD 1 ?_;refine FD 2 1067 dx nO ?_;refine ta 3 rfl (dD (v:=(.pointer none)) rfl qb rfl rfl (λ_ h=>h.2.1) (λa_=>(cg _ rfl))) ?_;refine ta 4 rfl (jA rfl qb rfl rfl) ?_;refine PD 5 ?_;refine NT 6 ?_;refine NT 7 ?_;refine NT 8 ?_;refine NT 9 ?_;refine NT 10 ?_;refine NT 11 ?_;refine NT 12 ?_;refine NT 13 ?_;refine PD 14 ?_;refine DN (ad J15 (CN (aR (af (aE (H':=[cU V r (dC s (max s.round m.ballot.round))]) (dN _) (λ_ q=>o7 (hv (by omega)) (ak [0] rfl q)) (bC rfl ?_))))));exact congrArg (λq=>[cU V r q]) (show(dC s (max s.round m.ballot.round))=eB V.toDk f s from' m by rw[eB,if_neg h15,if_neg (λh=>h.elim (λh=>absurd h (by omega)) (λh=>by rw[h50]at h;cases h)),hn (by omega)]);refine PS ?_;refine nx J14 (CN (aR (af (WK [1] (bC rfl ?_)))));exact congrArg (λq=>[cU V r q]) (show(dC s (max s.round m.ballot.round))=eB V.toDk f s from' m by rw[eB,if_neg h15,if_neg (λh=>h.elim (λh=>absurd h (by omega)) (λh=>by rw[h50]at h;cases h)),hn (by omega)]);refine EN (PD 18 ?_);refine PD 19 ?_;refine DN (ad J7 (CY (ah (ae (WK [1] (dZ rfl ?_))))));exact congrArg (λq=>[cU V r q]) (show s=eB V.toDk f s from' m by rw[eB,if_neg h15,if_pos (.inr h50)])
theorem A6(v:VoteT)(w:Int)(b:BallotT):(ia v w b).1.change=v.change:=by unfold ia;split<;>rfl
theorem qy{δ:Type}(V:Env δ)(r:Nat)(s:MS δ)(vt:VoteT)(from':Int)(m:MsgT)[OkR V.toDk s][OkMg m](hfe:from'=s.id→m.epoch=s.view.epoch)(hk:m.kind=4∨m.kind=6)(hv:s.vote=some vt)(hp:m.kind=4→(fi vt from' m.ballot m.had m.change).2=true→DT 70 #[.pointer (some ⟨r,0,none⟩), .iface V.T V.ov] T0 [cU V r (lh (dC s (max s.round m.ballot.round)) (fi vt from' m.ballot m.had m.change).1)] (dG (λ_ H=>H=[cU V r (iM V.toDk (lh (dC s (max s.round m.ballot.round)) (fi vt from' m.ballot m.had m.change).1) (fi vt from' m.ballot m.had m.change).1)]))):
    DT 109 #[(.pointer (some ⟨r,0,none⟩)),(.iface V.T V.ov),(.int .i64 (from')),(.agg (ints m.flat).toArray)] T0 [cU V r s] (dG (λ_ H=>H=[cU V r (eB V.toDk (λs_=>if m.kind=4 then oi V.toDk from' m s_ else kj V.toDk from' m s_) s from' m)])):=by
 refine BD 124 Tryz.func109 rfl rfl rfl λw0 F hF=>?_
 have hov:OkVt vt:=OkR.vote vt hv;refine sr λ_ J1=>XY (ints m.flat) λb7=>?_
 refine nx J1 (aa λ_ J2=>aa λ_ J3=>DC bl (BL 0) (dm 1 rfl rfl) ?_);refine FD 0 177 bi aO ?_;refine LR 1 Y3 (fc m rfl) ?_;refine PD 2 ?_;refine PD 3 ?_;refine FD 4 2 dx bj ?_;refine FD 5 2 eG aO ?_;refine ta 6 rfl (dD (v:=(.int .i64 (s.view.epoch))) rfl Y3 rfl rfl (λ_ h=>h.2.2.1) (λa_=>(cz (s.rep a_) 0 rfl (by decide) (aV _ rfl)))) ?_;refine PD 7 ?_;refine kg ?_ ?_<;>intro h15;refine DN (ad J3 (CY (aa λ_ J4=>sr λ_ J5=>FA 0 bi aO ?_)));refine LU 0 Y3 (fk m rfl) ?_;refine PS ?_;refine ap ?_ ?_<;>intro h18;refine PS ?_
 iterate 3 refine UT ?_
 refine PS ?_;refine nx J5 (CY (ac ?_))
 iterate 5 refine PS ?_
 refine FA 2 dx bj ?_;refine LZ 1 eG bj an s.view ?_ (hc:=by exact λ_=>dh _);refine tp (ku MsgT.zero (MsgT.mk 7 0 RowT.zero 0 0 BallotT.zero BallotT.zero ChangeT.zero s.view) [(0,[Value.int .i64 7]),(8,ints s.view.flat)] bi bD (g:=MsgT.sg)) ?_;refine CZ jL (j8 V r s from' (jt s.view) (λe=>absurd (hfe e) (by omega))) (SM [1]) λvR=>?_
 refine nx J4 (ah (ae (WK [0] (dZ rfl ?_))));exact MQ (by rw[eB,if_pos h15,if_pos (.inl h18)];rfl);refine PS ?_;refine FA 0 bi aO ?_;refine LU 0 Y3 (fk m rfl) ?_;refine PS ?_;refine ap ?_ ?_<;>intro h22;refine PS ?_;refine nx J5 (CY (ac ?_))
 iterate 5 refine PS ?_
 refine FA 2 dx bj ?_;refine LZ 1 eG bj an s.view ?_ (hc:=by exact λ_=>dh _);refine tp (ku MsgT.zero (MsgT.mk 7 0 RowT.zero 0 0 BallotT.zero BallotT.zero ChangeT.zero s.view) [(0,[Value.int .i64 7]),(8,ints s.view.flat)] bi bD (g:=MsgT.sg)) ?_;refine CZ jL (j8 V r s from' (jt s.view) (λe=>absurd (hfe e) (by omega))) (SM [1]) λvR=>?_
 refine nx J4 (ah (ae (WK [0] (dZ rfl ?_))));exact MQ (by rw[eB,if_pos h15,if_pos (.inr h22)];rfl);refine PS ?_;refine nx J5 (CN (qx J4 (ah (ae (WK [1] (dZ rfl ?_))))));exact MQ (by rw[eB,if_pos h15,if_neg (by omega)]);refine DN (ad J3 (CN (qx J2 (aa λ_ J6=>aa λ_ J7=>DC bl (BL 0) (dm 1 rfl rfl) ?_))));refine FD 0 177 bi aO ?_;refine LR 1 Y3 (fc m rfl) ?_;refine PD 2 ?_;refine PD 3 ?_;refine FD 4 2 dx bj ?_;refine FD 5 2 eG aO ?_;refine ta 6 rfl (dD (v:=(.int .i64 (s.view.epoch))) rfl Y3 rfl rfl (λ_ h=>h.2.2.1) (λa_=>(cz (s.rep a_) 0 rfl (by decide) (aV _ rfl)))) ?_;refine PD 7 ?_;refine kg ?_ ?_<;>intro h40;refine PD 8 ?_;refine NT 9 ?_;refine NT 10 ?_;refine NT 11 ?_;refine NT 12 ?_;refine NT 13 ?_;refine NT 14 ?_;refine NT 15 ?_;refine NT 16 ?_;refine NT 17 ?_;refine NT 18 ?_;refine PD 19 ?_;refine DN (ad J7 (CY (ah (ae (WK [1] (dZ rfl ?_))))));exact MQ (by rw[eB,if_neg h15,if_pos (.inl (by omega))]);refine PD 8 ?_;refine PD 9 ?_;refine PD 10 ?_;refine FD 11 2 dx bj ?_;refine tb 12 rfl (gO (vs:=ints s.view.flat) rfl eG rfl bj rfl (λ_ h=>h.2.2.1) (an s.view) (λa_=>(gH (s.rep a_) 0 rfl (by decide) (whole (an ((s.rep a_).view)))))) ?_;refine PD 13 ?_;refine PD 14 ?_;refine FD 15 0 dx aO ?_;refine tb 16 rfl (dD (v:=(.int .i64 (s.id))) rfl Y3 rfl rfl (λ_ h=>h.2.2.1) (λa_=>(cT _ rfl))) ?_;refine AL 17 ?_;refine CE qK (dU s.view s.id) ID ?_;refine bg ?_ ?_<;>intro h50;refine EN (PD 18 ?_);refine PD 19 ?_
 refine DN (ad J7 (CN (qx J6 (aa λ_ J8=>D1 0 bl ?_))));refine PD 0 ?_;refine PD 1 ?_;refine PD 2 ?_;refine FD 3 1066 dx aO ?_;refine FD 5 178 bi cJ ?_;refine FD 6 178 kV aO ?_;refine LX 7 Y3 (.int .i64 (m.ballot.round)) ?_ (hc:=by exact MsgT.pt_ballot m 0 rfl (by decide) (fE m.ballot rfl));refine AL 4 ?_;refine LG 1 Y3 (.int .i64 (s.round)) ?_ (hc:=by exact λa_=>(wH _ rfl));refine EN (ta 8 rfl (zr rfl rfl rfl) ?_);refine PD 9 ?_;refine FD 10 1066 dx aO ?_;refine AL 11 ?_;refine SK 1 aO (λ_=>di _) ?_ (hc:=by exact λa_=>(mM _ rfl _));refine EN (DN (ad J8 (sr λ_ J9=>FA 0 bi aO ?_)));refine LU 0 Y3 (fk m rfl) ?_;refine nx J9 (am (sr λ_ J10=>PS ?_));refine ap ?_ ?_<;>intro h67
 · exact absurd h67 (by omega)
 refine PS ?_;refine nx J10 (CN (sr λ_ J11=>PS ?_));refine ap ?_ ?_<;>intro h74
 · exact absurd h74 (by omega)
 refine PS ?_;refine nx J11 (CN (sr λ_ J12=>PS ?_));refine ap ?_ ?_<;>intro h81;refine Np (H':=λvb:Nat=>wT V r (dC s (max s.round m.ballot.round)) (.pointer (some ⟨vb,0,none⟩))::aj vb (VoteT.cells vt) 196::[aj b7 (ints m.flat) 134]) (λ_ q=>nX (s:=(dC s (max s.round m.ballot.round))) hv (aD [1] rfl q)) (λvb=>PS ?_);refine nx J12 (CY (aa λ_ J13=>D1 2 bl ?_));refine PD 0 ?_;refine PD 1 ?_;refine FD 2 1067 dx nO ?_;refine AL 3 ?_;refine LG 0 qb (.pointer (some ⟨vb,0,none⟩)) ?_ (hc:=by exact λa_=>(cg _ rfl));refine EN (ta 4 rfl (gk rfl qb rfl rfl) ?_);refine PD 5 ?_;refine PD 6 ?_;refine PD 7 ?_;refine FD 8 1067 dx nO ?_;refine PD 10 ?_;refine FD 11 178 bi cJ ?_;refine tb 12 rfl (aN (vs:=ints m.ballot.flat) rfl kV rfl cJ rfl (λ_ h=>h.2.1) (aq m.ballot) (jB m 0 rfl (by decide) (whole (aq m.ballot)))) ?_;refine FD 13 180 bi cJ ?_;refine tb 14 rfl (aN (vs:=ints m.had.flat) rfl kV rfl cJ rfl (λ_ h=>h.2.1) (aq m.had) (RV m 0 rfl (by decide) (whole (aq m.had)))) ?_;refine FD 15 182 bi fF ?_;refine tb 16 rfl (aN (vs:=ints m.change.flat) rfl mS rfl fF rfl (λ_ h=>h.2.1) (aJ m.change) (oe m 0 rfl (by decide) (whole (aJ m.change)))) ?_;refine AL 9 ?_;refine LG 0 qb (.pointer (some ⟨vb,0,none⟩)) ?_ (hc:=by exact λa_=>(cg _ rfl));refine EN (AL 17 ?_);refine CE Pt (E3 vb vt from' m.ballot m.had m.change (OkMg.ballot) hov.ballot) (SM [1]) ?_;refine bg ?_ ?_<;>intro h99;refine EN (PD 18 ?_)
 refine DN (ad J13 (CY (ac (ci (H':=cU V r (lh (dC s (max s.round m.ballot.round)) ((fi vt from' m.ballot m.had m.change).1))::[aj b7 (ints m.flat) 134]) (λ_ q=>o5 (aD [1,0] rfl q)) (P2 ?_)))));refine CZ Mh ((hp (by omega) h99)) ID λvR=>?_
 refine au (af (WK [0] (bC rfl ?_)))
 exact congrArg (λq=>[cU V r q]) (show _=eB V.toDk (λs_=>if m.kind=4 then oi V.toDk from' m s_ else kj V.toDk from' m s_) s from' m by
                              rw[eB,if_neg h15,if_neg (λh=>h.elim (λh=>absurd h (by omega)) (λh=>by rw[h50]at h;cases h)),if_pos (by omega),oi];simp only[show(dC s (max s.round m.ballot.round)).vote=some vt from hv]
                              rw[if_pos h99])
 refine EN (PD 18 ?_);refine DN (ad J13 (CN (aR (af (aE (H':=[cU V r (lh (dC s (max s.round m.ballot.round)) (fi vt from' m.ballot m.had m.change).1)]) (dN _) (λ_ q=>o5 (ak [1,0] rfl q)) (bC rfl ?_))))))
 exact congrArg (λq=>[cU V r q]) (show(lh (dC s (max s.round m.ballot.round)) (fi vt from' m.ballot m.had m.change).1)=eB V.toDk (λs_=>if m.kind=4 then oi V.toDk from' m s_ else kj V.toDk from' m s_) s from' m by
                              rw[eB,if_neg h15,if_neg (λh=>h.elim (λh=>absurd h (by omega)) (λh=>by rw[h50]at h;cases h)),if_pos (by omega),oi];simp only[show(dC s (max s.round m.ballot.round)).vote=some vt from hv]
                              rw[if_neg (by rw[h99];decide)])
 refine PS ?_;refine nx J12 (CN (sr λ_ J14=>PS ?_));refine ap ?_ ?_<;>intro h105;refine Np (H':=λvb:Nat=>wT V r (dC s (max s.round m.ballot.round)) (.pointer (some ⟨vb,0,none⟩))::aj vb (VoteT.cells vt) 196::[aj b7 (ints m.flat) 134]) (λ_ q=>nX (s:=(dC s (max s.round m.ballot.round))) hv (aD [1] rfl q)) (λvb=>PS ?_);refine nx J14 (CY (aa λ_ J15=>D1 2 bl ?_));refine PD 0 ?_;refine PD 1 ?_;refine FD 2 1067 dx nO ?_;refine AL 3 ?_;refine LG 0 qb (.pointer (some ⟨vb,0,none⟩)) ?_ (hc:=by exact λa_=>(cg _ rfl));refine EN (ta 4 rfl (gk rfl qb rfl rfl) ?_);refine PD 5 ?_;refine PD 6 ?_;refine PD 7 ?_;refine FD 8 1067 dx nO ?_;refine PD 10 ?_;refine FD 11 178 bi cJ ?_;refine tb 12 rfl (aN (vs:=ints m.ballot.flat) rfl kV rfl cJ rfl (λ_ h=>h.2.1) (aq m.ballot) (jB m 0 rfl (by decide) (whole (aq m.ballot)))) ?_;refine AL 9 ?_;refine LG 0 qb (.pointer (some ⟨vb,0,none⟩)) ?_ (hc:=by exact λa_=>(cg _ rfl));refine EN (AL 13 ?_);refine CE Pr (Fc vb vt from' m.ballot (OkMg.ballot) hov.ballot) (SM [1]) ?_;refine bg ?_ ?_<;>intro h119;refine EN (PD 14 ?_);refine DN (ad J15 (CY (ac (ci (H':=cU V r (lh (dC s (max s.round m.ballot.round)) ((ia vt from' m.ballot).1))::[aj b7 (ints m.flat) 134]) (λ_ q=>o5 (aD [1,0] rfl q)) (P2 ?_)))));refine CZ Pq (B3 V r (lh (dC s (max s.round m.ballot.round)) (ia vt from' m.ballot).1) (ia vt from' m.ballot).1 rfl) ID λvR=>?_
 refine au (af (WK [0] (bC rfl ?_)))
 exact congrArg (λq=>[cU V r q]) (show _=eB V.toDk (λs_=>if m.kind=4 then oi V.toDk from' m s_ else kj V.toDk from' m s_) s from' m by
                                rw[eB,if_neg h15,if_neg (λh=>h.elim (λh=>absurd h (by omega)) (λh=>by rw[h50]at h;cases h)),if_neg (by omega),kj];simp only[show(dC s (max s.round m.ballot.round)).vote=some vt from hv]
                                rw[if_pos h119,A6])
 refine EN (PD 14 ?_);refine DN (ad J15 (CN (aR (af (aE (H':=[cU V r (lh (dC s (max s.round m.ballot.round)) (ia vt from' m.ballot).1)]) (dN _) (λ_ q=>o5 (ak [1,0] rfl q)) (bC rfl ?_))))))
 exact congrArg (λq=>[cU V r q]) (show(lh (dC s (max s.round m.ballot.round)) (ia vt from' m.ballot).1)=eB V.toDk (λs_=>if m.kind=4 then oi V.toDk from' m s_ else kj V.toDk from' m s_) s from' m by
                                rw[eB,if_neg h15,if_neg (λh=>h.elim (λh=>absurd h (by omega)) (λh=>by rw[h50]at h;cases h)),if_neg (by omega),kj];simp only[show(dC s (max s.round m.ballot.round)).vote=some vt from hv]
                                rw[if_neg (by rw[h119];decide)])
 · exact absurd h105 (by omega)
 refine EN (PD 18 ?_);refine PD 19 ?_;refine DN (ad J7 (CY (ah (ae (WK [1] (dZ rfl ?_))))));exact MQ (by rw[eB,if_neg h15,if_pos (.inr h50)])
theorem sn{δ:Type}(V:Env δ)(r:Nat)(s:MS δ)(from':Int)(m:MsgT)[OkR V.toDk s][OkMg m](hfe:from'=s.id→m.epoch=s.view.epoch)(hk:m.kind=6):TK V r 60 s from' m (mU V.toDk s from' m):=pu (.inr (.inr (.inr hk))) (by
 cases hv:s.vote with
 |none=>exact lE V r s (kj V.toDk from' m) from' m hfe (λe=>by omega) (λe=>by omega) (λ_=>by rw[kj,show(dC s (max s.round m.ballot.round)).vote=none from hv]) (λ_=>hv)
 |some vt=>
  have h:=qy V r s vt from' m hfe (.inr hk) hv (λe=>by omega)
  rwa [show(λs_:MS δ=>if m.kind=4 then oi V.toDk from' m s_ else kj V.toDk from' m s_)=kj V.toDk from' m from funext λ_=>if_neg (by omega)]at h)
theorem yS{δ:Type}(V:Env δ)(r:Nat)(s:MS δ)(from':Int)(m:MsgT)[OkR V.toDk s][OkMg m](hep:m.epoch=s.view.epoch):
 DT 152 #[(.pointer (some ⟨r,0,none⟩)),(.iface V.T V.ov),(.int .i64 (from')),(.agg (ints m.flat).toArray)] T0 [cU V r s] (dG (λ_ H=>H=[cU V r (mx V.toDk from' m s)])):=by
 refine BD 69 Tryz.func152 rfl rfl rfl λw0 F hF=>sr λ_ J1=>XY (ints m.flat) λb7=>?_
 refine nx J1 (aa λ_ J2=>aa λ_ J3=>fA (α:=Unit) (λ_u=>True) (λ_u=>[(0,(.pointer (some ⟨r,0,none⟩))),(1,(.iface V.T V.ov)),(2,(.int .i64 (from'))),(7,(.pointer (some ⟨b7,0,none⟩))),(9,(.int .i64 ((dM s.view m.change).2)))]) (λ_u=>[cU V r s,aj b7 (ints m.flat) 134]) (λ_u hinv=>?_) (λtl3=>?_));have _:=hinv;refine ad J3 (sr λ_ J4=>P2 ?_);refine ap ?_ ?_<;>intro h23;refine nx J4 (CY (ah (ae (WK [0] (dZ rfl ?_)))));exact MQ (by rw[mx,if_pos h23]);refine nx J4 (CN (qx J2 (aa λ_ J5=>fA (α:=(Nat)) (λb10=>True) (λb10=>[(0,(.pointer (some ⟨r,0,none⟩))),(1,(.iface V.T V.ov)),(2,(.int .i64 (from'))),(7,(.pointer (some ⟨b7,0,none⟩))),(10,(.pointer (some ⟨b10,0,none⟩))),(11,(.bool ((ib s.acc m.epoch m.ballot m.change).2)))]) (λb10=>[cU V r s,aj b7 (ints m.flat) 134,aj b10 (ints ((ib s.acc m.epoch m.ballot m.change).1).flat) 92]) (λb10 hinv=>?_) (λtl5=>?_))));have _:=hinv;refine ad J5 (aa λ_ J6=>sr λ_ J7=>PS ?_);refine bg ?_ ?_<;>intro h38;refine PS ?_;refine nx J7 (CN (qx J6 (aa λ_ J8=>aa λ_ J9=>DC bl (BL 2) (dm 0 rfl rfl) ?_)));refine LY 0 qi gp be ?_;refine PD 1 ?_;refine PD 2 ?_;refine FD 3 1058 dx gp ?_;refine ta 4 rfl (gO (vs:=ints s.acc.flat) rfl qi rfl gp rfl (λ_ h=>h.2.2.1) (be s.acc) (λa_=>(zn (s.rep a_) 0 rfl (by decide) (whole (be ((s.rep a_).acc)))))) ?_
 refine ta 5 rfl (MR (a:=((ib s.acc m.epoch m.ballot m.change).1).flat) (b:=s.acc.flat) (m:=6) (c:=8) QE QA rfl Ri (fq (be ((ib s.acc m.epoch m.ballot m.change).1))) (fq (be s.acc)) ⟨jq PQ PY (fq (be ((ib s.acc m.epoch m.ballot m.change).1))),jq PQ PY (fq (be s.acc))⟩ (OkAc.wf) (OkAc.wf) rfl rfl rfl) ?_;refine kg ?_ ?_<;>intro h45;refine DN (ad J9 (CY (aa λ_ J10=>sr λ_ J11=>PS ?_)));refine FA 177 bi aO ?_;refine LU 1 Y3 (fc m rfl) ?_;refine FA 178 bi cJ ?_;refine LV 1 kV cJ aq pi (y:=m.ballot) ?_;refine FA 182 bi fF ?_;refine LV 1 mS fF aJ MsgT.sp_change (y:=m.change) ?_;refine tp (ku RecT.zero (RecT.mk 4 0 RowT.zero m.epoch m.ballot m.change ViewT.zero) [(0,[Value.int .i64 4]),(3,[Value.int .i64 m.epoch]),(4,ints m.ballot.flat),(5,ints m.change.flat)] eH fB (g:=RecT.sg)) ?_;refine CE FC (l5 V r s (ng m.epoch m.ballot m.change)) ID ?_;refine PS ?_;refine ap ?_ ?_<;>intro h55;refine nx J11 (CY (ah (ae (ae (WK [0] (dZ rfl ?_))))));exact MQ (by rw[mx,if_neg h23,if_neg (by rw[h38];decide),if_pos h45,if_pos h55]);refine nx J11 (CN (qx J10 (ac (PS ?_))));refine LW 2 qi gp be ?_;refine PS ?_;refine FA 1058 dx gp ?_
 refine iB (vs:=ints ((ib s.acc m.epoch m.ballot m.change).1).flat) (i:=0) (ab rfl) rfl rfl rfl rfl rfl (by rw[(be ((ib s.acc m.epoch m.ballot m.change).1))];exact gp) (bv _) rfl rfl (λ_=>LC (di _) (be _)) (λa_=>(lu ((dR V.toDk s (ng m.epoch m.ballot m.change)).rep a_) 0 rfl (by have h1:=(be ((ib s.acc m.epoch m.ballot m.change).1));omega) (cy ((be (((dR V.toDk s (ng m.epoch m.ballot m.change)).rep a_).acc)).trans (be ((ib s.acc m.epoch m.ballot m.change).1)).symm)))) (nx J8 (ac (P3 ?_)));refine FA 177 bi aO ?_;refine LU 1 Y3 (fc m rfl) ?_;refine FA 178 bi cJ ?_;refine LV 1 kV cJ aq pi (y:=m.ballot) ?_;refine tp (ku MsgT.zero (MsgT.mk 6 0 RowT.zero 0 m.epoch m.ballot BallotT.zero ChangeT.zero ViewT.zero) [(0,[Value.int .i64 6]),(4,[Value.int .i64 m.epoch]),(5,ints m.ballot.flat)] bi bD (g:=MsgT.sg)) ?_;refine CZ jL (gW V r (ux (dR V.toDk s (ng m.epoch m.ballot m.change)) (ib s.acc m.epoch m.ballot m.change).1) from' (ji m.epoch m.ballot) (λs_=>mU V.toDk s_ s_.id (ji m.epoch m.ballot)) (λ_=>sn V r (ux (dR V.toDk s (ng m.epoch m.ballot m.change)) (ib s.acc m.epoch m.ballot m.change).1) (ux (dR V.toDk s (ng m.epoch m.ballot m.change)) (ib s.acc m.epoch m.ballot m.change).1).id (ji m.epoch m.ballot) (λ_=>hep) rfl)) ID λvR=>?_
 refine au (WK [0] (bC rfl ?_));exact MQ (by rw[mx,if_neg h23,if_neg (by rw[h38];decide),if_pos h45,if_neg h55];rfl);refine DN (ad J9 (CN (qx J8 (ac (P3 ?_)))));refine FA 177 bi aO ?_;refine LU 1 Y3 (fc m rfl) ?_;refine FA 178 bi cJ ?_;refine LV 1 kV cJ aq pi (y:=m.ballot) ?_;refine tp (ku MsgT.zero (MsgT.mk 6 0 RowT.zero 0 m.epoch m.ballot BallotT.zero ChangeT.zero ViewT.zero) [(0,[Value.int .i64 6]),(4,[Value.int .i64 m.epoch]),(5,ints m.ballot.flat)] bi bD (g:=MsgT.sg)) ?_;refine CZ jL (gW V r s from' (ji m.epoch m.ballot) (λs_=>mU V.toDk s_ s_.id (ji m.epoch m.ballot)) (λ_=>sn V r s s.id (ji m.epoch m.ballot) (λ_=>hep) rfl)) ID λvR=>?_
 refine au (WK [0] (bC rfl ?_));exact MQ (by rw[mx,if_neg h23,if_neg (by rw[h38];decide),if_neg h45];rfl);refine PS ?_;refine nx J7 (CY (ah (ae (WK [0] (dZ rfl ?_)))));exact MQ (by rw[mx,if_neg h23,if_pos h38]);refine DC bl (dm 0 rfl rfl) (BL 1) ?_;refine PD 0 ?_;refine PD 1 ?_;refine FD 2 1058 dx gp ?_;refine ta 3 rfl (gO (vs:=ints s.acc.flat) rfl qi rfl gp rfl (λ_ h=>h.2.1) (be s.acc) (λa_=>(zn (s.rep a_) 0 rfl (by decide) (whole (be ((s.rep a_).acc)))))) ?_;refine FD 4 177 bi aO ?_;refine LR 5 Y3 (fc m rfl) ?_;refine FD 6 178 bi cJ ?_;refine ta 7 rfl (aN (vs:=ints m.ballot.flat) rfl kV rfl cJ rfl (λ_ h=>h.2.2.1) (aq m.ballot) (jB m 0 rfl (by decide) (whole (aq m.ballot)))) ?_;refine FD 8 182 bi fF ?_;refine ta 9 rfl (aN (vs:=ints m.change.flat) rfl mS rfl fF rfl (λ_ h=>h.2.2.1) (aJ m.change) (oe m 0 rfl (by decide) (whole (aJ m.change)))) ?_;refine db [10,14] (by kernel_rfl) rfl (aF rfl ?_ ?_);refine CE MZ (wm s.acc m.epoch m.ballot m.change) ID ?_;refine EN (PD 11 ?_);refine PD 12 ?_;refine PD 13 ?_;refine sQ ?_ ?_<;>intro h37;refine AL 14 ?_;refine XZ I7 (ints AccT.zero.flat) λb10=>?_
 refine EN (AL 15 ?_);refine SW 0 gp be ?_;refine EN (PD 16 ?_);refine DN ?_
 exact aE
  (aX (aX (aX (aX (aX (bM rfl (by rw[h37]) SB))))))
  (λ_ s=>ak [1,1,0] rfl s)
  (tl5 ((b10):(Nat)) trivial)
 refine AL 14 ?_;refine XZ I7 (ints AccT.zero.flat) λb10=>?_
 refine EN (AL 15 ?_);refine SW 0 gp be ?_;refine EN (PD 16 ?_);refine DN ?_
 exact aE
  (aX (aX (aX (aX (aX (bM rfl (by rw[h37]) SB))))))
  (λ_ s=>ak [1,1,0] rfl s)
  (tl5 ((b10):(Nat)) trivial)
 refine aF rfl ?_ ?_;refine XZ I7 (ints AccT.zero.flat) λb10=>?_
 refine EN (AL 10 ?_);refine CE MZ (wm s.acc m.epoch m.ballot m.change) ID ?_;refine EN (PD 11 ?_);refine PD 12 ?_;refine PD 13 ?_;refine sQ ?_ ?_<;>intro h37;refine AL 15 ?_;refine SW 0 gp be ?_;refine EN (PD 16 ?_);refine DN ?_
 exact aE
  (aX (aX (aX (aX (aX (bM rfl (by rw[h37]) SB))))))
  (λ_ s=>ak [1,1,0] rfl s)
  (tl5 ((b10):(Nat)) trivial)
 refine AL 15 ?_;refine SW 0 gp be ?_;refine EN (PD 16 ?_);refine DN ?_
 exact aE
  (aX (aX (aX (aX (aX (bM rfl (by rw[h37]) SB))))))
  (λ_ s=>ak [1,1,0] rfl s)
  (tl5 ((b10):(Nat)) trivial)
 exact bP;refine DC bl (dm 1 rfl rfl) (BL 0) ?_;refine PD 0 ?_;refine PD 1 ?_;refine FD 2 2 dx bj ?_;refine ta 3 rfl (gO (vs:=ints s.view.flat) rfl eG rfl bj rfl (λ_ h=>h.2.1) (an s.view) (λa_=>(gH (s.rep a_) 0 rfl (by decide) (whole (an ((s.rep a_).view)))))) ?_;refine FD 4 182 bi fF ?_;refine ta 5 rfl (aN (vs:=ints m.change.flat) rfl mS rfl fF rfl (λ_ h=>h.2.2.1) (aJ m.change) (oe m 0 rfl (by decide) (whole (aJ m.change)))) ?_;refine db [6,10] (by kernel_rfl) rfl (aF rfl ?_ ?_);refine CE nV (dL s.view m.change OkVw.rng) ID ?_;refine EN (PD 7 ?_);refine PD 8 ?_;refine PD 9 ?_;refine AL 10 ?_;refine XZ sV (ints ViewT.zero.flat) λb8=>?_
 refine EN (AL 11 ?_);refine SW 0 bj an ?_;refine EN (PD 12 ?_);refine DN ?_
 exact aE
  SB
  (λ_ s=>ak [2,1] rfl s)
  (tl3 (():Unit) trivial)
 refine aF rfl ?_ ?_;refine XZ sV (ints ViewT.zero.flat) λb8=>?_
 refine EN (AL 6 ?_);refine CE nV (dL s.view m.change OkVw.rng) ID ?_;refine EN (PD 7 ?_);refine PD 8 ?_;refine PD 9 ?_;refine AL 11 ?_;refine SW 0 bj an ?_;refine EN (PD 12 ?_);refine DN ?_
 exact aE
  SB
  (λ_ s=>ak [2,1] rfl s)
  (tl3 (():Unit) trivial)
 exact bP
theorem xe{δ:Type}(V:Env δ)(r:Nat)(s:MS δ)(from':Int)(m:MsgT)[OkR V.toDk s][OkMg m](hfe:from'=s.id→m.epoch=s.view.epoch)(hk:m.kind=5):TK V r 60 s from' m (nM V.toDk s from' m):=pu (by omega) (lE V r s (mx V.toDk from' m) from' m hfe (λe _=>by omega) (λ_ hep=>yS V r (dC s (max s.round m.ballot.round)) from' m hep) (λe=>by omega) (λe=>by omega))
theorem yY{δ:Type}(V:Env δ)(r vb:Nat)(s:MS δ)(vt:VoteT)(hv:s.vote=some vt)(hpt:vt.putting=true)[OkR V.toDk s][OkVt vt]:
 DT 70 #[(.pointer (some ⟨r,0,none⟩)),(.iface V.T V.ov)] T0 [wT V r s (.pointer (some ⟨vb,0,none⟩)),aj vb (VoteT.cells vt) 196] (dG (λ_ H=>H=[cU V r (iM V.toDk s vt)])):=by
 refine BD 68 Tryz.func70 rfl rfl rfl λw0 F hF=>aa λ_ J1=>fA (α:=(Nat)) (λb4=>True) (λb4=>[(0,(.pointer (some ⟨r,0,none⟩))),(1,(.iface V.T V.ov)),(4,(.pointer (some ⟨b4,0,none⟩)))]) (λb4=>[wT V r s (.pointer (some ⟨vb,0,none⟩)),aj vb (VoteT.cells vt) 196,aj b4 (ints (fK s.view.epoch vt.ballot).flat) 134]) (λb4 hinv=>?_) (λtl1=>?_)
 have _:=hinv;refine ad J1 (aa λ_ J2=>sr λ_ J3=>P2 ?_);refine FA 1067 dx nO ?_;refine LG 0 qb (.pointer (some ⟨vb,0,none⟩)) ?_ (hc:=by exact λa_=>(cg _ rfl));refine CE Nb (oT vb vt) (SM [1]) ?_;refine bg ?_ ?_<;>intro h22;refine nx J3 (CY (ac (P2 ?_)));refine FA 1067 dx nO ?_;refine LG 1 qb (.pointer (some ⟨vb,0,none⟩)) ?_ (hc:=by exact λa_=>(cg _ rfl));refine CE u6 (dy vb vt) ID ?_;refine FA 0 bi aO ?_;refine SS 2 aO (aH _) (MsgT.set_kind _ rfl _) ?_;refine FA 182 bi fF ?_;refine SP 2 fF aJ aH Qa ?_;refine nx J2 (sr λ_ J4=>ci (H':=cU V r s::[aj b4 (ints (MsgT.mk 5 ((fK s.view.epoch vt.ballot).whose) ((fK s.view.epoch vt.ballot).row) ((fK s.view.epoch vt.ballot).version) ((fK s.view.epoch vt.ballot).epoch) ((fK s.view.epoch vt.ballot).ballot) ((fK s.view.epoch vt.ballot).had) vt.change ((fK s.view.epoch vt.ballot).view)).flat) 134]) (λ_ q=>o6 hv (aD [1,0] rfl q)) (P2 ?_));refine FA 2 dx bj ?_;refine LZ 0 eG bj an s.view ?_ (hc:=by exact λ_=>dh _);refine XZ sV (ints ViewT.zero.flat) λb5=>?_
 refine SW 0 bj an ?_;refine nx J4 (aa λ_ J5=>sr λ_ J6=>PS ?_);refine nx J6 (am ?_)
 refine bG (α:=(Nat)) (λk=>k≤5) (λk=>[(0,(.pointer (some ⟨r,0,none⟩))),(1,(.iface V.T V.ov)),(4,(.pointer (some ⟨b4,0,none⟩))),(5,(.pointer (some ⟨b5,0,none⟩))),(34,(.int .i64 (((k:Nat):Int))))]) (λk=>[aj b5 (ints s.view.flat) 85,aj b4 (ints (iW s.view.epoch vt.ballot vt.change).flat) 134,cU V r (iL V.toDk s (nT s.id (iW s.view.epoch vt.ballot vt.change) (λi=>js s.view ((i:Nat):Int)) k))]) (λk=>5-k) 0
  (aP _) SB
  (λ_ q=>by
  rw[show nT s.id (iW s.view.epoch vt.ballot vt.change) (λi=>js s.view ((i:Nat):Int)) 0=[]from rfl,qD]
  exact ak [0,1,0] rfl q) (λk hinv=>?_)
 obtain hk:=hinv;refine sr λ_ J7=>PS ?_
 refine ap ?_ ?_<;>intro h35;refine nx J7 (aa λ_ J8=>CY (qx J8 (aa λ_ J9=>am (sr λ_ J10=>P2 ?_))));refine nx J10 (sr λ_ J11=>P3 ?_);refine FA 0 dx aO ?_;refine LG 2 Y3 (.int .i64 (s.id)) ?_ (hc:=by exact λa_=>(cT _ rfl));refine PS ?_;refine ap ?_ ?_<;>intro h42;refine PS ?_;refine LW 0 eG bj an ?_;refine PS ?_;refine CE qK (dU s.view ((k:Nat):Int)) ID ?_;refine bg ?_ ?_<;>intro h46;refine PS ?_;refine nx J11 (CY (ac (P3 ?_)));refine LW 1 bi ct aH ?_;refine CZ jL (oX V r s (nT s.id (iW s.view.epoch vt.ballot vt.change) (λi=>js s.view ((i:Nat):Int)) k) ((k:Nat):Int) (iW s.view.epoch vt.ballot vt.change) h42) (SM [2]) λvR=>?_
 refine au (af (ad J9 (ac (AD ?_))));refine PS ?_;refine au ?_
 exact aL ((k+1):(Nat)) (by omega) (by show 5- (k+1)<5-k;omega)
  SB
  (λ_ q=>by
   rw[jp,if_pos ⟨h42,h46⟩]
   exact ak [1,1,0] rfl q)
 refine PS ?_;refine nx J11 (CN (aR (af (ad J9 (ac (AD ?_))))));refine PS ?_;refine au ?_
 exact aL ((k+1):(Nat)) (by omega) (by show 5- (k+1)<5-k;omega)
  SB
  (λ_ q=>by
   rw[jp,if_neg (λh=>by have:=h.2;rw[h46]at this;cases this)];rw[aY]
   exact ak [0,0,0] rfl q)
 refine PS ?_
 iterate 3 refine UF ?_
 refine PS ?_;refine nx J11 (CN (aR (af (ad J9 (ac (AD ?_))))));refine PS ?_;refine au ?_
 exact aL ((k+1):(Nat)) (by omega) (by show 5- (k+1)<5-k;omega)
  SB
  (λ_ q=>by
   rw[jp,if_neg (λh=>h42 h.1)];rw[aY]
   exact ak [0,0,0] rfl q)
 obtain rfl:k=5:=by omega
 refine nx J7 (aa λ_ J12=>CN (aW (aA (aA (bq (ad J5 (aa λ_ J13=>DC bl (BL 0) (dm 2 rfl rfl) ?_)))))));refine LY 0 eG bj an ?_;refine PD 1 ?_;refine PD 2 ?_;refine FD 3 0 dx aO ?_;refine ta 4 rfl (dD (v:=(.int .i64 ((iY V.toDk s (iW s.view.epoch vt.ballot vt.change)).id))) rfl Y3 rfl rfl (λ_ h=>h.2.2.1) (λa_=>(cT _ rfl))) ?_;refine AL 5 ?_;refine CE qK (dU s.view ((iY V.toDk s (iW s.view.epoch vt.ballot vt.change)).id)) ID ?_;refine bg ?_ ?_<;>intro h59;refine EN (DN (ad J13 (CY (D1 1 bl ?_))));refine PD 0 ?_;refine PD 1 ?_;refine PD 2 ?_;refine PD 3 ?_;refine FD 4 0 dx aO ?_;refine LY 6 bi ct aH ?_;refine AL 5 ?_;refine LG 2 Y3 (.int .i64 ((iY V.toDk s (iW s.view.epoch vt.ballot vt.change)).id)) ?_ (hc:=by exact λa_=>(cT _ rfl));refine EN (AL 7 ?_);refine CZ jL (gW V r (iY V.toDk s (iW s.view.epoch vt.ballot vt.change)) s.id (iW s.view.epoch vt.ballot vt.change) (λs_=>nM V.toDk s_ s_.id (iW s.view.epoch vt.ballot vt.change)) (λ_=>xe V r (iY V.toDk s (iW s.view.epoch vt.ballot vt.change)) s.id (iW s.view.epoch vt.ballot vt.change) (λ_=>rfl) rfl)) (SM [2]) λvR=>?_
 refine EN (DN (WK [0] (bC rfl ?_)));exact MQ (by rw[iM,gY,if_pos (show js s.view s.id=true from h59),kB,if_pos (show s.id=(iY V.toDk s (iW s.view.epoch vt.ballot vt.change)).id from rfl)]<;>rfl);refine EN (DN (ad J13 (CN (aR (WK [2] (bC rfl ?_))))));exact MQ (by rw[iM,gY,if_neg (by rw[show js s.view s.id=false from h59];decide)]<;>rfl)
 · rw[hpt]at h22;cases h22
 refine D1 1 bl ?_;refine PD 0 ?_;refine PD 1 ?_;refine FD 2 2 dx bj ?_;refine FD 3 2 eG aO ?_;refine PD 5 ?_;refine PD 6 ?_;refine FD 7 1067 dx nO ?_;refine db [4,8,11] (by kernel_rfl) rfl (aF rfl ?_ ?_);refine LG 0 Y3 (.int .i64 (s.view.epoch)) ?_ (hc:=by exact λa_=>(cz (s.rep ⟨(a_:Nat×Value).1,(.pointer (some ⟨vb,0,none⟩)),a_.2⟩) 0 rfl (by decide) (aV _ rfl)));refine EN (db [8,11] (by kernel_rfl) rfl (aF rfl ?_ ?_));refine LG 0 qb (.pointer (some ⟨vb,0,none⟩)) ?_ (hc:=by exact λa_=>(cg _ rfl));refine EN (db [9,11] (by kernel_rfl) rfl (aF rfl ?_ ?_));refine CE ko (bQ vb vt) (SM [1]) ?_;refine EN (ta 10 rfl (ku MsgT.zero (MsgT.mk 3 0 RowT.zero 0 s.view.epoch vt.ballot BallotT.zero ChangeT.zero ViewT.zero) [(0,[Value.int .i64 3]),(4,[Value.int .i64 s.view.epoch]),(5,ints vt.ballot.flat)] bi bD (g:=MsgT.sg)) ?_);refine AL 11 ?_;refine XZ nf (ints MsgT.zero.flat) λb4=>?_
 refine EN (AL 12 ?_);refine SW 0 ct aH ?_;refine EN (DN ?_)
 exact aE
  SB
  (λ_ s=>ak [2,1,0] rfl s)
  (tl1 ((b4):(Nat)) trivial)
 refine aF rfl ?_ ?_;refine XZ nf (ints MsgT.zero.flat) λb4=>?_
 refine EN (AL 9 ?_);refine CE ko (bQ vb vt) (SM [2]) ?_;refine EN (ta 10 rfl (ku MsgT.zero (MsgT.mk 3 0 RowT.zero 0 s.view.epoch vt.ballot BallotT.zero ChangeT.zero ViewT.zero) [(0,[Value.int .i64 3]),(4,[Value.int .i64 s.view.epoch]),(5,ints vt.ballot.flat)] bi bD (g:=MsgT.sg)) ?_);refine AL 12 ?_;refine SW 1 ct aH ?_;refine EN (DN ?_)
 exact aE
  SB
  (λ_ s=>ak [2,0,0] rfl s)
  (tl1 ((b4):(Nat)) trivial)
 exact bP;refine aF rfl ?_ ?_;refine XZ nf (ints MsgT.zero.flat) λb4=>?_
 refine EN (AL 8 ?_);refine LG 1 qb (.pointer (some ⟨vb,0,none⟩)) ?_ (hc:=by exact λa_=>(cg _ rfl));refine EN (AL 9 ?_);refine CE ko (bQ vb vt) (SM [2]) ?_;refine EN (ta 10 rfl (ku MsgT.zero (MsgT.mk 3 0 RowT.zero 0 s.view.epoch vt.ballot BallotT.zero ChangeT.zero ViewT.zero) [(0,[Value.int .i64 3]),(4,[Value.int .i64 s.view.epoch]),(5,ints vt.ballot.flat)] bi bD (g:=MsgT.sg)) ?_);refine AL 12 ?_;refine SW 1 ct aH ?_;refine EN (DN ?_)
 exact aE
  SB
  (λ_ s=>ak [2,0,0] rfl s)
  (tl1 ((b4):(Nat)) trivial)
 exact bP;refine aF rfl ?_ ?_;refine LG 0 qb (.pointer (some ⟨vb,0,none⟩)) ?_ (hc:=by exact λa_=>(cg _ rfl));refine EN (db [4,9,11] (by kernel_rfl) rfl (aF rfl ?_ ?_));refine LG 0 Y3 (.int .i64 (s.view.epoch)) ?_ (hc:=by exact λa_=>(cz (s.rep ⟨(a_:Nat×Value).1,(.pointer (some ⟨vb,0,none⟩)),a_.2⟩) 0 rfl (by decide) (aV _ rfl)));refine EN (db [9,11] (by kernel_rfl) rfl (aF rfl ?_ ?_));refine CE ko (bQ vb vt) (SM [1]) ?_;refine EN (ta 10 rfl (ku MsgT.zero (MsgT.mk 3 0 RowT.zero 0 s.view.epoch vt.ballot BallotT.zero ChangeT.zero ViewT.zero) [(0,[Value.int .i64 3]),(4,[Value.int .i64 s.view.epoch]),(5,ints vt.ballot.flat)] bi bD (g:=MsgT.sg)) ?_);refine AL 11 ?_;refine XZ nf (ints MsgT.zero.flat) λb4=>?_
 refine EN (AL 12 ?_);refine SW 0 ct aH ?_;refine EN (DN ?_)
 exact aE
  SB
  (λ_ s=>ak [2,1,0] rfl s)
  (tl1 ((b4):(Nat)) trivial)
 refine aF rfl ?_ ?_;refine XZ nf (ints MsgT.zero.flat) λb4=>?_
 refine EN (AL 9 ?_);refine CE ko (bQ vb vt) (SM [2]) ?_;refine EN (ta 10 rfl (ku MsgT.zero (MsgT.mk 3 0 RowT.zero 0 s.view.epoch vt.ballot BallotT.zero ChangeT.zero ViewT.zero) [(0,[Value.int .i64 3]),(4,[Value.int .i64 s.view.epoch]),(5,ints vt.ballot.flat)] bi bD (g:=MsgT.sg)) ?_);refine AL 12 ?_;refine SW 1 ct aH ?_;refine EN (DN ?_)
 exact aE
  SB
  (λ_ s=>ak [2,0,0] rfl s)
  (tl1 ((b4):(Nat)) trivial)
 exact bP;refine aF rfl ?_ ?_;refine CE ko (bQ vb vt) (SM [1]) ?_;refine EN (db [4,11] (by kernel_rfl) rfl (aF rfl ?_ ?_));refine LG 1 Y3 (.int .i64 (s.view.epoch)) ?_ (hc:=by exact λa_=>(cz (s.rep ⟨(a_:Nat×Value).1,(.pointer (some ⟨vb,0,none⟩)),a_.2⟩) 0 rfl (by decide) (aV _ rfl)));refine EN (ta 10 rfl (ku MsgT.zero (MsgT.mk 3 0 RowT.zero 0 s.view.epoch vt.ballot BallotT.zero ChangeT.zero ViewT.zero) [(0,[Value.int .i64 3]),(4,[Value.int .i64 s.view.epoch]),(5,ints vt.ballot.flat)] bi bD (g:=MsgT.sg)) ?_);refine AL 11 ?_;refine XZ nf (ints MsgT.zero.flat) λb4=>?_
 refine EN (AL 12 ?_);refine SW 0 ct aH ?_;refine EN (DN ?_)
 exact aE
  SB
  (λ_ s=>ak [2,1,0] rfl s)
  (tl1 ((b4):(Nat)) trivial)
 refine aF rfl ?_ ?_;refine XZ nf (ints MsgT.zero.flat) λb4=>?_
 refine EN (AL 4 ?_);refine LG 2 Y3 (.int .i64 (s.view.epoch)) ?_ (hc:=by exact λa_=>(cz (s.rep ⟨(a_:Nat×Value).1,(.pointer (some ⟨vb,0,none⟩)),a_.2⟩) 0 rfl (by decide) (aV _ rfl)));refine EN (ta 10 rfl (ku MsgT.zero (MsgT.mk 3 0 RowT.zero 0 s.view.epoch vt.ballot BallotT.zero ChangeT.zero ViewT.zero) [(0,[Value.int .i64 3]),(4,[Value.int .i64 s.view.epoch]),(5,ints vt.ballot.flat)] bi bD (g:=MsgT.sg)) ?_);refine AL 12 ?_;refine SW 0 ct aH ?_;refine EN (DN ?_)
 exact aE
  SB
  (λ_ s=>ak [2,1,0] rfl s)
  (tl1 ((b4):(Nat)) trivial)
 exact bP;refine aF rfl ?_ ?_;refine XZ nf (ints MsgT.zero.flat) λb4=>?_
 refine EN (db [4,9] (by kernel_rfl) rfl (aF rfl ?_ ?_));refine LG 1 Y3 (.int .i64 (s.view.epoch)) ?_ (hc:=by exact λa_=>(cz (s.rep ⟨(a_:Nat×Value).1,(.pointer (some ⟨vb,0,none⟩)),a_.2⟩) 0 rfl (by decide) (aV _ rfl)));refine EN (AL 9 ?_);refine CE ko (bQ vb vt) (SM [2]) ?_;refine EN (ta 10 rfl (ku MsgT.zero (MsgT.mk 3 0 RowT.zero 0 s.view.epoch vt.ballot BallotT.zero ChangeT.zero ViewT.zero) [(0,[Value.int .i64 3]),(4,[Value.int .i64 s.view.epoch]),(5,ints vt.ballot.flat)] bi bD (g:=MsgT.sg)) ?_);refine AL 12 ?_;refine SW 1 ct aH ?_;refine EN (DN ?_)
 exact aE
  SB
  (λ_ s=>ak [2,0,0] rfl s)
  (tl1 ((b4):(Nat)) trivial)
 refine aF rfl ?_ ?_;refine CE ko (bQ vb vt) (SM [2]) ?_;refine EN (AL 4 ?_);refine LG 2 Y3 (.int .i64 (s.view.epoch)) ?_ (hc:=by exact λa_=>(cz (s.rep ⟨(a_:Nat×Value).1,(.pointer (some ⟨vb,0,none⟩)),a_.2⟩) 0 rfl (by decide) (aV _ rfl)));refine EN (ta 10 rfl (ku MsgT.zero (MsgT.mk 3 0 RowT.zero 0 s.view.epoch vt.ballot BallotT.zero ChangeT.zero ViewT.zero) [(0,[Value.int .i64 3]),(4,[Value.int .i64 s.view.epoch]),(5,ints vt.ballot.flat)] bi bD (g:=MsgT.sg)) ?_);refine AL 12 ?_;refine SW 1 ct aH ?_;refine EN (DN ?_)
 exact aE
  SB
  (λ_ s=>ak [2,0,0] rfl s)
  (tl1 ((b4):(Nat)) trivial)
 exact bP;exact bP;refine aF rfl ?_ ?_;refine XZ nf (ints MsgT.zero.flat) λb4=>?_
 refine EN (db [4,8] (by kernel_rfl) rfl (aF rfl ?_ ?_));refine LG 1 Y3 (.int .i64 (s.view.epoch)) ?_ (hc:=by exact λa_=>(cz (s.rep ⟨(a_:Nat×Value).1,(.pointer (some ⟨vb,0,none⟩)),a_.2⟩) 0 rfl (by decide) (aV _ rfl)));refine EN (AL 8 ?_);refine LG 1 qb (.pointer (some ⟨vb,0,none⟩)) ?_ (hc:=by exact λa_=>(cg _ rfl));refine EN (AL 9 ?_);refine CE ko (bQ vb vt) (SM [2]) ?_;refine EN (ta 10 rfl (ku MsgT.zero (MsgT.mk 3 0 RowT.zero 0 s.view.epoch vt.ballot BallotT.zero ChangeT.zero ViewT.zero) [(0,[Value.int .i64 3]),(4,[Value.int .i64 s.view.epoch]),(5,ints vt.ballot.flat)] bi bD (g:=MsgT.sg)) ?_);refine AL 12 ?_;refine SW 1 ct aH ?_;refine EN (DN ?_)
 exact aE
  SB
  (λ_ s=>ak [2,0,0] rfl s)
  (tl1 ((b4):(Nat)) trivial)
 refine aF rfl ?_ ?_;refine LG 1 qb (.pointer (some ⟨vb,0,none⟩)) ?_ (hc:=by exact λa_=>(cg _ rfl));refine EN (db [4,9] (by kernel_rfl) rfl (aF rfl ?_ ?_));refine LG 1 Y3 (.int .i64 (s.view.epoch)) ?_ (hc:=by exact λa_=>(cz (s.rep ⟨(a_:Nat×Value).1,(.pointer (some ⟨vb,0,none⟩)),a_.2⟩) 0 rfl (by decide) (aV _ rfl)));refine EN (AL 9 ?_);refine CE ko (bQ vb vt) (SM [2]) ?_;refine EN (ta 10 rfl (ku MsgT.zero (MsgT.mk 3 0 RowT.zero 0 s.view.epoch vt.ballot BallotT.zero ChangeT.zero ViewT.zero) [(0,[Value.int .i64 3]),(4,[Value.int .i64 s.view.epoch]),(5,ints vt.ballot.flat)] bi bD (g:=MsgT.sg)) ?_);refine AL 12 ?_;refine SW 1 ct aH ?_;refine EN (DN ?_)
 exact aE
  SB
  (λ_ s=>ak [2,0,0] rfl s)
  (tl1 ((b4):(Nat)) trivial)
 refine aF rfl ?_ ?_;refine CE ko (bQ vb vt) (SM [2]) ?_;refine EN (AL 4 ?_);refine LG 2 Y3 (.int .i64 (s.view.epoch)) ?_ (hc:=by exact λa_=>(cz (s.rep ⟨(a_:Nat×Value).1,(.pointer (some ⟨vb,0,none⟩)),a_.2⟩) 0 rfl (by decide) (aV _ rfl)));refine EN (ta 10 rfl (ku MsgT.zero (MsgT.mk 3 0 RowT.zero 0 s.view.epoch vt.ballot BallotT.zero ChangeT.zero ViewT.zero) [(0,[Value.int .i64 3]),(4,[Value.int .i64 s.view.epoch]),(5,ints vt.ballot.flat)] bi bD (g:=MsgT.sg)) ?_);refine AL 12 ?_;refine SW 1 ct aH ?_;refine EN (DN ?_)
 exact aE
  SB
  (λ_ s=>ak [2,0,0] rfl s)
  (tl1 ((b4):(Nat)) trivial)
 exact bP;exact bP;exact bP
theorem tP{δ:Type}(V:Env δ)(r:Nat)(s:MS δ)(vt:VoteT)(hv:s.vote=some vt)(hpt:vt.putting=true)[OkR V.toDk s]:DT 70 #[.pointer (some ⟨r,0,none⟩), .iface V.T V.ov] T0 [cU V r s] (dG (λ_ H=>H=[cU V r (iM V.toDk s vt)])):=
 have:OkVt vt:=OkR.vote vt hv
 Leg.Does.ex (λ_ q=>nX hv q) λvb=>yY V r vb s vt hv hpt
theorem sq{δ:Type}(V:Env δ)(r:Nat)(s:MS δ)(from':Int)(m:MsgT)[OkR V.toDk s][OkMg m](hfe:from'=s.id→m.epoch=s.view.epoch)(hk:m.kind=4):TK V r 60 s from' m (mV V.toDk s from' m):=pu (by omega) (by
 cases hv:s.vote with
 |none=>exact lE V r s (oi V.toDk from' m) from' m hfe (λe=>by omega) (λe=>by omega) (λ_=>by rw[oi,show(dC s (max s.round m.ballot.round)).vote=none from hv]) (λ_=>hv)
 |some vt=>
  have hov:OkVt vt:=OkR.vote vt hv;have h:=qy V r s vt from' m hfe (.inl hk) hv (λ_ h2=>tP V r (lh (dC s (max s.round m.ballot.round)) (fi vt from' m.ballot m.had m.change).1) (fi vt from' m.ballot m.had m.change).1 rfl (EZ h2))
  rwa [show(λs_:MS δ=>if m.kind=4 then oi V.toDk from' m s_ else kj V.toDk from' m s_)=oi V.toDk from' m from funext λ_=>if_pos hk]at h)
theorem yT{δ:Type}(V:Env δ)(r:Nat)(s:MS δ)(from':Int)(m:MsgT)[OkR V.toDk s][OkMg m](hep:m.epoch=s.view.epoch):
 DT 151 #[(.pointer (some ⟨r,0,none⟩)),(.iface V.T V.ov),(.int .i64 (from')),(.agg (ints m.flat).toArray)] T0 [cU V r s] (dG (λ_ H=>H=[cU V r (nc V.toDk from' m s)])):=by
 refine BD 57 Tryz.func151 rfl rfl rfl λw0 F hF=>?_
 have hpm:OkMg (ka m.epoch m.ballot (cb s.acc m.epoch m.ballot).1.had (cb s.acc m.epoch m.ballot).1.change):=OkMg.promM m.epoch inferInstance;refine sr λ_ J1=>XY (ints m.flat) λb7=>?_
 refine nx J1 (aa λ_ J2=>fA (α:=(Nat)) (λb8=>True) (λb8=>[(0,(.pointer (some ⟨r,0,none⟩))),(1,(.iface V.T V.ov)),(2,(.int .i64 (from'))),(7,(.pointer (some ⟨b7,0,none⟩))),(8,(.pointer (some ⟨b8,0,none⟩))),(9,(.bool ((cb s.acc m.epoch m.ballot).2)))]) (λb8=>[cU V r s,aj b7 (ints m.flat) 134,aj b8 (ints ((cb s.acc m.epoch m.ballot).1).flat) 92]) (λb8 hinv=>?_) (λtl2=>?_));have _:=hinv;refine ad J2 (aa λ_ J3=>sr λ_ J4=>PS ?_);refine bg ?_ ?_<;>intro h22;refine PS ?_;refine nx J4 (CN (qx J3 (aa λ_ J5=>aa λ_ J6=>DC bl (BL 2) (dm 0 rfl rfl) ?_)));refine FD 0 1 qi cJ ?_;refine ta 1 rfl (aN (vs:=ints (((cb s.acc m.epoch m.ballot).1).vow).flat) rfl kV rfl cJ rfl (λ_ h=>h.2.1) (aq (((cb s.acc m.epoch m.ballot).1).vow)) (R0 ((cb s.acc m.epoch m.ballot).1) 0 rfl (by decide) (whole (aq (((cb s.acc m.epoch m.ballot).1).vow))))) ?_;refine PD 2 ?_;refine PD 3 ?_;refine FD 4 1058 dx gp ?_;refine FD 5 1059 qi cJ ?_;refine ta 6 rfl (gO (vs:=ints s.acc.vow.flat) rfl kV rfl cJ rfl (λ_ h=>h.2.2.1) (aq s.acc.vow) (λa_=>(zn (s.rep a_) 1 rfl (by decide) (R0 ((s.rep a_).acc) 0 rfl (by decide) (whole (aq (((s.rep a_).acc).vow))))))) ?_
 refine ta 7 rfl (MR (a:=(((cb s.acc m.epoch m.ballot).1).vow).flat) (b:=s.acc.vow.flat) (m:=6) (c:=2) NC NA rfl Oa (fq (aq (((cb s.acc m.epoch m.ballot).1).vow))) (fq (aq s.acc.vow)) ⟨jq II IS (fq (aq (((cb s.acc m.epoch m.ballot).1).vow))),jq II IS (fq (aq s.acc.vow))⟩ (OkAc.vow inferInstance) (OkAc.vow inferInstance) rfl rfl rfl) ?_;refine kg ?_ ?_<;>intro h31;refine DN (ad J6 (CY (aa λ_ J7=>sr λ_ J8=>PS ?_)));refine FA 177 bi aO ?_;refine LU 1 Y3 (fc m rfl) ?_;refine FA 178 bi cJ ?_;refine LV 1 kV cJ aq pi (y:=m.ballot) ?_;refine tp (ku RecT.zero (RecT.mk 3 0 RowT.zero m.epoch m.ballot ChangeT.zero ViewT.zero) [(0,[Value.int .i64 3]),(3,[Value.int .i64 m.epoch]),(4,ints m.ballot.flat)] eH fB (g:=RecT.sg)) ?_;refine CE FC (l5 V r s (gd m.epoch m.ballot)) ID ?_;refine PS ?_;refine ap ?_ ?_<;>intro h39;refine nx J8 (CY (ah (ae (ae (WK [0] (dZ rfl ?_))))));exact MQ (by rw[nc,if_neg (by rw[h22];decide),if_pos h31,if_pos h39]);refine nx J8 (CN (qx J7 (ac (PS ?_))));refine LW 2 qi gp be ?_;refine PS ?_;refine FA 1058 dx gp ?_
 refine iB (vs:=ints ((cb s.acc m.epoch m.ballot).1).flat) (i:=0) (ab rfl) rfl rfl rfl rfl rfl (by rw[(be ((cb s.acc m.epoch m.ballot).1))];exact gp) (bv _) rfl rfl (λ_=>LC (di _) (be _)) (λa_=>(lu ((dR V.toDk s (gd m.epoch m.ballot)).rep a_) 0 rfl (by have h1:=(be ((cb s.acc m.epoch m.ballot).1));omega) (cy ((be (((dR V.toDk s (gd m.epoch m.ballot)).rep a_).acc)).trans (be ((cb s.acc m.epoch m.ballot).1)).symm)))) (nx J5 (ac (P3 ?_)));refine FA 177 bi aO ?_;refine LU 1 Y3 (fc m rfl) ?_;refine FA 178 bi cJ ?_;refine LV 1 kV cJ aq pi (y:=m.ballot) ?_;refine FA 3 qi cJ ?_;refine LV 2 kV cJ aq AccT.sp_had (y:=(((cb s.acc m.epoch m.ballot).1).had)) ?_;refine FA 5 qi fF ?_;refine LV 2 mS fF aJ AccT.sp_change (y:=(((cb s.acc m.epoch m.ballot).1).change)) ?_;refine tp (ku MsgT.zero (MsgT.mk 4 0 RowT.zero 0 m.epoch m.ballot (((cb s.acc m.epoch m.ballot).1).had) (((cb s.acc m.epoch m.ballot).1).change) ViewT.zero) [(0,[Value.int .i64 4]),(4,[Value.int .i64 m.epoch]),(5,ints m.ballot.flat),(6,ints (((cb s.acc m.epoch m.ballot).1).had).flat),(7,ints (((cb s.acc m.epoch m.ballot).1).change).flat)] bi bD (g:=MsgT.sg)) ?_
 refine CZ jL (gW V r (ux (dR V.toDk s (gd m.epoch m.ballot)) (cb s.acc m.epoch m.ballot).1) from' (ka m.epoch m.ballot (cb s.acc m.epoch m.ballot).1.had (cb s.acc m.epoch m.ballot).1.change) (λs_=>mV V.toDk s_ s_.id (ka m.epoch m.ballot (cb s.acc m.epoch m.ballot).1.had (cb s.acc m.epoch m.ballot).1.change)) (λ_=>sq V r (ux (dR V.toDk s (gd m.epoch m.ballot)) (cb s.acc m.epoch m.ballot).1) (ux (dR V.toDk s (gd m.epoch m.ballot)) (cb s.acc m.epoch m.ballot).1).id (ka m.epoch m.ballot (cb s.acc m.epoch m.ballot).1.had (cb s.acc m.epoch m.ballot).1.change) (λ_=>hep) rfl)) ID λvR=>?_
 refine au (WK [0] (bC rfl ?_));exact MQ (by rw[nc,if_neg (by rw[h22];decide),if_pos h31,if_neg h39];rfl);refine DN (ad J6 (CN (qx J5 (ac (P3 ?_)))));refine FA 177 bi aO ?_;refine LU 1 Y3 (fc m rfl) ?_;refine FA 178 bi cJ ?_;refine LV 1 kV cJ aq pi (y:=m.ballot) ?_;refine FA 3 qi cJ ?_;refine LV 2 kV cJ aq AccT.sp_had (y:=(((cb s.acc m.epoch m.ballot).1).had)) ?_;refine FA 5 qi fF ?_;refine LV 2 mS fF aJ AccT.sp_change (y:=(((cb s.acc m.epoch m.ballot).1).change)) ?_;refine tp (ku MsgT.zero (MsgT.mk 4 0 RowT.zero 0 m.epoch m.ballot (((cb s.acc m.epoch m.ballot).1).had) (((cb s.acc m.epoch m.ballot).1).change) ViewT.zero) [(0,[Value.int .i64 4]),(4,[Value.int .i64 m.epoch]),(5,ints m.ballot.flat),(6,ints (((cb s.acc m.epoch m.ballot).1).had).flat),(7,ints (((cb s.acc m.epoch m.ballot).1).change).flat)] bi bD (g:=MsgT.sg)) ?_;refine CZ jL (gW V r s from' (ka m.epoch m.ballot (cb s.acc m.epoch m.ballot).1.had (cb s.acc m.epoch m.ballot).1.change) (λs_=>mV V.toDk s_ s_.id (ka m.epoch m.ballot (cb s.acc m.epoch m.ballot).1.had (cb s.acc m.epoch m.ballot).1.change)) (λ_=>sq V r s s.id (ka m.epoch m.ballot (cb s.acc m.epoch m.ballot).1.had (cb s.acc m.epoch m.ballot).1.change) (λ_=>hep) rfl)) ID λvR=>?_
 refine au (WK [0] (bC rfl ?_));exact MQ (by rw[nc,if_neg (by rw[h22];decide),if_neg h31];rfl);refine PS ?_;refine nx J4 (CY (ah (ae (WK [0] (dZ rfl ?_)))));exact MQ (by rw[nc,if_pos h22]);refine DC bl (dm 1 rfl rfl) (BL 0) ?_;refine PD 0 ?_;refine PD 1 ?_;refine FD 2 1058 dx gp ?_;refine ta 3 rfl (gO (vs:=ints s.acc.flat) rfl qi rfl gp rfl (λ_ h=>h.2.1) (be s.acc) (λa_=>(zn (s.rep a_) 0 rfl (by decide) (whole (be ((s.rep a_).acc)))))) ?_;refine FD 4 177 bi aO ?_;refine LR 5 Y3 (fc m rfl) ?_;refine FD 6 178 bi cJ ?_;refine ta 7 rfl (aN (vs:=ints m.ballot.flat) rfl kV rfl cJ rfl (λ_ h=>h.2.2.1) (aq m.ballot) (jB m 0 rfl (by decide) (whole (aq m.ballot)))) ?_;refine db [8,12] (by kernel_rfl) rfl (aF rfl ?_ ?_);refine CE GS (oC s.acc m.epoch m.ballot) ID ?_;refine EN (PD 9 ?_);refine PD 10 ?_;refine PD 11 ?_;refine sQ ?_ ?_<;>intro h21;refine AL 12 ?_;refine XZ I7 (ints AccT.zero.flat) λb8=>?_
 refine EN (AL 13 ?_);refine SW 0 gp be ?_;refine EN (PD 14 ?_);refine DN ?_
 exact aE
  (aX (aX (aX (aX (aX (bM rfl (by rw[h21]) SB))))))
  (λ_ s=>ak [2,1,0] rfl s)
  (tl2 ((b8):(Nat)) trivial)
 refine AL 12 ?_;refine XZ I7 (ints AccT.zero.flat) λb8=>?_
 refine EN (AL 13 ?_);refine SW 0 gp be ?_;refine EN (PD 14 ?_);refine DN ?_
 exact aE
  (aX (aX (aX (aX (aX (bM rfl (by rw[h21]) SB))))))
  (λ_ s=>ak [2,1,0] rfl s)
  (tl2 ((b8):(Nat)) trivial)
 refine aF rfl ?_ ?_;refine XZ I7 (ints AccT.zero.flat) λb8=>?_
 refine EN (AL 8 ?_);refine CE GS (oC s.acc m.epoch m.ballot) ID ?_;refine EN (PD 9 ?_);refine PD 10 ?_;refine PD 11 ?_;refine sQ ?_ ?_<;>intro h21;refine AL 13 ?_;refine SW 0 gp be ?_;refine EN (PD 14 ?_);refine DN ?_
 exact aE
  (aX (aX (aX (aX (aX (bM rfl (by rw[h21]) SB))))))
  (λ_ s=>ak [2,1,0] rfl s)
  (tl2 ((b8):(Nat)) trivial)
 refine AL 13 ?_;refine SW 0 gp be ?_;refine EN (PD 14 ?_);refine DN ?_
 exact aE
  (aX (aX (aX (aX (aX (bM rfl (by rw[h21]) SB))))))
  (λ_ s=>ak [2,1,0] rfl s)
  (tl2 ((b8):(Nat)) trivial)
 exact bP
theorem xf{δ:Type}(V:Env δ)(r:Nat)(s:MS δ)(from':Int)(m:MsgT)[OkR V.toDk s][OkMg m](hfe:from'=s.id→m.epoch=s.view.epoch)(hk:m.kind=3):TK V r 60 s from' m (nN V.toDk s from' m):=pu (by omega) (lE V r s (nc V.toDk from' m) from' m hfe (λ_ hep=>yT V r (dC s (max s.round m.ballot.round)) from' m hep) (λe _=>by omega) (λe=>by omega) (λe=>by omega))
theorem yZ{δ:Type}(V:Env δ)(r vb:Nat)(s:MS δ)(vt:VoteT)(hv:s.vote=some vt)(hpt:vt.putting=false)[OkR V.toDk s][OkVt vt]:
 DT 70 #[(.pointer (some ⟨r,0,none⟩)),(.iface V.T V.ov)] T0 [wT V r s (.pointer (some ⟨vb,0,none⟩)),aj vb (VoteT.cells vt) 196] (dG (λ_ H=>H=[cU V r (jH V.toDk s vt)])):=by
 refine BD 68 Tryz.func70 rfl rfl rfl λw0 F hF=>aa λ_ J1=>fA (α:=(Nat)) (λb4=>True) (λb4=>[(0,(.pointer (some ⟨r,0,none⟩))),(1,(.iface V.T V.ov)),(4,(.pointer (some ⟨b4,0,none⟩)))]) (λb4=>[wT V r s (.pointer (some ⟨vb,0,none⟩)),aj vb (VoteT.cells vt) 196,aj b4 (ints (fK s.view.epoch vt.ballot).flat) 134]) (λb4 hinv=>?_) (λtl1=>?_)
 have _:=hinv;refine ad J1 (aa λ_ J2=>sr λ_ J3=>P2 ?_);refine FA 1067 dx nO ?_;refine LG 0 qb (.pointer (some ⟨vb,0,none⟩)) ?_ (hc:=by exact λa_=>(cg _ rfl));refine CE Nb (oT vb vt) (SM [1]) ?_;refine bg ?_ ?_<;>intro h22
 · rw[hpt]at h22;cases h22
 refine nx J3 (CN (qx J2 (sr λ_ J4=>ci (H':=cU V r s::[aj b4 (ints (fK s.view.epoch vt.ballot).flat) 134]) (λ_ q=>o6 hv (aD [1,0] rfl q)) (P2 ?_))));refine FA 2 dx bj ?_;refine LZ 0 eG bj an s.view ?_ (hc:=by exact λ_=>dh _);refine XZ sV (ints ViewT.zero.flat) λb5=>?_
 refine SW 0 bj an ?_;refine nx J4 (aa λ_ J5=>sr λ_ J6=>PS ?_);refine nx J6 (am ?_)
 refine bG (α:=(Nat)) (λk=>k≤5) (λk=>[(0,(.pointer (some ⟨r,0,none⟩))),(1,(.iface V.T V.ov)),(4,(.pointer (some ⟨b4,0,none⟩))),(5,(.pointer (some ⟨b5,0,none⟩))),(34,(.int .i64 (((k:Nat):Int))))]) (λk=>[aj b5 (ints s.view.flat) 85,aj b4 (ints (fK s.view.epoch vt.ballot).flat) 134,cU V r (iL V.toDk s (nT s.id (fK s.view.epoch vt.ballot) (λi=>js s.view ((i:Nat):Int)) k))]) (λk=>5-k) 0
  (aP _) SB
  (λ_ q=>by
  rw[show nT s.id (fK s.view.epoch vt.ballot) (λi=>js s.view ((i:Nat):Int)) 0=[]from rfl,qD]
  exact ak [0,1,0] rfl q) (λk hinv=>?_)
 obtain hk:=hinv;refine sr λ_ J7=>PS ?_
 refine ap ?_ ?_<;>intro h35;refine nx J7 (aa λ_ J8=>CY (qx J8 (aa λ_ J9=>am (sr λ_ J10=>P2 ?_))));refine nx J10 (sr λ_ J11=>P3 ?_);refine FA 0 dx aO ?_;refine LG 2 Y3 (.int .i64 (s.id)) ?_ (hc:=by exact λa_=>(cT _ rfl));refine PS ?_;refine ap ?_ ?_<;>intro h42;refine PS ?_;refine LW 0 eG bj an ?_;refine PS ?_;refine CE qK (dU s.view ((k:Nat):Int)) ID ?_;refine bg ?_ ?_<;>intro h46;refine PS ?_;refine nx J11 (CY (ac (P3 ?_)));refine LW 1 bi ct aH ?_;refine CZ jL (oX V r s (nT s.id (fK s.view.epoch vt.ballot) (λi=>js s.view ((i:Nat):Int)) k) ((k:Nat):Int) (fK s.view.epoch vt.ballot) h42) (SM [2]) λvR=>?_
 refine au (af (ad J9 (ac (AD ?_))));refine PS ?_;refine au ?_
 exact aL ((k+1):(Nat)) (by omega) (by show 5- (k+1)<5-k;omega)
  SB
  (λ_ q=>by
   rw[jp,if_pos ⟨h42,h46⟩]
   exact ak [1,1,0] rfl q)
 refine PS ?_;refine nx J11 (CN (aR (af (ad J9 (ac (AD ?_))))));refine PS ?_;refine au ?_
 exact aL ((k+1):(Nat)) (by omega) (by show 5- (k+1)<5-k;omega)
  SB
  (λ_ q=>by
   rw[jp,if_neg (λh=>by have:=h.2;rw[h46]at this;cases this)];rw[aY]
   exact ak [0,0,0] rfl q)
 refine PS ?_
 iterate 3 refine UF ?_
 refine PS ?_;refine nx J11 (CN (aR (af (ad J9 (ac (AD ?_))))));refine PS ?_;refine au ?_
 exact aL ((k+1):(Nat)) (by omega) (by show 5- (k+1)<5-k;omega)
  SB
  (λ_ q=>by
   rw[jp,if_neg (λh=>h42 h.1)];rw[aY]
   exact ak [0,0,0] rfl q)
 obtain rfl:k=5:=by omega
 refine nx J7 (aa λ_ J12=>CN (aW (aA (aA (bq (ad J5 (aa λ_ J13=>DC bl (BL 0) (dm 2 rfl rfl) ?_)))))));refine LY 0 eG bj an ?_;refine PD 1 ?_;refine PD 2 ?_;refine FD 3 0 dx aO ?_;refine ta 4 rfl (dD (v:=(.int .i64 ((iY V.toDk s (fK s.view.epoch vt.ballot)).id))) rfl Y3 rfl rfl (λ_ h=>h.2.2.1) (λa_=>(cT _ rfl))) ?_;refine AL 5 ?_;refine CE qK (dU s.view ((iY V.toDk s (fK s.view.epoch vt.ballot)).id)) ID ?_;refine bg ?_ ?_<;>intro h59;refine EN (DN (ad J13 (CY (D1 1 bl ?_))));refine PD 0 ?_;refine PD 1 ?_;refine PD 2 ?_;refine PD 3 ?_;refine FD 4 0 dx aO ?_;refine LY 6 bi ct aH ?_;refine AL 5 ?_;refine LG 2 Y3 (.int .i64 ((iY V.toDk s (fK s.view.epoch vt.ballot)).id)) ?_ (hc:=by exact λa_=>(cT _ rfl));refine EN (AL 7 ?_);refine CZ jL (gW V r (iY V.toDk s (fK s.view.epoch vt.ballot)) s.id (fK s.view.epoch vt.ballot) (λs_=>nN V.toDk s_ s_.id (fK s.view.epoch vt.ballot)) (λ_=>xf V r (iY V.toDk s (fK s.view.epoch vt.ballot)) s.id (fK s.view.epoch vt.ballot) (λ_=>rfl) rfl)) (SM [2]) λvR=>?_
 refine EN (DN (WK [0] (bC rfl ?_)));exact MQ (by rw[jH,gY,if_pos (show js s.view s.id=true from h59),kB,if_pos (show s.id=(iY V.toDk s (fK s.view.epoch vt.ballot)).id from rfl)]<;>rfl);refine EN (DN (ad J13 (CN (aR (WK [2] (bC rfl ?_))))));exact MQ (by rw[jH,gY,if_neg (by rw[show js s.view s.id=false from h59];decide)]<;>rfl);refine D1 1 bl ?_;refine PD 0 ?_;refine PD 1 ?_;refine FD 2 2 dx bj ?_;refine FD 3 2 eG aO ?_;refine PD 5 ?_;refine PD 6 ?_;refine FD 7 1067 dx nO ?_;refine db [4,8,11] (by kernel_rfl) rfl (aF rfl ?_ ?_);refine LG 0 Y3 (.int .i64 (s.view.epoch)) ?_ (hc:=by exact λa_=>(cz (s.rep ⟨(a_:Nat×Value).1,(.pointer (some ⟨vb,0,none⟩)),a_.2⟩) 0 rfl (by decide) (aV _ rfl)));refine EN (db [8,11] (by kernel_rfl) rfl (aF rfl ?_ ?_));refine LG 0 qb (.pointer (some ⟨vb,0,none⟩)) ?_ (hc:=by exact λa_=>(cg _ rfl));refine EN (db [9,11] (by kernel_rfl) rfl (aF rfl ?_ ?_));refine CE ko (bQ vb vt) (SM [1]) ?_;refine EN (ta 10 rfl (ku MsgT.zero (MsgT.mk 3 0 RowT.zero 0 s.view.epoch vt.ballot BallotT.zero ChangeT.zero ViewT.zero) [(0,[Value.int .i64 3]),(4,[Value.int .i64 s.view.epoch]),(5,ints vt.ballot.flat)] bi bD (g:=MsgT.sg)) ?_);refine AL 11 ?_;refine XZ nf (ints MsgT.zero.flat) λb4=>?_
 refine EN (AL 12 ?_);refine SW 0 ct aH ?_;refine EN (DN ?_)
 exact aE
  SB
  (λ_ s=>ak [2,1,0] rfl s)
  (tl1 ((b4):(Nat)) trivial)
 refine aF rfl ?_ ?_;refine XZ nf (ints MsgT.zero.flat) λb4=>?_
 refine EN (AL 9 ?_);refine CE ko (bQ vb vt) (SM [2]) ?_;refine EN (ta 10 rfl (ku MsgT.zero (MsgT.mk 3 0 RowT.zero 0 s.view.epoch vt.ballot BallotT.zero ChangeT.zero ViewT.zero) [(0,[Value.int .i64 3]),(4,[Value.int .i64 s.view.epoch]),(5,ints vt.ballot.flat)] bi bD (g:=MsgT.sg)) ?_);refine AL 12 ?_;refine SW 1 ct aH ?_;refine EN (DN ?_)
 exact aE
  SB
  (λ_ s=>ak [2,0,0] rfl s)
  (tl1 ((b4):(Nat)) trivial)
 exact bP;refine aF rfl ?_ ?_;refine XZ nf (ints MsgT.zero.flat) λb4=>?_
 refine EN (AL 8 ?_);refine LG 1 qb (.pointer (some ⟨vb,0,none⟩)) ?_ (hc:=by exact λa_=>(cg _ rfl));refine EN (AL 9 ?_);refine CE ko (bQ vb vt) (SM [2]) ?_;refine EN (ta 10 rfl (ku MsgT.zero (MsgT.mk 3 0 RowT.zero 0 s.view.epoch vt.ballot BallotT.zero ChangeT.zero ViewT.zero) [(0,[Value.int .i64 3]),(4,[Value.int .i64 s.view.epoch]),(5,ints vt.ballot.flat)] bi bD (g:=MsgT.sg)) ?_);refine AL 12 ?_;refine SW 1 ct aH ?_;refine EN (DN ?_)
 exact aE
  SB
  (λ_ s=>ak [2,0,0] rfl s)
  (tl1 ((b4):(Nat)) trivial)
 exact bP;refine aF rfl ?_ ?_;refine LG 0 qb (.pointer (some ⟨vb,0,none⟩)) ?_ (hc:=by exact λa_=>(cg _ rfl));refine EN (db [4,9,11] (by kernel_rfl) rfl (aF rfl ?_ ?_));refine LG 0 Y3 (.int .i64 (s.view.epoch)) ?_ (hc:=by exact λa_=>(cz (s.rep ⟨(a_:Nat×Value).1,(.pointer (some ⟨vb,0,none⟩)),a_.2⟩) 0 rfl (by decide) (aV _ rfl)));refine EN (db [9,11] (by kernel_rfl) rfl (aF rfl ?_ ?_));refine CE ko (bQ vb vt) (SM [1]) ?_;refine EN (ta 10 rfl (ku MsgT.zero (MsgT.mk 3 0 RowT.zero 0 s.view.epoch vt.ballot BallotT.zero ChangeT.zero ViewT.zero) [(0,[Value.int .i64 3]),(4,[Value.int .i64 s.view.epoch]),(5,ints vt.ballot.flat)] bi bD (g:=MsgT.sg)) ?_);refine AL 11 ?_;refine XZ nf (ints MsgT.zero.flat) λb4=>?_
 refine EN (AL 12 ?_);refine SW 0 ct aH ?_;refine EN (DN ?_)
 exact aE
  SB
  (λ_ s=>ak [2,1,0] rfl s)
  (tl1 ((b4):(Nat)) trivial)
 refine aF rfl ?_ ?_;refine XZ nf (ints MsgT.zero.flat) λb4=>?_
 refine EN (AL 9 ?_);refine CE ko (bQ vb vt) (SM [2]) ?_;refine EN (ta 10 rfl (ku MsgT.zero (MsgT.mk 3 0 RowT.zero 0 s.view.epoch vt.ballot BallotT.zero ChangeT.zero ViewT.zero) [(0,[Value.int .i64 3]),(4,[Value.int .i64 s.view.epoch]),(5,ints vt.ballot.flat)] bi bD (g:=MsgT.sg)) ?_);refine AL 12 ?_;refine SW 1 ct aH ?_;refine EN (DN ?_)
 exact aE
  SB
  (λ_ s=>ak [2,0,0] rfl s)
  (tl1 ((b4):(Nat)) trivial)
 exact bP;refine aF rfl ?_ ?_;refine CE ko (bQ vb vt) (SM [1]) ?_;refine EN (db [4,11] (by kernel_rfl) rfl (aF rfl ?_ ?_));refine LG 1 Y3 (.int .i64 (s.view.epoch)) ?_ (hc:=by exact λa_=>(cz (s.rep ⟨(a_:Nat×Value).1,(.pointer (some ⟨vb,0,none⟩)),a_.2⟩) 0 rfl (by decide) (aV _ rfl)));refine EN (ta 10 rfl (ku MsgT.zero (MsgT.mk 3 0 RowT.zero 0 s.view.epoch vt.ballot BallotT.zero ChangeT.zero ViewT.zero) [(0,[Value.int .i64 3]),(4,[Value.int .i64 s.view.epoch]),(5,ints vt.ballot.flat)] bi bD (g:=MsgT.sg)) ?_);refine AL 11 ?_;refine XZ nf (ints MsgT.zero.flat) λb4=>?_
 refine EN (AL 12 ?_);refine SW 0 ct aH ?_;refine EN (DN ?_)
 exact aE
  SB
  (λ_ s=>ak [2,1,0] rfl s)
  (tl1 ((b4):(Nat)) trivial)
 refine aF rfl ?_ ?_;refine XZ nf (ints MsgT.zero.flat) λb4=>?_
 refine EN (AL 4 ?_);refine LG 2 Y3 (.int .i64 (s.view.epoch)) ?_ (hc:=by exact λa_=>(cz (s.rep ⟨(a_:Nat×Value).1,(.pointer (some ⟨vb,0,none⟩)),a_.2⟩) 0 rfl (by decide) (aV _ rfl)));refine EN (ta 10 rfl (ku MsgT.zero (MsgT.mk 3 0 RowT.zero 0 s.view.epoch vt.ballot BallotT.zero ChangeT.zero ViewT.zero) [(0,[Value.int .i64 3]),(4,[Value.int .i64 s.view.epoch]),(5,ints vt.ballot.flat)] bi bD (g:=MsgT.sg)) ?_);refine AL 12 ?_;refine SW 0 ct aH ?_;refine EN (DN ?_)
 exact aE
  SB
  (λ_ s=>ak [2,1,0] rfl s)
  (tl1 ((b4):(Nat)) trivial)
 exact bP;refine aF rfl ?_ ?_;refine XZ nf (ints MsgT.zero.flat) λb4=>?_
 refine EN (db [4,9] (by kernel_rfl) rfl (aF rfl ?_ ?_));refine LG 1 Y3 (.int .i64 (s.view.epoch)) ?_ (hc:=by exact λa_=>(cz (s.rep ⟨(a_:Nat×Value).1,(.pointer (some ⟨vb,0,none⟩)),a_.2⟩) 0 rfl (by decide) (aV _ rfl)));refine EN (AL 9 ?_);refine CE ko (bQ vb vt) (SM [2]) ?_;refine EN (ta 10 rfl (ku MsgT.zero (MsgT.mk 3 0 RowT.zero 0 s.view.epoch vt.ballot BallotT.zero ChangeT.zero ViewT.zero) [(0,[Value.int .i64 3]),(4,[Value.int .i64 s.view.epoch]),(5,ints vt.ballot.flat)] bi bD (g:=MsgT.sg)) ?_);refine AL 12 ?_;refine SW 1 ct aH ?_;refine EN (DN ?_)
 exact aE
  SB
  (λ_ s=>ak [2,0,0] rfl s)
  (tl1 ((b4):(Nat)) trivial)
 refine aF rfl ?_ ?_;refine CE ko (bQ vb vt) (SM [2]) ?_;refine EN (AL 4 ?_);refine LG 2 Y3 (.int .i64 (s.view.epoch)) ?_ (hc:=by exact λa_=>(cz (s.rep ⟨(a_:Nat×Value).1,(.pointer (some ⟨vb,0,none⟩)),a_.2⟩) 0 rfl (by decide) (aV _ rfl)));refine EN (ta 10 rfl (ku MsgT.zero (MsgT.mk 3 0 RowT.zero 0 s.view.epoch vt.ballot BallotT.zero ChangeT.zero ViewT.zero) [(0,[Value.int .i64 3]),(4,[Value.int .i64 s.view.epoch]),(5,ints vt.ballot.flat)] bi bD (g:=MsgT.sg)) ?_);refine AL 12 ?_;refine SW 1 ct aH ?_;refine EN (DN ?_)
 exact aE
  SB
  (λ_ s=>ak [2,0,0] rfl s)
  (tl1 ((b4):(Nat)) trivial)
 exact bP;exact bP;refine aF rfl ?_ ?_;refine XZ nf (ints MsgT.zero.flat) λb4=>?_
 refine EN (db [4,8] (by kernel_rfl) rfl (aF rfl ?_ ?_));refine LG 1 Y3 (.int .i64 (s.view.epoch)) ?_ (hc:=by exact λa_=>(cz (s.rep ⟨(a_:Nat×Value).1,(.pointer (some ⟨vb,0,none⟩)),a_.2⟩) 0 rfl (by decide) (aV _ rfl)));refine EN (AL 8 ?_);refine LG 1 qb (.pointer (some ⟨vb,0,none⟩)) ?_ (hc:=by exact λa_=>(cg _ rfl));refine EN (AL 9 ?_);refine CE ko (bQ vb vt) (SM [2]) ?_;refine EN (ta 10 rfl (ku MsgT.zero (MsgT.mk 3 0 RowT.zero 0 s.view.epoch vt.ballot BallotT.zero ChangeT.zero ViewT.zero) [(0,[Value.int .i64 3]),(4,[Value.int .i64 s.view.epoch]),(5,ints vt.ballot.flat)] bi bD (g:=MsgT.sg)) ?_);refine AL 12 ?_;refine SW 1 ct aH ?_;refine EN (DN ?_)
 exact aE
  SB
  (λ_ s=>ak [2,0,0] rfl s)
  (tl1 ((b4):(Nat)) trivial)
 refine aF rfl ?_ ?_;refine LG 1 qb (.pointer (some ⟨vb,0,none⟩)) ?_ (hc:=by exact λa_=>(cg _ rfl));refine EN (db [4,9] (by kernel_rfl) rfl (aF rfl ?_ ?_));refine LG 1 Y3 (.int .i64 (s.view.epoch)) ?_ (hc:=by exact λa_=>(cz (s.rep ⟨(a_:Nat×Value).1,(.pointer (some ⟨vb,0,none⟩)),a_.2⟩) 0 rfl (by decide) (aV _ rfl)));refine EN (AL 9 ?_);refine CE ko (bQ vb vt) (SM [2]) ?_;refine EN (ta 10 rfl (ku MsgT.zero (MsgT.mk 3 0 RowT.zero 0 s.view.epoch vt.ballot BallotT.zero ChangeT.zero ViewT.zero) [(0,[Value.int .i64 3]),(4,[Value.int .i64 s.view.epoch]),(5,ints vt.ballot.flat)] bi bD (g:=MsgT.sg)) ?_);refine AL 12 ?_;refine SW 1 ct aH ?_;refine EN (DN ?_)
 exact aE
  SB
  (λ_ s=>ak [2,0,0] rfl s)
  (tl1 ((b4):(Nat)) trivial)
 refine aF rfl ?_ ?_;refine CE ko (bQ vb vt) (SM [2]) ?_;refine EN (AL 4 ?_);refine LG 2 Y3 (.int .i64 (s.view.epoch)) ?_ (hc:=by exact λa_=>(cz (s.rep ⟨(a_:Nat×Value).1,(.pointer (some ⟨vb,0,none⟩)),a_.2⟩) 0 rfl (by decide) (aV _ rfl)));refine EN (ta 10 rfl (ku MsgT.zero (MsgT.mk 3 0 RowT.zero 0 s.view.epoch vt.ballot BallotT.zero ChangeT.zero ViewT.zero) [(0,[Value.int .i64 3]),(4,[Value.int .i64 s.view.epoch]),(5,ints vt.ballot.flat)] bi bD (g:=MsgT.sg)) ?_);refine AL 12 ?_;refine SW 1 ct aH ?_;refine EN (DN ?_)
 exact aE
  SB
  (λ_ s=>ak [2,0,0] rfl s)
  (tl1 ((b4):(Nat)) trivial)
 exact bP;exact bP;exact bP
theorem By{δ:Type}(V:Env δ)(r:Nat)(s:MS δ)(vt:VoteT)(hv:s.vote=some vt)(hpt:vt.putting=false)[OkR V.toDk s]:DT 70 #[.pointer (some ⟨r,0,none⟩), .iface V.T V.ov] T0 [cU V r s] (dG (λ_ H=>H=[cU V r (jH V.toDk s vt)])):=
 have:OkVt vt:=OkR.vote vt hv
 Leg.Does.ex (λ_ q=>nX hv q) λvb=>yZ V r vb s vt hv hpt
theorem sy{δ:Type}(V:Env δ)(r:Nat)(s:MS δ)(vt:VoteT)(hv:s.vote=some vt)[OkR V.toDk s]:DT 70 #[.pointer (some ⟨r,0,none⟩), .iface V.T V.ov] T0 [cU V r s] (dG (λ_ H=>H=[cU V r (lK V.toDk s vt)])):=by
 cases hp:vt.putting with
 |true=>rw[lK,if_pos hp];exact tP V r s vt hv hp
 |false=>rw[lK,if_neg (by rw[hp];decide)];exact By V r s vt hv hp
theorem A7{δ:Type}(V:Env δ)(r:Nat)(s:MS δ)(from':Int)(m:MsgT)[OkR V.toDk s][OkMg m](hto:from'≠s.id)(hrs:s.replies.length≤1000000):TK V r 60 s from' m (fM V.toDk s from' m):=by
 have hfe:from'=s.id→m.epoch=s.view.epoch:=λe=>absurd e hto
 by_cases h3:m.kind=3
 · rw[fM];simp only[h3];exact xf V r s from' m hfe h3
 by_cases h4:m.kind=4
 · rw[fM];simp only[h4];exact sq V r s from' m hfe h4
 by_cases h5:m.kind=5
 · rw[fM];simp only[h5];exact xe V r s from' m hfe h5
 by_cases h6:m.kind=6
 · rw[fM];simp only[h6];exact sn V r s from' m hfe h6
 refine pv V r s _ from' m (λh=>?_) (λh=>?_) (λh=>?_) (λh=>?_) (λh=>?_) (λh=>?_) (λh=>by omega) (λh=>?_)
 · rw[fM,if_pos h];exact yR V r s from' m hto
 · rw[fM,if_neg (by omega),if_pos h];exact xd V r s from' m hrs
 · rw[fM,if_neg (by omega),if_neg (by omega),if_pos h]
 · rw[fM,if_neg (by omega),if_neg (by omega),if_neg (by omega),if_pos h];exact vY V r s m.view
 · rw[fM,if_neg (by omega),if_neg (by omega),if_neg (by omega),if_neg (by omega),if_pos h];exact xc V r s from' m
 · rw[fM,if_neg (by omega),if_neg (by omega),if_neg (by omega),if_neg (by omega),if_neg (by omega),if_pos h];exact oV V r s from' m
 · rw[fM,if_neg h.1,if_neg h.2.1,if_neg h.2.2.1,if_neg h.2.2.2.1,if_neg h.2.2.2.2.1,if_neg h.2.2.2.2.2.1,if_neg h3,if_neg h4,if_neg h5,if_neg h6]
end Go.Proofs.YtkhjnolhhidecaaGreatDoor
end
