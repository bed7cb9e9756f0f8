/-
  Joined texts:what a statement's proof reaches.
-/
import Derived.Test.YtjblgopghhgflaaGreatPAT5
set_option maxHeartbeats 8000000
set_option maxRecDepth 100000
set_option linter.unusedSimpArgs false
set_option linter.unusedVariables false
section
namespace Go.Proofs.YtjblgopghhgflaaGreat
open Go Leg Codec Api Dsk Wal
theorem HY{δ:Type}(V:Env δ)(r lg:Nat)(x:RepT)(m:RecT)(e:δ)(l:List SaidT)(hlog:x.log= .pointer (some ⟨lg,0,none⟩))(hok:V.ok e):
 DT 136 #[(.pointer (some ⟨r,0,none⟩)),(.agg (ints m.flat).toArray)] T0 [am r (RepT.cells x) 123,V.lg lg e,V.E e l] (RI (.int .i64 (V.pt e (dF m)).2) [am r (RepT.cells x) 123,V.lg lg (V.pt e (dF m)).1,V.E (V.pt e (dF m)).1 l]):=by
 refine BD 12 Tryz.func136 rfl rfl rfl λw0 F hF=>sr λ_ J1=>XY (ints m.flat) λb3=>?_
 refine PS ?_;refine nx J1 (aa λ_ J2=>D2 1 0 bp ?_);refine PD 0 ?_;refine PD 1 ?_;refine FD 2 1 bo Ov ?_;refine LX 3 Tryz.underlying114 (.pointer (some ⟨lg,0,none⟩)) ?_ (hc:=by exact(RepT.at_log x rfl).trans (congrArg some hlog));refine LY 4 jD jK bw ?_;refine AL 5 ?_;refine CR QP (De m) ID λvR HR hR=>?_
 obtain⟨_,rfl,rfl⟩:=hR;revert vR;intro ue;refine EN (AL 6 ?_);refine CF O3 (V.put lg ue (dF m) e l hok (tY m)) (SM [3,3]) (λg d s=>K7 (wO 0 rfl rfl g d s)) ?_;refine EN (PD 7 ?_);exact DN (ac J2 (aj (WK [4,0,0] (aw rfl rfl ⟨rfl,rfl⟩))))
theorem l6{δ:Type}(V:Env δ)(r:Nat)(s:MS δ)(m:RecT)[hs:OkR V.toDk s]:DT 136 #[.pointer (some ⟨r,0,none⟩), .agg (ints m.flat).toArray] T0 [cQ V r s] (RI (.int .i64 (tK V.toDk s m)) [cQ V r (dw V.toDk s m)]):=
 Leg.Does.pack λa=>Leg.Does.withinR (HY V r a.lg (s.rep a) m s.e s.o rfl hs.e) (λ_ _ _ _=>trivial) (λ_ q=>aD [0,0,2] rfl q) λv H hp=>by
  obtain⟨h1,rfl⟩:=hp;exact⟨_,λ_ q=>br (p:=λa:Adr=>[am r (RepT.cells ((dw V.toDk s m).rep a)) 123,V.lg a.lg (dw V.toDk s m).e,own a.rs (dw V.toDk s m).replies.length (ints ((dw V.toDk s m).replies.flatMap ReplyT.flat)) 37 3,Gr a.vo (dw V.toDk s m).vote,V.E (dw V.toDk s m).e (dw V.toDk s m).o]) a (aD [0,0,1,1,0] rfl q),h1,rfl⟩
theorem fx{δ:Type}(V:Env δ)(r:Nat)(s:MS δ)(op err val:Int)(hrs:s.replies.length≤1000000):DT 97 #[.pointer (some ⟨r,0,none⟩), .int .i64 op, .int .i64 err, .int .i64 val] T0 [cQ V r s] (dB (λ_ H=>H=[cQ V r (dI s op err val)])):=
 Leg.Does.pack λa=>Leg.Does.withinR (Fe r (s.rep a) op err val s.replies hrs) (λ_ _ _ _=>trivial) (λ_ q=>aD [0,1] rfl q) λv H hp=>by
  obtain⟨v',_,rfl⟩:=hp;exact⟨_,λ_ q=>br (p:=λa:Adr=>[am r (RepT.cells ((dI s op err val).rep a)) 123,V.lg a.lg (dI s op err val).e,own a.rs (dI s op err val).replies.length (ints ((dI s op err val).replies.flatMap ReplyT.flat)) 37 3,Gr a.vo (dI s op err val).vote,V.E (dI s op err val).e (dI s op err val).o]) {a with rs:=v'} (aD [0,1,0,0,0] rfl q),rfl⟩
theorem sG{δ:Type}(V:Env δ)(r:Nat)(s:MS δ)(y:RowT)(op:Int)[OkR V.toDk s][OkRow y]:
 DT 98 #[(.pointer (some ⟨r,0,none⟩)),(.iface V.T V.ov),(.agg (ints y.flat).toArray),(.int .i64 (op))] T0 [cQ V r s] (RI (.int .i64 (eW V.toDk s y op).2) [cQ V r (eW V.toDk s y op).1]):=by
 refine BD 34 Tryz.func98 rfl rfl rfl λw0 F hF=>sr λ_ J1=>XY (ints y.flat) λb6=>?_
 refine PS ?_;refine nx J1 (aa λ_ J2=>sr λ_ J3=>PS ?_);refine LW 0 dV bg ah ?_;refine tp (lY RecT.zero (RecT.mk 0 0 y 0 BallotT.zero ChangeT.zero ViewT.zero) [(0,[Value.int .i64 0]),(2,ints y.flat)] jD fD (g:=RecT.sg)) ?_;refine CE xT (l6 V r s (dT y)) (SM [1]) ?_;refine PS ?_;refine nx J3 (sr λ_ J4=>P2 ?_);refine ao ?_ ?_<;>intro h15;refine nx J4 (CY (sr λ_ J5=>P2 ?_));refine nx J5 (aj (af (WK [0] (aw rfl rfl ?_))));have e:eW V.toDk s y op=(dw V.toDk s (dT y),tK V.toDk s (dT y)):=if_pos h15;exact kn e;refine nx J4 (CN (qx J2 (sr λ_ J6=>P4 ?_)));refine LW 1 dV bg ah ?_;refine P2 ?_;refine FA 9 bo bg ?_;refine iw (vs:=ints y.flat) (i:=0) (ab rfl) rfl rfl rfl rfl rfl (by rw[(ah y)];exact bg) (bF _) rfl rfl (λ_=>LC (c8 _) (ah _)) (λa_=>(Ru ((dw V.toDk s (dT y)).rep a_) 0 rfl (by have h1:=(ah y);omega) (cy ((ah (((dw V.toDk s (dT y)).rep a_).own)).trans (ah y).symm)))) (PS ?_);refine FA 1938 bo lP ?_;refine SK 0 lP (λ_=>c8 _) ?_ (hc:=by exact λa_=>(Rb _ rfl _));refine PS ?_;refine FA 1939 bo aQ ?_;refine SK 0 aQ (λ_=>c8 _) ?_ (hc:=by exact λa_=>(Ra _ rfl _));refine PS ?_;refine FA 1940 bo aQ ?_;refine SK 0 aQ (λ_=>c8 _) ?_ (hc:=by exact λa_=>(RepT.set_waits _ rfl _));refine nx J6 (sr λ_ J7=>P2 ?_);refine CZ Kh (oL V r (qT (dw V.toDk s (dT y)) y op)) ID λvR=>?_
 refine nx J7 (sr λ_ J8=>PS ?_);refine nx J8 (aj (WK [0] (aw rfl rfl ?_)));have e:eW V.toDk s y op=(fg V.toDk (qT (dw V.toDk s (dT y)) y op),0):=if_neg h15;exact kn e
theorem p8(x:RowT)(who:Int)(d:RowT):
 DT 152 #[(.agg (ints x.flat).toArray),(.int .i64 (who)),(.agg (ints d.flat).toArray)] T0 [] (RI (.tuple #[.agg (ints (cz x who d).1.flat).toArray, .int .i64 (cz x who d).2]) []):=by
 refine BD 68 Tryz.func152 rfl rfl rfl λw0 F hF=>sr λ_ J1=>XY (ints x.flat) λb3=>?_
 refine XY (ints d.flat) λb5=>?_
 refine XZ uB (ints RowT.zero.flat) λb6=>?_
 refine PS ?_;refine nx J1 (aa λ_ J2=>sr λ_ J3=>PS ?_);refine CE GI (kS who) ID ?_;refine bf ?_ ?_<;>intro h11;have hw:cH who=true:=by simpa using h11
 have hw2:0≤who∧who<5:=of_decide_eq_true hw;refine PS ?_;refine nx J3 (CN (qx J2 (aa λ_ J4=>sr λ_ J5=>PS ?_)));refine FA 29 dV fu ?_;refine IX (29+who.toNat) ky aQ ?_;refine LT 2 Y3 (.int .i64 ((x.heir[who.toNat]'(by omega)))) ?_ (hc:=by exact sP x (who.toNat) (by omega) (by omega) (kZ x.heir (by omega)));refine PS ?_;refine ao ?_ ?_<;>intro h18;refine nx J5 (CY (sr λ_ J6=>BV ((ints RowT.zero.flat).toArray) ?_));refine SW 0 bg ah ?_;refine PS ?_;refine nx J6 (aj (af (RT 0 [] dV bg (ah _) ?_)));have e:cz x who d=(.zero,8):=by rw[cz,hw,fh,dif_pos hw,if_neg (by decide),if_pos h18]
 exact⟨by rw[e],rfl⟩;refine nx J5 (CN (qx J4 (aa λ_ J7=>D1 1 bp ?_)));refine PD 0 ?_;refine PD 1 ?_;refine FD 2 0 dV aQ ?_;refine LR 3 Y3 (ce d rfl) ?_;refine ta 4 rfl (cL (r:=(gr (d.version+1))) rfl rfl rfl rfl) ?_;refine FD 5 1 dV mn ?_;refine ta 6 rfl (aO (vs:=ints (bN d.cells.toList)) rfl Ch rfl mn rfl (λ_ h=>h.2.1) (eE d.cells) (Eu d 0 rfl (by decide) (whole (eE d.cells)))) ?_;refine FD 7 29 dV fu ?_;refine IY 8 (29+who.toNat) ky aQ ?_;refine FD 10 34 dV Cx ?_;refine AL 9 ?_;refine bI (i:=2) (ab rfl) rfl rfl rfl rfl rfl aQ rfl rfl (LB (ah _)) (RowT.st_heir x (who.toNat) (by omega) (by omega) (zJ x.heir (by omega) _)) rfl (EN (IY 11 (34+who.toNat*28) Nf mn ?_));refine AL 12 ?_;refine bO (vs:=ints (bN d.cells.toList)) (i:=2) (ab rfl) rfl rfl rfl rfl rfl (by rw[(eE d.cells)];exact mn) (bF _) rfl rfl (LC (ah _) (eE _)) (RowT.wr_left_ (RowT.mk x.version x.cells (x.heir.set who.toNat (gr (d.version+1)) (by omega)) x.left) (who.toNat*28) (by omega) (by have h1:=(eE d.cells);omega) (vz uI x.left (i:=who.toNat) 0 (by omega) (by omega) (by have h1:=(eE d.cells);omega) (cy ((eE (x.left[who.toNat]'(by omega))).trans (eE d.cells).symm)))) rfl (EN (DN (ac J7 (aa λ_ J8=>sr λ_ J9=>FA 29 dV fu ?_))));refine tp (aO (vs:=ints d.heir.toList) rfl ky rfl fu rfl (RO 1) (eh d.heir) (Q6 d 0 rfl (by decide) (whole (eh d.heir)))) ?_;refine PS ?_;refine nx J9 (aq ?_)
 refine bA (α:=(Nat)×(RowT)) (λ⟨k,y⟩=>k≤5∧y=m7 x who d k) (λ⟨k,y⟩=>[(1,(.int .i64 (who))),(3,(.pointer (some ⟨b3,0,none⟩))),(5,(.pointer (some ⟨b5,0,none⟩))),(6,(.pointer (some ⟨b6,0,none⟩))),(7,(.int .i64 0)),(32,(.agg (ints d.heir.toList).toArray)),(33,(.int .i64 (((k:Nat):Int))))]) (λ⟨k,y⟩=>[am b6 (ints RowT.zero.flat) 60,am b5 (ints d.flat) 60,am b3 (ints y.flat) 60]) (λ⟨k,y⟩=>5-k) (0,(RowT.mk x.version x.cells (x.heir.set who.toNat (gr (d.version+1)) (by omega)) (x.left.set who.toNat d.cells (by omega))))
  ⟨aN _,by rw[m7,lx,dif_pos hw];rfl⟩ SB
  (λ_ s=>ak [0,0,0] rfl s) (λ⟨k,y⟩ hinv=>?_)
 obtain⟨hk,hy⟩:=hinv;refine sr λ_ J10=>PS ?_
 refine ao ?_ ?_<;>intro h34;refine nx J10 (aa λ_ J11=>CY (qx J11 (aa λ_ J12=>aq (sr λ_ J13=>PS ?_))));refine tp (lM (cs:=ints d.heir.toList) (v:=Value.int .i64 (d.heir[k]'(by omega))) (r:=k) rfl ky Y3 rfl aQ rfl rfl (by omega) (by omega) (by omega) (kZ d.heir (by omega))) ?_;refine P2 ?_;refine nx J13 (sr λ_ J14=>P3 ?_);refine ao ?_ ?_<;>intro h39;refine P3 ?_;refine ao ?_ ?_<;>intro h42;refine P3 ?_;refine FA 29 dV fu ?_;refine IX (29+k) ky aQ ?_;refine LT 2 Y3 (.int .i64 ((y.heir[k]'(by omega)))) ?_ (hc:=by exact sP y k (by omega) (by omega) (kZ y.heir (by omega)));refine PS ?_;refine ao ?_ ?_<;>intro h49;refine PS ?_;refine nx J14 (CY (D1 1 bp ?_));refine PD 0 ?_;refine PD 1 ?_;refine PD 2 ?_;refine PD 3 ?_;refine FD 4 34 dV Cx ?_;refine IY 5 (34+k*28) Nf mn ?_;refine ta 6 rfl (aO (vs:=ints (bN (d.left[k]'(by omega)).toList)) rfl Ch rfl mn rfl (λ_ h=>h.2.1) (eE (d.left[k]'(by omega))) (Hc d (k*28) (by omega) (by omega) (ln uI d.left (i:=k) 0 (by omega) (by omega) (by decide) (whole (eE (d.left[k]'(by omega))))))) ?_;refine FD 7 29 dV fu ?_;refine IY 8 (29+k) ky aQ ?_;refine FD 10 34 dV Cx ?_;refine AL 9 ?_;refine bI (i:=2) (ab rfl) rfl rfl rfl rfl rfl aQ rfl rfl (LB (ah _)) (RowT.st_heir y k (by omega) (by omega) (zJ y.heir (by omega) _)) rfl (EN (IY 11 (34+k*28) Nf mn ?_));refine AL 12 ?_
 refine bO (vs:=ints (bN (d.left[k]'(by omega)).toList)) (i:=2) (ab rfl) rfl rfl rfl rfl rfl (by rw[(eE (d.left[k]'(by omega)))];exact mn) (bF _) rfl rfl (LC (ah _) (eE _)) (RowT.wr_left_ (RowT.mk y.version y.cells (y.heir.set k (d.heir[k]'(by omega)) (by omega)) y.left) (k*28) (by omega) (by have h1:=(eE (d.left[k]'(by omega)));omega) (vz uI y.left (i:=k) 0 (by omega) (by omega) (by have h1:=(eE (d.left[k]'(by omega)));omega) (cy ((eE (y.left[k]'(by omega))).trans (eE (d.left[k]'(by omega))).symm)))) rfl (EN (DN (ag (ac J12 (ae (AD ?_))))));refine PS ?_;refine au ?_
 exact aK ((k+1,(RowT.mk y.version y.cells (y.heir.set k (d.heir[k]'(by omega)) (by omega)) (y.left.set k (d.left[k]'(by omega)) (by omega)))):(Nat)×(RowT)) ⟨by omega,by rw[l8,←hy,ml,hO _ (by omega),hO _ (by omega),if_pos ⟨by omega,by omega,by omega⟩,E6 _ (by omega),Iy _ (by omega)]⟩ (by show 5- (k+1)<5-k;omega)
  SB
  (λ_ s=>ak [0,0,0] rfl s)
 refine PS ?_;refine nx J14 (CN (aU (ag (ac J12 (ae (AD ?_))))));refine PS ?_;refine au ?_
 exact aK ((k+1,y):(Nat)×(RowT)) ⟨by omega,by rw[l8,←hy,ml,hO _ (by omega),hO _ (by omega),if_neg (by omega)]⟩ (by show 5- (k+1)<5-k;omega)
  SB
  (λ_ s=>ak [0,0,0] rfl s)
 refine P2 ?_
 iterate 5 refine UF ?_
 refine PS ?_;refine nx J14 (CN (aU (ag (ac J12 (ae (AD ?_))))));refine PS ?_;refine au ?_
 exact aK ((k+1,y):(Nat)×(RowT)) ⟨by omega,by rw[l8,←hy,ml,hO _ (by omega),hO _ (by omega),if_neg (by omega)]⟩ (by show 5- (k+1)<5-k;omega)
  SB
  (λ_ s=>ak [0,0,0] rfl s)
 refine PS ?_;refine UF ?_;refine UF ?_;refine P2 ?_
 iterate 5 refine UF ?_
 refine PS ?_;refine nx J14 (CN (aU (ag (ac J12 (ae (AD ?_))))));refine PS ?_;refine au ?_
 exact aK ((k+1,y):(Nat)×(RowT)) ⟨by omega,by rw[l8,←hy,ml,hO _ (by omega),hO _ (by omega),if_neg (by omega)]⟩ (by show 5- (k+1)<5-k;omega)
  SB
  (λ_ s=>ak [0,0,0] rfl s)
 refine nx J10 (aa λ_ J15=>CN (aX (aA (aA (bu (ac J8 (sr λ_ J16=>FA 0 dV aQ ?_)))))));refine LU 2 Y3 (ce y rfl) ?_;refine tp (cL (r:=(gr (y.version+1))) rfl rfl rfl rfl) ?_;refine FA 0 dV aQ ?_;refine bI (i:=2) (ab rfl) rfl rfl rfl rfl rfl aQ rfl rfl (LB (ah _)) (yQ y rfl _) rfl (nx J16 (sr λ_ J17=>LW 2 dV bg ah ?_));refine SW 0 bg ah ?_;refine PS ?_;refine nx J17 (aj (RT 0 [] dV bg (ah _) ?_));obtain rfl:k=5:=by omega
 subst hy;have e:cz x who d=({m7 x who d 5 with version:=gr ((m7 x who d 5).version+1)},0):=by rw[cz,hw,fh,dif_pos hw,if_neg (by decide),if_neg h18]
 exact⟨by rw[e],rfl⟩;refine PS ?_;refine nx J3 (CY (sr λ_ J18=>BV ((ints RowT.zero.flat).toArray) ?_));refine SW 0 bg ah ?_;refine PS ?_;refine nx J18 (aj (af (RT 0 [] dV bg (ah _) ?_)));have hw:cH who=false:=by simpa using h11
 have e:cz x who d=(.zero,5):=by rw[cz,hw];rfl
 exact⟨by rw[e],rfl⟩
theorem Ax{δ:Type}(V:Env δ)(r:Nat)(s:MS δ)[OkR V.toDk s]:
 DT 150 #[(.pointer (some ⟨r,0,none⟩))] T0 [cQ V r s] (dB (λr' H=>∃u,r'=u∧H=[own u (bE s).length (ints (bE s)) 3 1,cQ V r s])):=by
 refine BD 44 Tryz.func150 rfl rfl rfl λw0 F hF=>sr λ_ J1=>PS ?_
 refine nx J1 (sr λ_ J2=>PS ?_);refine nx J2 (aa λ_ J3=>sr λ_ J4=>PS ?_);refine nx J4 (aq ?_)
 refine bA (α:=(Nat)×(Value)) (λ⟨k,u⟩=>k≤5∧u.oneCell'=true) (λ⟨k,u⟩=>[(0,(.pointer (some ⟨r,0,none⟩))),(2,(.slice none 0 0)),(3,u),(7,(.int .i64 (((k:Nat):Int))))]) (λ⟨k,u⟩=>[own u ((iH s k).length) (ints (iH s k)) 3 1,cQ V r s]) (λ⟨k,u⟩=>5-k) (0,(.slice none 0 0))
  ⟨aN _,rfl⟩ SB
  (λ_ s=>iq 3 1 (ak [0] rfl s)) (λ⟨k,u⟩ hinv=>?_)
 obtain⟨hk,hu⟩:=hinv;have hol:=Aw s k;refine sr λ_ J5=>PS ?_
 refine ao ?_ ?_<;>intro h8;refine nx J5 (aa λ_ J6=>CY (qx J6 (aa λ_ J7=>aq (sr λ_ J8=>P2 ?_))));refine nx J8 (sr λ_ J9=>P2 ?_);refine FA 2 bo bm ?_;refine LZ 1 eX bm an s.view ?_ (hc:=by exact λ_=>c7 _);refine PS ?_;refine CE L1 (ry s.view ((k:Nat):Int) OkVw.rng) ID ?_;refine P3 ?_;refine bf ?_ ?_<;>intro h18;refine P2 ?_;refine nx J9 (sr λ_ J10=>?_)
 iterate 5 refine PS ?_
 refine FA 0 bo aQ ?_;refine LG 1 Y3 (.int .i64 (s.id)) ?_ (hc:=by exact λa_=>(cN _ rfl));refine PS ?_;refine ao ?_ ?_<;>intro h26
 iterate 5 refine PS ?_
 refine FA 9 bo bg ?_;refine FA 38 dV fu ?_;refine IX (38+k) ky aQ ?_;refine LG 1 Y3 (.int .i64 ((s.own.heir[k]'(by omega)))) ?_ (hc:=by exact λa_=>(RepT.pt_own (s.rep a_) (29+k) (by omega) (by omega) (sP ((s.rep a_).own) k (by omega) (by omega) (kZ (((s.rep a_).own).heir) (by omega)))));refine PS ?_;refine ao ?_ ?_<;>intro h36;refine PS ?_;refine nx J10 (CY (ae (P2 ?_)));refine aW (cells:=#[(.int .i64 (((k:Nat):Int)))]) (ab rfl) rfl rfl rfl kM sE rfl rfl rfl (by as_aux_lemma=>kernel_rfl) (λb40=>cS (k:=1) (news:=[(.int .i64 (((k:Nat):Int)))]) (nn':=(iH s k).length+1) (xs':=ints (iH s k)++[(.int .i64 (((k:Nat):Int)))]) (ab rfl) rfl rfl rfl kM sE rfl rfl rfl rfl rfl rfl (λ_ _=>kj rfl (RO 0) rfl) (by simp[Value.oneCell']) (by simp only[maxLen];omega) (by omega) (by simp) (by simp) (λv41 ov41=>PS ?_));refine au (ag (ac J7 (ae (AD ?_))));refine PS ?_;refine au ?_
 exact aK ((k+1,v41):(Nat)×(Value)) ⟨by omega,ov41⟩ (by show 5- (k+1)<5-k;omega)
  SB
  (λ_ q=>by
   show bH [own v41 (iH s (k+1)).length (ints (iH s (k+1))) 3 1,cQ V r s] _;rw[show iH s (k+1)=iH s k++[((k:Nat):Int)]by rw[pY,if_pos (N1 h18 h26 (by rw[hO _ (by omega)];exact h36))],ai,eJ]
   exact ak [1,1] rfl q)
 refine PS ?_;refine nx J10 (CN (aU (ag (ac J7 (ae (AD ?_))))));refine PS ?_;refine au ?_
 exact aK ((k+1,u):(Nat)×(Value)) ⟨by omega,hu⟩ (by show 5- (k+1)<5-k;omega)
  SB
  (λ_ q=>by
   show bH [own u (iH s (k+1)).length (ints (iH s (k+1))) 3 1,cQ V r s] _;rw[show iH s (k+1)=iH s k by rw[pY,if_neg (by intro hq;have h2:=BO hq;rw[hO _ (by omega)]at h2;first|omega| (simp_all;done)| (simp_all;omega)),aR]]
   exact ak [0,0] rfl q)
 refine P2 ?_
 iterate 8 refine UF ?_
 refine PS ?_;refine nx J10 (CN (aU (ag (ac J7 (ae (AD ?_))))));refine PS ?_;refine au ?_
 exact aK ((k+1,u):(Nat)×(Value)) ⟨by omega,hu⟩ (by show 5- (k+1)<5-k;omega)
  SB
  (λ_ q=>by
   show bH [own u (iH s (k+1)).length (ints (iH s (k+1))) 3 1,cQ V r s] _;rw[show iH s (k+1)=iH s k by rw[pY,if_neg (by intro hq;have h2:=BO hq;rw[hO _ (by omega)]at h2;first|omega| (simp_all;done)| (simp_all;omega)),aR]]
   exact ak [0,0] rfl q)
 refine P2 ?_;refine nx J9 (sr λ_ J11=>P2 ?_)
 iterate 6 refine UF ?_
 refine P2 ?_
 iterate 8 refine UF ?_
 refine PS ?_;refine nx J11 (CN (aU (ag (ac J7 (ae (AD ?_))))));refine PS ?_;refine au ?_
 exact aK ((k+1,u):(Nat)×(Value)) ⟨by omega,hu⟩ (by show 5- (k+1)<5-k;omega)
  SB
  (λ_ q=>by
   show bH [own u (iH s (k+1)).length (ints (iH s (k+1))) 3 1,cQ V r s] _;rw[show iH s (k+1)=iH s k by rw[pY,if_neg (by intro hq;have h2:=BO hq;rw[hO _ (by omega)]at h2;first|omega| (simp_all;done)| (simp_all;omega)),aR]]
   exact ak [0,0] rfl q)
 refine nx J5 (aa λ_ J12=>CN (aX (aA (aA (bu (ac J3 (sr λ_ J13=>P2 ?_)))))));refine nx J13 (aj (WK [0,0] (aw rfl rfl ?_)));obtain rfl:k=5:=by omega
 exact⟨u,rfl,rfl⟩
theorem om{δ:Type}(V:Env δ)(r:Nat)(s:MS δ)(who w:Int)(hm:cH who=true)(hw:0≤w∧w<5):
 DT 151 #[(.pointer (some ⟨r,0,none⟩)),(.int .i64 (who)),(.int .i64 (w))] T0 [cQ V r s] (RI (.bool (w9 s who w)) [cQ V r s]):=by
 refine BD 17 Tryz.func151 rfl rfl rfl λw0 F hF=>?_
 have hm2:0≤who∧who<5:=of_decide_eq_true hm;refine sr λ_ J1=>PS ?_
 refine nx J1 (sr λ_ J2=>P3 ?_);refine FA 1943 bo fu ?_;refine IX (1943+who.toNat) ky aQ ?_;refine LG 0 Y3 (.int .i64 ((s.told[who.toNat]'(by omega)))) ?_ (hc:=by exact λa_=>(Rv (s.rep a_) (who.toNat) (by omega) (by omega) (kZ ((s.rep a_).told) (by omega))));refine PS ?_;refine tp (mI (r:=((s.told[who.toNat]'(by omega)).fdiv (2^min w.toNat IntKind.i64.bits))) rfl rfl rfl (by omega) rfl) ?_;refine tp (wF (r:=(((s.told[who.toNat]'(by omega)).fdiv (2^min w.toNat IntKind.i64.bits))%2)) rfl rfl rfl (mask (k:=1) (by decide) _)) ?_;refine P2 ?_;refine nx J2 (aj (WK [0] (aw rfl rfl ?_)));exact⟨by rw[w9,rW,dif_pos hm],rfl⟩
theorem p3{δ:Type}(V:Env δ)(r:Nat)(s:MS δ)[OkR V.toDk s]:
    DT 107 #[(.pointer (some ⟨r,0,none⟩)),(.iface V.T V.ov)] T0 [cQ V r s] (dB (λ_ H=>H=[cQ V r (lH V.toDk s)])):=by
 refine BD 80 Tryz.func107 rfl rfl rfl λw0 F hF=>sr λ_ J1=>PS ?_
 refine CR MY (Ax V r s) ID λvR HR hR=>?_
 obtain⟨_,rfl,rfl⟩:=hR;revert vR;intro ud;refine kO 0 rfl rfl (λhlud houd=>PS ?_);refine nx J1 (aa λ_ J2=>sr λ_ J3=>P2 ?_);refine FA 1938 bo lP ?_;refine LG 1 Y4 (.bool (s.busy)) ?_ (hc:=by exact λa_=>(zw _ rfl));refine bf ?_ ?_<;>intro h19;refine PS ?_
 iterate 3 refine UT ?_
 refine PS ?_;refine nx J3 (CY (aj (af (WK [1] (dW rfl ?_)))));exact congrArg (λq=>[cQ V r q]) (show s=lH V.toDk s from(if_pos (by rw[h19];rfl)).symm);refine P2 ?_;refine tq (ef rfl kM rfl hlud) ?_;refine PS ?_;refine ao ?_ ?_<;>intro h23;refine PS ?_;refine nx J3 (CY (aj (af (WK [1] (dW rfl ?_)))));exact congrArg (λq=>[cQ V r q]) (show s=lH V.toDk s from(if_pos (by rw[h19,decide_eq_true (by omega)];rfl)).symm);refine PS ?_;refine nx J3 (CN (qx J2 (aa λ_ J4=>sr λ_ J5=>PS ?_)));refine tp (ef rfl kM rfl hlud) ?_;refine PS ?_;refine nx J5 (aq ?_)
 refine bA (α:=(Nat)) (λk=>k≤(bE s).length∧∀j,j<k→∀w∈gJ ((bE s).getD j 0),w9 s ((bE s).getD j 0) w=true) (λk=>[(0,(.pointer (some ⟨r,0,none⟩))),(1,(.iface V.T V.ov)),(4,ud),(25,ud),(26,(.int .i64 ((((bE s).length:Nat):Int)))),(27,(.int .i64 (((k:Nat):Int))))]) (λk=>[own ud ((bE s).length) (ints (bE s)) 3 1,cQ V r s]) (λk=>(bE s).length-k) 0
     ⟨aN _,λj h=>absurd h (by omega)⟩ SB
     (λ_ s=>s) (λk hinv=>?_)
 obtain⟨hk,hal⟩:=hinv;refine sr λ_ J6=>PS ?_
 refine ao ?_ ?_<;>intro h28;refine nx J6 (aa λ_ J7=>CY (qx J7 (aa λ_ J8=>aq (sr λ_ J9=>?_))));have hmm1:(bE s).getD k 0∈bE s:=by rw[List.getD_eq_getElem?_getD,List.getElem?_eq_getElem (by omega)];exact ey _
 have hm1:cH ((bE s).getD k 0)=true:=(ub hmm1).1;have hn1:0≤(bE s).getD k 0∧(bE s).getD k 0<5:=of_decide_eq_true hm1;refine j5 0 rfl rfl (by omega) (λge1 ce1 he1 _=>tp (bU (r:=k) he1 rfl kM aQ rfl rfl (by omega) (by omega) (by omega)) ?_);refine tp (dr (v:=(.int .i64 (((bE s).getD k 0)))) rfl Y3 rfl rfl (gC 0 rfl he1 rfl) (yh (by omega))) ?_;refine PS ?_;refine nx J9 (sr λ_ J10=>PS ?_);refine CR Io (oU ((bE s).getD k 0) hm1) ID λvR HR hR=>?_
 obtain⟨_,rfl,rfl⟩:=hR;revert vR;intro uw;refine kO 0 rfl rfl (λhluw _=>j5 0 rfl rfl (by omega) (λgw capw hvw hcapw=>tp (ef rfl kM rfl hluw) ?_));refine PS ?_;refine nx J10 (aq (sW 2 (sr λ_ J11=>PS ?_)));refine nx J11 (aa λ_ J12=>CY (qx J12 (aa λ_ J13=>aq (sr λ_ J14=>tp (bU (r:=0) hvw rfl kM aQ rfl rfl (by omega) (by omega) rfl) ?_))));refine tp (dr (v:=(.int .i64 (((((bE s).getD k 0)+1)%5)))) rfl Y3 rfl rfl (gC 0 rfl hvw rfl) rfl) ?_;refine PS ?_;refine nx J14 (sr λ_ J15=>P3 ?_);refine CE GK (om V r s ((bE s).getD k 0) ((((bE s).getD k 0)+1)%5) hm1 (by omega)) (SM [2]) ?_;refine bf ?_ ?_<;>intro h41;refine PS ?_;refine nx J15 (CN (aU (ag (ac J13 (ae (tp (cL (r:=1) rfl rfl rfl (by decide)) ?_))))));refine PS ?_;refine au (eL (sr λ_ J16=>PS ?_));refine nx J16 (aa λ_ J17=>CY (qx J17 (aa λ_ J18=>aq (sr λ_ J19=>tp (bU (r:=1) hvw rfl kM aQ rfl rfl (by omega) (by omega) rfl) ?_))));refine tp (dr (v:=(.int .i64 (((((bE s).getD k 0)+2)%5)))) rfl Y3 rfl rfl (gC 1 rfl hvw rfl) rfl) ?_;refine PS ?_;refine nx J19 (sr λ_ J20=>P3 ?_);refine CE GK (om V r s ((bE s).getD k 0) ((((bE s).getD k 0)+2)%5) hm1 (by omega)) ID ?_;refine bf ?_ ?_<;>intro h41;refine PS ?_;refine nx J20 (CN (aU (ag (ac J18 (ae (tp (cL (r:=2) rfl rfl rfl (by decide)) ?_))))));refine PS ?_;refine au (eL (sr λ_ J21=>PS ?_));refine nx J21 (aa λ_ J22=>CN (aX (aA (aA (bu (ag (ac J8 (ae (AD ?_)))))))));refine PS ?_
 refine au ?_
 exact aK ((k+1):(Nat)) ⟨by omega,λj hj=>by
        by_cases q:j=k
        · subst q
          intro w hw;rw[gJ,if_pos hm1]at hw;simp only[cA,List.not_mem_nil,or_false]at hw;rcases hw with rfl|rfl<;>assumption
        · exact hal j (by omega)⟩ (by show(bE s).length- (k+1)< (bE s).length-k;omega)
   SB
   (λ_ s=>ak [2,0] rfl s)
 refine PS ?_;refine nx J20 (CY (aj (aL (af (af (aL (aL (af (af (aL (af ?_)))))))))));refine WK [0] (dW rfl ?_)
 have hb: ¬wI s=true:=λh=>by
   have h2:=List.all_eq_true.1 (List.all_eq_true.1 h _ hmm1) (((bE s).getD k 0+2)%5) (by rw[gJ,if_pos hm1];simp);rw[h41]at h2;cases h2
 exact MQ (by rw[lH,if_neg (by rw[h19,decide_eq_false (by omega)];decide),if_neg hb]);refine PS ?_;refine nx J15 (CY (aj (aL (af (af (aL (aL (af (af (aL (af ?_)))))))))));refine WK [0] (dW rfl ?_)
 have hb: ¬wI s=true:=λh=>by
   have h2:=List.all_eq_true.1 (List.all_eq_true.1 h _ hmm1) (((bE s).getD k 0+1)%5) (by rw[gJ,if_pos hm1];simp);rw[h41]at h2;cases h2
 exact MQ (by rw[lH,if_neg (by rw[h19,decide_eq_false (by omega)];decide),if_neg hb]);refine nx J6 (aa λ_ J23=>CN (aX (aA (aA (bu (ac J4 (sr λ_ J24=>P2 ?_)))))));refine FA 9 bo bg ?_;refine LZ 1 dV bg ah s.own ?_ (hc:=by exact λ_=>Ev _);refine XZ uB (ints RowT.zero.flat) λb9=>?_
 refine SW 0 bg ah ?_;refine nx J24 (aa λ_ J25=>sr λ_ J26=>PS ?_);refine tp (ef rfl kM rfl hlud) ?_;refine PS ?_;refine nx J26 (aq ?_)
 refine bA (α:=(Nat)×(RowT)) (λ⟨q,y⟩=>q≤(bE s).length∧y=mQ s ((bE s).take q)) (λ⟨q,y⟩=>[(0,(.pointer (some ⟨r,0,none⟩))),(1,(.iface V.T V.ov)),(4,ud),(9,(.pointer (some ⟨b9,0,none⟩))),(49,ud),(50,(.int .i64 ((((bE s).length:Nat):Int)))),(51,(.int .i64 (((q:Nat):Int))))]) (λ⟨q,y⟩=>[am b9 (ints y.flat) 60,own ud ((bE s).length) (ints (bE s)) 3 1,cQ V r s]) (λ⟨q,y⟩=>(bE s).length-q) (0,s.own)
     ⟨aN _,rfl⟩ SB
     (λ_ s=>ak [0,0,0] rfl s) (λ⟨q,y⟩ hinv=>?_)
 obtain⟨hq,hy⟩:=hinv;refine sr λ_ J27=>PS ?_
 refine ao ?_ ?_<;>intro h52;refine nx J27 (aa λ_ J28=>CY (qx J28 (aa λ_ J29=>aq (sr λ_ J30=>?_))));have hmm2:(bE s).getD q 0∈bE s:=by rw[List.getD_eq_getElem?_getD,List.getElem?_eq_getElem (by omega)];exact ey _
 have hm2:cH ((bE s).getD q 0)=true:=(ub hmm2).1;have hn2:0≤(bE s).getD q 0∧(bE s).getD q 0<5:=of_decide_eq_true hm2;refine j5 1 rfl rfl (by omega) (λge1 ce1 he1 _=>tp (bU (r:=q) he1 rfl kM aQ rfl rfl (by omega) (by omega) (by omega)) ?_);refine tp (dr (v:=(.int .i64 (((bE s).getD q 0)))) rfl Y3 rfl rfl (gC 1 rfl he1 rfl) (yh (by omega))) ?_;refine PS ?_;refine nx J30 (aa λ_ J31=>sr λ_ J32=>PS ?_);refine FA 29 dV fu ?_;refine IX (29+(((bE s).getD q 0)).toNat) ky aQ ?_;refine LT 0 Y3 (.int .i64 ((y.heir[(((bE s).getD q 0)).toNat]'(by omega)))) ?_ (hc:=by exact sP y ((((bE s).getD q 0)).toNat) (by omega) (by omega) (kZ y.heir (by omega)));refine PS ?_;refine ao ?_ ?_<;>intro h59;refine nx J32 (CY (aX (aA (bu (ac J29 (ae (AD ?_)))))));refine PS ?_;refine au ?_
 exact aK ((q+1,y):(Nat)×(RowT)) ⟨by omega,by rw[we s (by omega),←hy,if_pos (by rw[fh,dif_pos hm2];exact h59)]⟩ (by show(bE s).length- (q+1)< (bE s).length-q;omega)
   SB
   (λ_ s=>ak [0,0,0] rfl s)
 refine nx J32 (CN (qx J31 (aa λ_ J33=>fC (α:=(Nat)) (λ_=>True) (λb12=>[(0,(.pointer (some ⟨r,0,none⟩))),(1,(.iface V.T V.ov)),(4,ud),(9,(.pointer (some ⟨b9,0,none⟩))),(12,(.pointer (some ⟨b12,0,none⟩))),(13,(.int .i64 ((cz y ((bE s).getD q 0) (s.last[(((bE s).getD q 0)).toNat]'(by omega))).2))),(49,ud),(50,(.int .i64 ((((bE s).length:Nat):Int)))),(51,(.int .i64 (((q:Nat):Int))))]) (λb12=>[am b12 (ints ((cz y ((bE s).getD q 0) (s.last[(((bE s).getD q 0)).toNat]'(by omega))).1).flat) 60,am b9 (ints y.flat) 60,own ud ((bE s).length) (ints (bE s)) 3 1,cQ V r s]) (λb12 _=>?_) (λtl33=>?_))));refine ac J33 (aa λ_ J34=>sr λ_ J35=>P2 ?_);refine ao ?_ ?_<;>intro h73
 · exact absurd (NX hm2 (by rw[fh,dif_pos hm2];exact h59)) h73
 refine nx J35 (CN (qx J34 (ae (LW 0 dV bg ah ?_))));refine SW 1 bg ah ?_;refine au (ag (ac J29 (ae (AD ?_))));refine PS ?_;refine au ?_
 exact aK ((q+1,(cz y ((bE s).getD q 0) (s.last[(((bE s).getD q 0)).toNat]'(by omega))).1):(Nat)×(RowT)) ⟨by omega,by rw[we s (by omega),←hy,if_neg (by rw[fh,dif_pos hm2];exact h59),kx,dif_pos hm2]⟩ (by show(bE s).length- (q+1)< (bE s).length-q;omega)
   SB
   (λ_ s=>ak [1,1,1] rfl s)
 refine DC bp (BL 0) (c9 2 rfl rfl) ?_;refine LY 0 dV bg ah ?_;refine PD 1 ?_;refine PD 2 ?_;refine PD 3 ?_;refine PD 4 ?_;refine FD 5 1948 bo uM ?_;refine IY 6 (1948+((((bE s).getD q 0)).toNat)*174) I1 bg ?_;refine ta 7 rfl (gD (vs:=ints (s.last[(((bE s).getD q 0)).toNat]'(by omega)).flat) rfl dV rfl bg rfl (λ_ h=>h.2.2.1) (ah (s.last[(((bE s).getD q 0)).toNat]'(by omega))) (λa_=>(RepT.sub_last (s.rep a_) (((((bE s).getD q 0)).toNat)*174) (by omega) (by omega) (ln dL ((s.rep a_).last) (i:=(((bE s).getD q 0)).toNat) 0 (by omega) (by omega) (by decide) (whole (ah (((s.rep a_).last)[(((bE s).getD q 0)).toNat]'(by omega)))))))) ?_;refine cX [8,12] (by kernel_rfl) rfl (aH rfl ?_ ?_);refine CE MX (p8 y ((bE s).getD q 0) (s.last[(((bE s).getD q 0)).toNat]'(by omega))) ID ?_;refine EN (PD 9 ?_);refine PD 10 ?_;refine PD 11 ?_;refine AL 12 ?_;refine XZ uB (ints RowT.zero.flat) λb12=>?_
 refine EN (AL 13 ?_);refine SW 0 bg ah ?_;refine EN (PD 14 ?_);refine DN ?_
 exact aF
   SB
   (λ_ s=>s)
   (tl33 ((b12):(Nat)) trivial)
 refine aH rfl ?_ ?_;refine XZ uB (ints RowT.zero.flat) λb12=>?_
 refine EN (AL 8 ?_);refine CE MX (p8 y ((bE s).getD q 0) (s.last[(((bE s).getD q 0)).toNat]'(by omega))) ID ?_;refine EN (PD 9 ?_);refine PD 10 ?_;refine PD 11 ?_;refine AL 13 ?_;refine SW 0 bg ah ?_;refine EN (PD 14 ?_);refine DN ?_
 exact aF
   SB
   (λ_ s=>s)
   (tl33 ((b12):(Nat)) trivial)
 exact bM;refine nx J27 (aa λ_ J36=>CN (aX (aA (aA (bu (ac J25 (ae ?_)))))));have hoy:OkRow y:=by rw[hy];exact inferInstance
 refine P2 ?_;refine LW 0 dV bg ah ?_;refine CE Ny (sG V r s y 0) (SM [2]) ?_;refine au (WK [0] (bG rfl ?_));obtain rfl:k=(bE s).length:=by omega
 obtain rfl:q=(bE s).length:=by omega
 have hb:wI s=true:=List.all_eq_true.2 λi hi=>List.all_eq_true.2 λw hw=>by
   obtain⟨j,hj,rfl⟩:=fM hi;have h2:=hal j (by omega) w;rw[List.getD_eq_getElem?_getD,List.getElem?_eq_getElem hj]at h2;exact h2 hw
 rw[iY]at hy;subst hy;exact MQ (by rw[lH,if_neg (by rw[h19,decide_eq_false (by omega)];decide),if_pos hb])
theorem zi{δ:Type}(V:Env δ)(r:Nat)(s:MS δ)[OkR V.toDk s](hrs:s.replies.length≤1000000):
 DT 169 #[(.pointer (some ⟨r,0,none⟩)),(.iface V.T V.ov)] T0 [cQ V r s] (dB (λ_ H=>H=[cQ V r (kL V.toDk s)])):=by
 refine BD 43 Tryz.func169 rfl rfl rfl λw0 F hF=>sr λ_ J1=>P2 ?_
 refine FA 1938 bo lP ?_;refine SK 0 lP (λ_=>c8 _) ?_ (hc:=by exact λa_=>(Rb _ rfl _));refine nx J1 (aa λ_ J2=>fC (α:=Unit) (λ_u=>True) (λ_u=>[(0,(.pointer (some ⟨r,0,none⟩))),(1,(.iface V.T V.ov))]) (λ_u=>[cQ V r (gP s)]) (λ_u hinv=>?_) (λtl2=>?_));have _:=hinv;refine ac J2 (aa λ_ J3=>fC (α:=Unit) (λ_u=>True) (λ_u=>[(0,(.pointer (some ⟨r,0,none⟩))),(1,(.iface V.T V.ov))]) (λ_u=>[cQ V r (lS (gP s))]) (λ_u hinv=>?_) (λtl3=>?_));have _:=hinv;refine ac J3 (sr λ_ J4=>P4 ?_);refine FA 9 bo bg ?_;refine LZ 0 dV bg ah ((lS (gP s)).own) ?_ (hc:=by exact λ_=>Ev _);refine CZ Ke (nM V r (lS (gP s)) ((lS (gP s)).own)) ID λvR=>?_
 refine nx J4 (ae (P2 ?_));refine CZ GQ (p3 V r (k8 V.toDk (lS (gP s)) ((lS (gP s)).own))) ID λvR=>?_
 exact au (WK [0] (bG rfl rfl));refine sr λ_ J5=>P2 ?_
 refine FA 1940 bo aQ ?_;refine LG 0 Y3 (.int .i64 ((gP s).waits)) ?_ (hc:=by exact λa_=>(RepT.at_waits _ rfl));refine PS ?_;refine ao ?_ ?_<;>intro h23;refine nx J5 (CY (sr λ_ J6=>P3 ?_));refine FA 1940 bo aQ ?_;refine LG 0 Y3 (.int .i64 ((gP s).waits)) ?_ (hc:=by exact λa_=>(RepT.at_waits _ rfl));refine CZ u6 (fx V r (gP s) ((gP s).waits) 0 0 hrs) ID λvR=>?_
 refine nx J6 (ae (P2 ?_));refine FA 1940 bo aQ ?_;refine SK 0 aQ (λ_=>c8 _) ?_ (hc:=by exact λa_=>(RepT.set_waits _ rfl _));refine au ?_
 exact aF
  SB
  (λ_ q=>by
   rw[zG h23]
   exact ak [0] rfl q)
  (tl3 (():Unit) trivial)
 refine nx J5 (CN (aU ?_))
 exact aF
  SB
  (λ_ q=>by
   rw[zH h23]
   exact ak [0] rfl q)
  (tl3 (():Unit) trivial)
 refine D0 bp ?_;refine PD 0 ?_;refine PD 1 ?_;refine FD 2 1068 bo xg ?_;refine PD 3 ?_;refine PD 4 ?_;refine FD 5 0 bo aQ ?_;refine PD 7 ?_;refine PD 8 ?_;refine FD 9 9 bo bg ?_;refine cX [6,10] (by kernel_rfl) rfl (aH rfl ?_ ?_);refine LG 0 Y3 (.int .i64 (s.id)) ?_ (hc:=by exact λa_=>(cN _ rfl));refine EN (AL 10 ?_);refine LZ 0 dV bg ah s.own ?_ (hc:=by exact λ_=>Ev _);refine EN (AL 11 ?_);refine CE L0 (Leg.Does.hid (λa_=>lK r 1068 123 _ (ii ((MS.setBusy s false).rep a_)) (MS.setBusy s false).book s.id s.own (Ew inferInstance))) ID ?_;refine EN (DN ?_)
 exact aF
  SB
  (λ_ s=>ak [0] rfl s)
  (tl2 (():Unit) trivial)
 refine aH rfl ?_ ?_;refine LZ 0 dV bg ah s.own ?_ (hc:=by exact λ_=>Ev _);refine EN (AL 6 ?_);refine LG 0 Y3 (.int .i64 (s.id)) ?_ (hc:=by exact λa_=>(cN _ rfl));refine EN (AL 11 ?_);refine CE L0 (Leg.Does.hid (λa_=>lK r 1068 123 _ (ii ((MS.setBusy s false).rep a_)) (MS.setBusy s false).book s.id s.own (Ew inferInstance))) ID ?_;refine EN (DN ?_)
 exact aF
  SB
  (λ_ s=>ak [0] rfl s)
  (tl2 (():Unit) trivial)
 exact bM
theorem xd{δ:Type}(V:Env δ)(r:Nat)(s:MS δ)(from':Int)(m:MsgT)[OkR V.toDk s](hrs:s.replies.length≤1000000):
 DT 144 #[(.pointer (some ⟨r,0,none⟩)),(.iface V.T V.ov),(.int .i64 (from')),(.agg (ints m.flat).toArray)] T0 [cQ V r s] (dB (λ_ H=>H=[cQ V r (dv V.toDk s from' m)])):=by
 refine BD 64 Tryz.func144 rfl rfl rfl λw0 F hF=>?_
 have hid:cH s.id=true:=OkR.id;have hid2:0≤s.id∧s.id<5:=of_decide_eq_true hid;refine sr λ_ J1=>XY (ints m.flat) λb7=>?_
 refine nx J1 (sr λ_ J2=>P2 ?_);refine FA 0 bo aQ ?_;refine LG 1 Y3 (.int .i64 (s.id)) ?_ (hc:=by exact λa_=>(cN _ rfl));refine CR Io (oU s.id hid) ID λvR HR hR=>?_
 obtain⟨_,rfl,rfl⟩:=hR;revert vR;intro uw;refine kO 0 rfl rfl (λhluw _=>j5 0 rfl rfl (by omega) (λgw capw hvw hcapw=>PS ?_));refine nx J2 (aa λ_ J3=>aa λ_ J4=>DC bp (c9 2 rfl rfl) (BL 1) ?_);refine PD 0 ?_;refine PD 1 ?_;refine FD 2 1938 bo lP ?_;refine ta 3 rfl (dy (v:=(.bool (s.busy))) rfl Y4 rfl rfl (λ_ h=>h.2.1) (λa_=>(zw _ rfl))) ?_;refine oc ?_ ?_<;>intro h19;refine PD 4 ?_;refine PD 5 ?_;refine FD 6 176 bk aQ ?_;refine LR 7 Y3 (MsgT.at_version m rfl) ?_;refine PD 8 ?_;refine PD 9 ?_;refine FD 10 9 bo bg ?_;refine FD 11 9 dV aQ ?_;refine tb 12 rfl (dy (v:=(.int .i64 (s.own.version))) rfl Y3 rfl rfl (λ_ h=>h.2.1) (λa_=>(RepT.pt_own (s.rep a_) 0 rfl (by decide) (ce _ rfl)))) ?_;refine PD 13 ?_;refine iK ?_ ?_<;>intro h29;refine PD 14 ?_;refine PD 15 ?_;refine NT 16 ?_;refine NT 17 ?_;refine NT 18 ?_;refine NT 19 ?_;refine PD 20 ?_;refine DN (ac J4 (CY (aj (af (WK [2] (dW rfl ?_))))));have ew:gJ s.id=[(s.id+1)%5,(s.id+2)%5]:=by rw[gJ,if_pos hid]
 have e:l7 s from' m.version=false:=by rw[l7,ew,decide_eq_false h29,ik,mO]
 exact congrArg (λq=>[cQ V r q]) (show s=dv V.toDk s from' m by rw[dv,e];rfl);refine PD 14 ?_;refine PD 15 ?_;refine PD 16 ?_;refine PD 17 ?_;refine AL 18 ?_;refine CF MO (rQ uw [(s.id+1)%5,(s.id+2)%5] from' (by decide:2≤1000000)) ID (G0 (l:=[(s.id+1)%5,(s.id+2)%5]) 0 rfl rfl) ?_;refine ao ?_ ?_<;>intro h34;have hmem:=h34;simp only[cA,List.not_mem_nil,or_false]at hmem;have hfr:0≤from'∧from'<5:=by omega
 refine EN (PD 19 ?_);refine PD 20 ?_;refine DN (ac J4 (CN (qx J3 (aa λ_ J5=>D0 bp ?_))));refine PD 0 ?_;refine PD 1 ?_;refine FD 2 1939 bo aQ ?_;refine PD 4 ?_;refine ta 5 rfl (zx (r:=(dq from')) rfl rfl rfl (by omega) rfl) ?_;refine AL 3 ?_;refine LG 2 Y3 (.int .i64 (s.kept)) ?_ (hc:=by exact λa_=>(sQ _ rfl));refine EN (ta 6 rfl (KX (r:=(js .i64 s.kept (dq from'))) rfl rfl rfl rfl) ?_);refine PD 7 ?_;refine FD 8 1939 bo aQ ?_;refine AL 9 ?_;refine SK 2 aQ (λ_=>c8 _) ?_ (hc:=by exact λa_=>(Ra _ rfl _));refine EN (DN (ac J5 (aa λ_ J6=>sr λ_ J7=>PS ?_)));refine tp (ef rfl kM rfl hluw) ?_;refine PS ?_;refine nx J7 (aq (sW 2 (sr λ_ J8=>PS ?_)));refine nx J8 (aa λ_ J9=>CY (qx J9 (aa λ_ J10=>aq (sr λ_ J11=>tp (bU (r:=0) hvw rfl kM aQ rfl rfl (by omega) (by omega) rfl) ?_))));refine tp (dr (v:=(.int .i64 (((s.id+1)%5)))) rfl Y3 rfl rfl (gC 0 rfl hvw rfl) rfl) ?_;refine PS ?_;refine nx J11 (sr λ_ J12=>P2 ?_);refine FA 1939 bo aQ ?_;refine LG 2 Y3 (.int .i64 ((js .i64 s.kept (dq from')))) ?_ (hc:=by exact λa_=>(sQ _ rfl));refine PS ?_;refine tp (mI (r:=((js .i64 s.kept (dq from')).fdiv (2^min (((s.id+1)%5)).toNat IntKind.i64.bits))) rfl rfl rfl (by omega) rfl) ?_;refine tp (wF (r:=(((js .i64 s.kept (dq from')).fdiv (2^min (((s.id+1)%5)).toNat IntKind.i64.bits))%2)) rfl rfl rfl (mask (k:=1) (by decide) _)) ?_;refine PS ?_;refine ao ?_ ?_<;>intro h59
 refine nx J12 (CY (aj (aL (af (af (aL (af (WK [2] (dW rfl ?_)))))))));have ew:gJ s.id=[(s.id+1)%5,(s.id+2)%5]:=by rw[gJ,if_pos hid]
 have e:l7 s from' m.version=true:=by rw[l7,h19,ew,decide_eq_true (show m.version=s.own.version by omega),decide_eq_true h34];rfl
 have e2:yl (iO s from')=false:=by rw[yl,show gJ (iO s from').id=[(s.id+1)%5,(s.id+2)%5]from ew];simp only[List.all_cons,List.all_nil,Ca,iO, *,decide_true,decide_false,Rh,P7,Ri,n8,ik,mO]
 exact congrArg (λq=>[cQ V r q]) (show(MS.setKept s (js .i64 s.kept (dq from')))=dv V.toDk s from' m by rw[dv,e,e2];rfl);refine nx J12 (CN (aU (ag (ac J10 (ae (tp (cL (r:=1) rfl rfl rfl (by decide)) ?_))))));refine PS ?_;refine au (eL (sr λ_ J13=>PS ?_));refine nx J13 (aa λ_ J14=>CY (qx J14 (aa λ_ J15=>aq (sr λ_ J16=>tp (bU (r:=1) hvw rfl kM aQ rfl rfl (by omega) (by omega) rfl) ?_))));refine tp (dr (v:=(.int .i64 (((s.id+2)%5)))) rfl Y3 rfl rfl (gC 0 rfl hvw rfl) rfl) ?_;refine PS ?_;refine nx J16 (sr λ_ J17=>P2 ?_);refine FA 1939 bo aQ ?_;refine LG 2 Y3 (.int .i64 ((js .i64 s.kept (dq from')))) ?_ (hc:=by exact λa_=>(sQ _ rfl));refine PS ?_;refine tp (mI (r:=((js .i64 s.kept (dq from')).fdiv (2^min (((s.id+2)%5)).toNat IntKind.i64.bits))) rfl rfl rfl (by omega) rfl) ?_;refine tp (wF (r:=(((js .i64 s.kept (dq from')).fdiv (2^min (((s.id+2)%5)).toNat IntKind.i64.bits))%2)) rfl rfl rfl (mask (k:=1) (by decide) _)) ?_;refine PS ?_;refine ao ?_ ?_<;>intro h59;refine nx J17 (CY (aj (aL (af (af (aL (af (WK [2] (dW rfl ?_)))))))));have ew:gJ s.id=[(s.id+1)%5,(s.id+2)%5]:=by rw[gJ,if_pos hid]
 have e:l7 s from' m.version=true:=by rw[l7,h19,ew,decide_eq_true (show m.version=s.own.version by omega),decide_eq_true h34];rfl
 have e2:yl (iO s from')=false:=by rw[yl,show gJ (iO s from').id=[(s.id+1)%5,(s.id+2)%5]from ew];simp only[List.all_cons,List.all_nil,Ca,iO, *,decide_true,decide_false,Rh,P7,Ri,n8,ik,mO]
 exact congrArg (λq=>[cQ V r q]) (show(MS.setKept s (js .i64 s.kept (dq from')))=dv V.toDk s from' m by rw[dv,e,e2];rfl);refine nx J17 (CN (aU (ag (ac J15 (ae (tp (cL (r:=2) rfl rfl rfl (by decide)) ?_))))));refine PS ?_;refine au (eL (sr λ_ J18=>PS ?_));refine nx J18 (aa λ_ J19=>CN (aX (aA (aA (bu (ac J6 (ae (P2 ?_))))))));refine CZ O2 (zi V r (iO s from') hrs) (SM [2]) λvR=>?_
 refine au (WK [0] (bG rfl ?_));have ew:gJ s.id=[(s.id+1)%5,(s.id+2)%5]:=by rw[gJ,if_pos hid]
 have e:l7 s from' m.version=true:=by rw[l7,h19,ew,decide_eq_true (show m.version=s.own.version by omega),decide_eq_true h34];rfl
 have e2:yl (iO s from')=true:=by rw[yl,show gJ (iO s from').id=[(s.id+1)%5,(s.id+2)%5]from ew];simp only[List.all_cons,List.all_nil,Ca,iO, *,decide_true,decide_false,Rh,P7,Ri,n8,ik,mO]
 exact congrArg (λq=>[cQ V r q]) (show(kL V.toDk (iO s from'))=dv V.toDk s from' m by rw[dv,e,e2];rfl);refine EN (PD 19 ?_);refine PD 20 ?_;refine DN (ac J4 (CY (aj (af (WK [2] (dW rfl ?_))))));have ew:gJ s.id=[(s.id+1)%5,(s.id+2)%5]:=by rw[gJ,if_pos hid]
 have e:l7 s from' m.version=false:=by rw[l7,ew,decide_eq_false h34];simp
 exact congrArg (λq=>[cQ V r q]) (show s=dv V.toDk s from' m by rw[dv,e];rfl);refine PD 4 ?_;refine PD 5 ?_;refine NT 6 ?_;refine NT 7 ?_;refine NT 8 ?_;refine NT 9 ?_;refine NT 10 ?_;refine NT 11 ?_;refine NT 12 ?_;refine NT 13 ?_;refine PD 14 ?_;refine PD 15 ?_;refine NT 16 ?_;refine NT 17 ?_;refine NT 18 ?_;refine NT 19 ?_;refine PD 20 ?_;refine DN (ac J4 (CY (aj (af (WK [2] (dW rfl ?_))))));have ew:gJ s.id=[(s.id+1)%5,(s.id+2)%5]:=by rw[gJ,if_pos hid]
 have e:l7 s from' m.version=false:=by rw[l7,ew,h19];simp
 exact congrArg (λq=>[cQ V r q]) (show s=dv V.toDk s from' m by rw[dv,e];rfl)
theorem yY{δ:Type}(V:Env δ)(r:Nat)(s:MS δ)(from':Int)(m:MsgT)[OkR V.toDk s][OkMg m](hto:from'≠s.id):
 DT 143 #[(.pointer (some ⟨r,0,none⟩)),(.iface V.T V.ov),(.int .i64 (from')),(.agg (ints m.flat).toArray)] T0 [cQ V r s] (dB (λ_ H=>H=[cQ V r (iB V.toDk s from' m)])):=by
 refine BD 56 Tryz.func143 rfl rfl rfl λw0 F hF=>sr λ_ J1=>XY (ints m.flat) λb7=>?_
 refine nx J1 (aa λ_ J2=>aa λ_ J3=>D1 0 bp ?_);refine FD 0 1 bk aQ ?_;refine LR 1 Y3 (ct m rfl) ?_;refine PD 2 ?_;refine PD 3 ?_;refine iK ?_ ?_<;>intro h11;refine PD 4 ?_;refine NT 5 ?_;refine NT 6 ?_;refine NT 7 ?_;refine NT 8 ?_;refine NT 9 ?_;refine NT 10 ?_;refine PD 11 ?_;refine DN (ac J3 (CY (aj (af (WK [1] (dW rfl ?_))))));exact congrArg (λq=>[cQ V r q]) (show _=iB V.toDk s from' m from(if_pos (.inl (by omega))).symm);refine PD 4 ?_;refine PD 5 ?_;refine PD 6 ?_;refine FD 7 183 bo o9 ?_;refine FD 8 1 bk aQ ?_;refine LR 9 Y3 (ct m rfl) ?_;refine AL 10 ?_;refine CE NE (Leg.Does.hid (λa_=>nV r 183 123 _ (el (s.rep a_)) s.mirror m.whose)) (SM [1]) ?_;refine bf ?_ ?_<;>intro h18;refine EN (PD 11 ?_);refine DN (ac J3 (CY (aj (af (WK [0] (dW rfl ?_))))));exact congrArg (λq=>[cQ V r q]) (show _=iB V.toDk s from' m from(if_pos (.inr h18)).symm);refine EN (PD 11 ?_);refine DN (ac J3 (CN (qx J2 (aa λ_ J4=>aa λ_ J5=>D1 1 bp ?_))));refine PD 0 ?_;refine PD 1 ?_;refine FD 2 183 bo o9 ?_;refine FD 3 1 bk aQ ?_;refine LR 4 Y3 (ct m rfl) ?_;refine FD 5 2 bk bg ?_;refine ta 6 rfl (aO (vs:=ints m.row.flat) rfl dV rfl bg rfl (λ_ h=>h.2.1) (ah m.row) (mW m 0 rfl (by decide) (whole (ah m.row)))) ?_;refine AL 7 ?_;refine CE MT (Leg.Does.hid (λa_=>rK r 183 123 _ (el (s.rep a_)) s.mirror m.whose m.row (Ew inferInstance))) ID ?_;refine bf ?_ ?_<;>intro h27;refine EN (DN (ac J5 (CY (aa λ_ J6=>sr λ_ J7=>PS ?_))))
 refine FA 1 bk aQ ?_;refine LU 1 Y3 (ct m rfl) ?_;refine FA 2 bk bg ?_;refine LV 1 dV bg ah MsgT.sp_row (y:=m.row) ?_;refine tp (lY RecT.zero (RecT.mk 1 m.whose m.row 0 BallotT.zero ChangeT.zero ViewT.zero) [(0,[Value.int .i64 1]),(1,[Value.int .i64 m.whose]),(2,ints m.row.flat)] jD fD (g:=RecT.sg)) ?_;refine CE xT (l6 V r s (fq m.whose m.row)) ID ?_;refine PS ?_;refine ao ?_ ?_<;>intro h35;refine nx J7 (CY (aj (af (af (WK [0] (dW rfl ?_))))));have hn: ¬(m.whose≠from'∨fy s.mirror m.whose=true):=λh=>h.elim (λh=>by omega) (λh=>by rw[h18]at h;cases h)
 exact MQ (by rw[iB,if_neg hn,if_pos h27,if_pos h35]<;>rfl);refine nx J7 (CN (qx J6 (D1 1 bp ?_)));refine PD 0 ?_;refine PD 1 ?_;refine FD 2 183 bo o9 ?_;refine FD 3 1 bk aQ ?_;refine LR 4 Y3 (ct m rfl) ?_;refine FD 5 2 bk bg ?_;refine ta 6 rfl (aO (vs:=ints m.row.flat) rfl dV rfl bg rfl (λ_ h=>h.2.1) (ah m.row) (mW m 0 rfl (by decide) (whole (ah m.row)))) ?_;refine AL 7 ?_;refine CE M2 (Leg.Does.hid (λa_=>tR r 183 123 _ (el ((dw V.toDk s (fq m.whose m.row)).rep a_)) (dw V.toDk s (fq m.whose m.row)).mirror m.whose m.row (Ew inferInstance))) ID ?_;refine EN (DN (ac J4 (D1 1 bp ?_)));refine PD 0 ?_;refine PD 1 ?_;refine PD 2 ?_;refine PD 3 ?_;refine PD 4 ?_;refine FD 5 183 bo o9 ?_;refine FD 6 1 bk aQ ?_;refine LR 7 Y3 (ct m rfl) ?_;refine AL 8 ?_;refine CE JP (Leg.Does.hid (λa_=>mz r 183 123 _ (el ((hZ (dw V.toDk s (fq m.whose m.row)) m.whose m.row).rep a_)) (hZ (dw V.toDk s (fq m.whose m.row)) m.whose m.row).mirror m.whose)) ID ?_;refine EN (ta 9 rfl (yR (cs:=ints (cb (hZ (dw V.toDk s (fq m.whose m.row)) m.whose m.row).mirror m.whose).flat) (v:=Value.int .i64 ((cb (hZ (dw V.toDk s (fq m.whose m.row)) m.whose m.row).mirror m.whose).version)) rfl dV rfl Y3 rfl rfl (ce _ rfl)) ?_)
 refine ta 10 rfl (lY MsgT.zero (MsgT.mk 1 0 RowT.zero ((cb (hZ (dw V.toDk s (fq m.whose m.row)) m.whose m.row).mirror m.whose).version) 0 BallotT.zero BallotT.zero ChangeT.zero ViewT.zero) [(0,[Value.int .i64 1]),(3,[Value.int .i64 ((cb (hZ (dw V.toDk s (fq m.whose m.row)) m.whose m.row).mirror m.whose).version)])] bk bB (g:=MsgT.sg)) ?_;refine AL 11 ?_;refine CZ jP (kb V r (hZ (dw V.toDk s (fq m.whose m.row)) m.whose m.row) from' (oz (cb (hZ (dw V.toDk s (fq m.whose m.row)) m.whose m.row).mirror m.whose).version) hto) ID λvR=>?_
 refine EN (DN (WK [0] (bG rfl ?_)));have hn: ¬(m.whose≠from'∨fy s.mirror m.whose=true):=λh=>h.elim (λh=>by omega) (λh=>by rw[h18]at h;cases h)
 exact MQ (by rw[iB,if_neg hn,if_pos h27,if_neg h35]<;>rfl);refine EN (DN (ac J5 (CN (qx J4 (D1 1 bp ?_)))));refine PD 0 ?_;refine PD 1 ?_;refine PD 2 ?_;refine PD 3 ?_;refine PD 4 ?_;refine FD 5 183 bo o9 ?_;refine FD 6 1 bk aQ ?_;refine LR 7 Y3 (ct m rfl) ?_;refine AL 8 ?_;refine CE JP (Leg.Does.hid (λa_=>mz r 183 123 _ (el (s.rep a_)) s.mirror m.whose)) ID ?_;refine EN (ta 9 rfl (yR (cs:=ints (cb s.mirror m.whose).flat) (v:=Value.int .i64 ((cb s.mirror m.whose).version)) rfl dV rfl Y3 rfl rfl (ce _ rfl)) ?_);refine ta 10 rfl (lY MsgT.zero (MsgT.mk 1 0 RowT.zero ((cb s.mirror m.whose).version) 0 BallotT.zero BallotT.zero ChangeT.zero ViewT.zero) [(0,[Value.int .i64 1]),(3,[Value.int .i64 ((cb s.mirror m.whose).version)])] bk bB (g:=MsgT.sg)) ?_;refine AL 11 ?_;refine CZ jP (kb V r s from' (oz (cb s.mirror m.whose).version) hto) ID λvR=>?_
 refine EN (DN (WK [0] (bG rfl ?_)));have hn: ¬(m.whose≠from'∨fy s.mirror m.whose=true):=λh=>h.elim (λh=>by omega) (λh=>by rw[h18]at h;cases h)
 exact MQ (by rw[iB,if_neg hn,if_neg (by rw[h27];decide)]<;>rfl)
theorem o8{δ:Type}(V:Env δ)(r:Nat)(s:MS δ)(from':Int)(m:MsgT)[OkR V.toDk s][OkMg m]:
 DT 147 #[(.pointer (some ⟨r,0,none⟩)),(.iface V.T V.ov),(.int .i64 (from')),(.agg (ints m.flat).toArray)] T0 [cQ V r s] (dB (λ_ H=>H=[cQ V r (e8 V.toDk s from' m)])):=by
 refine BD 59 Tryz.func147 rfl rfl rfl λw0 F hF=>sr λ_ J1=>XY (ints m.flat) λb7=>?_
 refine nx J1 (aa λ_ J2=>fC (α:=Unit) (λ_u=>True) (λ_u=>[(0,(.pointer (some ⟨r,0,none⟩))),(1,(.iface V.T V.ov))]) (λ_u=>[cQ V r (if from'∈gJ m.whose then vA s from' m.whose m.row else s)]) (λ_u hinv=>?_) (λtl2=>?_));have _:=hinv;refine ac J2 (ae (P2 ?_));refine CZ GQ (p3 V r (if from'∈gJ m.whose then vA s from' m.whose m.row else s)) ID λvR=>?_
 exact au (WK [0] (bG rfl rfl));refine sr λ_ J3=>FA 1 bk aQ ?_
 refine LU 0 Y3 (ct m rfl) ?_;refine CR Io (qw m.whose) ID λvR HR hR=>?_
 obtain⟨_,rfl,rfl⟩:=hR;revert vR;intro uw;refine PS ?_;refine CF MO (rQ uw (gJ m.whose) from' (Ja m.whose)) ID (G0 (l:=(gJ m.whose)) 0 rfl rfl) ?_;refine ao ?_ ?_<;>intro h12
 have hm:cH m.whose=true:=by
  unfold gJ at h12;split at h12
  · assumption
  · cases h12
 have hm2:0≤m.whose∧m.whose<5:=of_decide_eq_true hm;have hta:rW s m.whose=s.told[m.whose.toNat]'(by omega):=by rw[rW,dif_pos hm]
 have hla:kx s m.whose=s.last[m.whose.toNat]'(by omega):=by rw[kx,dif_pos hm]
 have hf:0≤from'∧from'<5:=by
  rw[gJ,if_pos hm]at h12;simp only[cA,List.not_mem_nil,or_false]at h12;omega
 refine nx J3 (CY (aa λ_ J4=>fC (α:=Unit) (λ_u=>True) (λ_u=>[(0,(.pointer (some ⟨r,0,none⟩))),(1,(.iface V.T V.ov)),(2,(.int .i64 (from'))),(7,(.pointer (some ⟨b7,0,none⟩)))]) (λ_u=>[cQ V r (mB s m.whose m.row),am b7 (ints m.flat) 178]) (λ_u hinv=>?_) (λtl4=>?_)));have _:=hinv;refine ac J4 (D1 1 bp ?_);refine PD 0 ?_;refine FD 1 1 bk aQ ?_;refine LR 2 Y3 (ct m rfl) ?_;refine PD 3 ?_;refine FD 4 1943 bo fu ?_;refine IY 5 (1943+(m.whose).toNat) ky aQ ?_;refine PD 7 ?_;refine ta 8 rfl (zx (r:=(dq from')) rfl rfl rfl (by omega) rfl) ?_;refine PD 10 ?_;refine FD 11 1943 bo fu ?_;refine AL 6 ?_;refine LG 0 Y3 (.int .i64 ((((mB s m.whose m.row).told)[(m.whose).toNat]'(by omega)))) ?_ (hc:=by exact λa_=>(Rv ((mB s m.whose m.row).rep a_) ((m.whose).toNat) (by omega) (by omega) (kZ (((mB s m.whose m.row).rep a_).told) (by omega))));refine EN (ta 9 rfl (KX (r:=(js .i64 (s.told[m.whose.toNat]'(by omega)) (dq from'))) rfl rfl rfl rfl) ?_);refine IY 12 (1943+(m.whose).toNat) ky aQ ?_;refine AL 13 ?_;refine SK 0 aQ (λ_=>c8 _) ?_ (hc:=by exact λa_=>(RepT.st_told ((mB s m.whose m.row).rep a_) ((m.whose).toNat) (by omega) (by omega) (zJ (((mB s m.whose m.row).rep a_).told) (by omega) _)));refine EN (DN ?_)
 exact aF
  SB
  (λ_ q=>by
   rw[if_pos h12,show vA s from' m.whose m.row= {mB s m.whose m.row with told:=s.told.set m.whose.toNat (js .i64 (s.told[m.whose.toNat]'(by omega)) (dq from')) (by omega)}by rw[vA,C3,dif_pos hm,hta]]
   exact ak [0] rfl q)
  (tl2 (():Unit) trivial)
 refine aa λ_ J5=>DC bp (BL 1) (c9 2 rfl rfl) ?_
 refine PD 0 ?_;refine FD 1 1 bk aQ ?_;refine LR 2 Y3 (ct m rfl) ?_;refine PD 3 ?_;refine FD 4 1943 bo fu ?_;refine IY 5 (1943+(m.whose).toNat) ky aQ ?_;refine ta 6 rfl (dy (v:=(.int .i64 ((s.told[(m.whose).toNat]'(by omega))))) rfl Y3 rfl rfl (λ_ h=>h.2.2.1) (λa_=>(Rv (s.rep a_) ((m.whose).toNat) (by omega) (by omega) (kZ ((s.rep a_).told) (by omega))))) ?_;refine PD 7 ?_;refine iK ?_ ?_<;>intro h20;refine PD 8 ?_;refine NT 9 ?_;refine NT 10 ?_;refine NT 11 ?_;refine NT 12 ?_;refine NT 13 ?_;refine NT 14 ?_;refine NT 15 ?_;refine NT 16 ?_;refine NT 17 ?_;refine NT 18 ?_;refine NT 19 ?_;refine NT 20 ?_;refine PD 21 ?_;refine DN (ac J5 (CY (D1 1 bp ?_)));refine PD 0 ?_;refine FD 1 1 bk aQ ?_;refine LR 2 Y3 (ct m rfl) ?_;refine FD 3 2 bk bg ?_;refine ta 4 rfl (aO (vs:=ints m.row.flat) rfl dV rfl bg rfl (λ_ h=>h.2.1) (ah m.row) (mW m 0 rfl (by decide) (whole (ah m.row)))) ?_;refine PD 5 ?_;refine FD 6 1948 bo uM ?_;refine IY 7 (1948+((m.whose).toNat)*174) I1 bg ?_;refine AL 8 ?_;refine iw (vs:=ints m.row.flat) (i:=2) (ab rfl) rfl rfl rfl rfl rfl (by rw[(ah m.row)];exact bg) (bF _) rfl rfl (λ_=>LC (c8 _) (ah _)) (λa_=>(RepT.wr_last_ (s.rep a_) (((m.whose).toNat)*174) (by omega) (by have h1:=(ah m.row);omega) (vz dL ((s.rep a_).last) (i:=(m.whose).toNat) 0 (by omega) (by omega) (by have h1:=(ah m.row);omega) (cy ((ah (((s.rep a_).last)[(m.whose).toNat]'(by omega))).trans (ah m.row).symm))))) (EN (DN ?_))
 exact aF
  SB
  (λ_ q=>by
   rw[show mB s m.whose m.row= {s with last:=s.last.set m.whose.toNat m.row (by omega)}by rw[mB,if_pos (.inl (hta.trans h20)),C3,dif_pos hm]]
   exact ak [2,1] rfl q)
  (tl4 (():Unit) trivial)
 refine PD 8 ?_;refine FD 9 2 bk bg ?_;refine FD 10 2 dV aQ ?_;refine LX 11 Y3 (.int .i64 (m.row.version)) ?_ (hc:=by exact MsgT.pt_row m 0 rfl (by decide) (ce m.row rfl));refine PD 12 ?_;refine FD 13 1 bk aQ ?_;refine LR 14 Y3 (ct m rfl) ?_;refine PD 15 ?_;refine FD 16 1948 bo uM ?_;refine IY 17 (1948+((m.whose).toNat)*174) I1 bg ?_;refine tb 18 rfl (bc (r:=1948+((m.whose).toNat)*174) rfl dV rfl aQ rfl rfl) ?_;refine tb 19 rfl (dy (v:=(.int .i64 ((s.last[(m.whose).toNat]'(by omega)).version))) rfl Y3 rfl rfl (λ_ h=>h.2.2.1) (λa_=>(RepT.pt_last (s.rep a_) (((m.whose).toNat)*174) (by omega) (by omega) (oX dL ((s.rep a_).last) (i:=(m.whose).toNat) 0 (by omega) (by omega) (by decide) (ce _ rfl))))) ?_;refine PD 20 ?_;refine iK ?_ ?_<;>intro h33;refine PD 21 ?_;refine DN (ac J5 (CY (D1 1 bp ?_)));refine PD 0 ?_;refine FD 1 1 bk aQ ?_;refine LR 2 Y3 (ct m rfl) ?_;refine FD 3 2 bk bg ?_;refine ta 4 rfl (aO (vs:=ints m.row.flat) rfl dV rfl bg rfl (λ_ h=>h.2.1) (ah m.row) (mW m 0 rfl (by decide) (whole (ah m.row)))) ?_;refine PD 5 ?_;refine FD 6 1948 bo uM ?_;refine IY 7 (1948+((m.whose).toNat)*174) I1 bg ?_;refine AL 8 ?_
 refine iw (vs:=ints m.row.flat) (i:=2) (ab rfl) rfl rfl rfl rfl rfl (by rw[(ah m.row)];exact bg) (bF _) rfl rfl (λ_=>LC (c8 _) (ah _)) (λa_=>(RepT.wr_last_ (s.rep a_) (((m.whose).toNat)*174) (by omega) (by have h1:=(ah m.row);omega) (vz dL ((s.rep a_).last) (i:=(m.whose).toNat) 0 (by omega) (by omega) (by have h1:=(ah m.row);omega) (cy ((ah (((s.rep a_).last)[(m.whose).toNat]'(by omega))).trans (ah m.row).symm))))) (EN (DN ?_))
 exact aF
  SB
  (λ_ q=>by
   rw[show mB s m.whose m.row= {s with last:=s.last.set m.whose.toNat m.row (by omega)}by rw[mB,if_pos (.inr (by rw[hla];omega)),C3,dif_pos hm]]
   exact ak [2,1] rfl q)
  (tl4 (():Unit) trivial)
 refine PD 21 ?_;refine DN (ac J5 (CN (aU ?_)))
 exact aF
  SB
  (λ_ q=>by
   rw[show mB s m.whose m.row= {s with last:=s.last}by rw[mB,if_neg (by rw[hta,hla];omega)]]
   exact ak [2,1] rfl q)
  (tl4 (():Unit) trivial)
 refine nx J3 (CN (aU ?_))
 exact aF
  SB
  (λ_ q=>by
   rw[if_neg h12]
   exact ak [2] rfl q)
  (tl2 (():Unit) trivial)
abbrev TK{δ:Type}(V:Env δ)(r f:Nat)(s:MS δ)(from':Int)(m:MsgT)(s':MS δ):Prop:=Leg.Does Tryz.prog f #[.pointer (some ⟨r,0,none⟩), .iface V.T V.ov, .int .i64 from', .agg (ints m.flat).toArray] (λ_=>True) [cQ V r s] (dB (λ_ H=>H=[cQ V r s']))
theorem pG{δ:Type}(V:Env δ)(r:Nat)(s s':MS δ)(from':Int)(m:MsgT)[OkMg m](h0:m.kind=0→TK V r 143 s from' m s')(h1:m.kind=1→TK V r 144 s from' m s')(h2:m.kind=2→AN s m.whose m.row=s')(h7:m.kind=7→DT 145 #[.pointer (some ⟨r,0,none⟩), .iface V.T V.ov, .agg (ints m.view.flat).toArray] T0 [cQ V r s] (dB (λv H=>(∃b,v= .bool b)∧H=[cQ V r s'])))(h8:m.kind=8→TK V r 146 s from' m s')(h9:m.kind=9→TK V r 147 s from' m s')(hv:m.kind=3∨m.kind=4∨m.kind=5∨m.kind=6→TK V r 148 s from' m s')(hn:m.kind≠0∧m.kind≠1∧m.kind≠2∧m.kind≠7∧m.kind≠8∧m.kind≠9∧m.kind≠3∧m.kind≠4∧m.kind≠5∧m.kind≠6→s=s'):
 DT 105 #[(.pointer (some ⟨r,0,none⟩)),(.iface V.T V.ov),(.int .i64 (from')),(.agg (ints m.flat).toArray)] T0 [cQ V r s] (dB (λ_ H=>H=[cQ V r s'])):=by
 refine BD 65 Tryz.func105 rfl rfl rfl λw0 F hF=>sr λ_ J1=>XY (ints m.flat) λb7=>?_
 refine nx J1 (sr λ_ J2=>FA 0 bk aQ ?_);refine LU 0 Y3 (fi m rfl) ?_;refine nx J2 (aq (sr λ_ J3=>PS ?_));refine ao ?_ ?_<;>intro h11;refine PS ?_;refine nx J3 (CY (ae (P3 ?_)));refine LW 0 bk cj aJ ?_;refine CZ Pc ((h0 h11)) (SM [1]) λvR=>?_
 exact au (ag (WK [0] (bG rfl rfl)));refine PS ?_;refine nx J3 (CN (sr λ_ J4=>PS ?_));refine ao ?_ ?_<;>intro h18;refine PS ?_;refine nx J4 (CY (ae (P3 ?_)));refine LW 0 bk cj aJ ?_;refine CZ Pb ((h1 h18)) (SM [1]) λvR=>?_
 exact au (ag (WK [0] (bG rfl rfl)));refine PS ?_;refine nx J4 (CN (sr λ_ J5=>PS ?_));refine ao ?_ ?_<;>intro h25;refine PS ?_;refine nx J5 (CY (D1 0 bp ?_));refine PD 0 ?_;refine PD 1 ?_;refine FD 2 1068 bo xg ?_;refine FD 3 1 bk aQ ?_;refine LR 4 Y3 (ct m rfl) ?_;refine FD 5 2 bk bg ?_;refine ta 6 rfl (aO (vs:=ints m.row.flat) rfl dV rfl bg rfl (λ_ h=>h.2.1) (ah m.row) (mW m 0 rfl (by decide) (whole (ah m.row)))) ?_;refine AL 7 ?_;refine CE L0 (Leg.Does.hid (λa_=>lK r 1068 123 _ (ii (s.rep a_)) s.book m.whose m.row (Ew inferInstance))) (SM [1]) ?_;refine EN (DN (ag (WK [0] (bG rfl ?_))));exact congrArg (λq=>[cQ V r q]) (h2 h25);refine PS ?_;refine nx J5 (CN (sr λ_ J6=>PS ?_));refine ao ?_ ?_<;>intro h35;refine PS ?_;refine nx J6 (CY (ae (P2 ?_)));refine FA 185 bk bm ?_;refine LV 0 eX bm an MsgT.sp_view (y:=m.view) ?_;refine CR JV ((h7 h35)) (SM [1]) λvR HR hR=>?_
 obtain⟨_,rfl⟩:=hR;exact au (ag (WK [0] (bG rfl rfl)));refine PS ?_;refine nx J6 (CN (sr λ_ J7=>PS ?_));refine ao ?_ ?_<;>intro h42;refine PS ?_;refine nx J7 (CY (ae (P3 ?_)));refine LW 0 bk cj aJ ?_;refine CZ Pa ((h8 h42)) (SM [1]) λvR=>?_
 exact au (ag (WK [0] (bG rfl rfl)));refine PS ?_;refine nx J7 (CN (sr λ_ J8=>PS ?_));refine ao ?_ ?_<;>intro h49;refine PS ?_;refine nx J8 (CY (ae (P3 ?_)));refine LW 0 bk cj aJ ?_;refine CZ O9 ((h9 h49)) (SM [1]) λvR=>?_
 exact au (ag (WK [0] (bG rfl rfl)));refine PS ?_;refine nx J8 (CN (aa λ_ J9=>sr λ_ J10=>P2 ?_));refine ao ?_ ?_<;>intro h55;refine nx J10 (CY (qx J9 (CY (ae (P3 ?_)))));refine LW 0 bk cj aJ ?_;refine CZ GM ((hv (by omega))) (SM [1]) λvR=>?_
 exact au (ag (WK [0] (bG rfl rfl)));refine nx J10 (CN (sr λ_ J11=>P2 ?_));refine ao ?_ ?_<;>intro h55;refine nx J11 (CY (qx J9 (CY (ae (P3 ?_)))));refine LW 0 bk cj aJ ?_;refine CZ GM ((hv (by omega))) (SM [1]) λvR=>?_
 exact au (ag (WK [0] (bG rfl rfl)));refine nx J11 (CN (sr λ_ J12=>P2 ?_));refine ao ?_ ?_<;>intro h55;refine nx J12 (CY (qx J9 (CY (ae (P3 ?_)))));refine LW 0 bk cj aJ ?_;refine CZ GM ((hv (by omega))) (SM [1]) λvR=>?_
 exact au (ag (WK [0] (bG rfl rfl)));refine nx J12 (CN (ae (PS ?_)));refine ao ?_ ?_<;>intro h59;refine PS ?_;refine nx J9 (CY (ae (P3 ?_)));refine LW 0 bk cj aJ ?_;refine CZ GM ((hv (by omega))) (SM [1]) λvR=>?_
 exact au (ag (WK [0] (bG rfl rfl)));refine PS ?_;refine nx J9 (CN (aU (ag (WK [1] (bG rfl ?_)))));exact congrArg (λq=>[cQ V r q]) (hn ⟨h11,h18,h25,h35,h42,h49,by omega,by omega,by omega,by omega⟩)
theorem EZ{δ:Type}{V:Env δ}{r:Nat}{s s':MS δ}{from':Int}{m:MsgT}[OkMg m](hk:m.kind=9)(h:TK V r 147 s from' m s'):TK V r 105 s from' m s':=pG V r s s' from' m (λe=>by omega) (λe=>by omega) (λe=>by omega) (λe=>by omega) (λe=>by omega) (λ_=>h) (λe=>by omega) (λe=>by omega)
theorem E3{δ:Type}{V:Env δ}{r:Nat}{s s':MS δ}{from':Int}{m:MsgT}[OkMg m](hk:m.kind=8)(h:TK V r 146 s from' m s'):TK V r 105 s from' m s':=pG V r s s' from' m (λe=>by omega) (λe=>by omega) (λe=>by omega) (λe=>by omega) (λ_=>h) (λe=>by omega) (λe=>by omega) (λe=>by omega)
theorem pF{δ:Type}{V:Env δ}{r:Nat}{s s':MS δ}{from':Int}{m:MsgT}[OkMg m](hk:m.kind=3∨m.kind=4∨m.kind=5∨m.kind=6)(h:TK V r 148 s from' m s'):TK V r 105 s from' m s':=pG V r s s' from' m (λe=>by omega) (λe=>by omega) (λe=>by omega) (λe=>by omega) (λe=>by omega) (λe=>by omega) (λ_=>h) (λe=>by omega)
theorem xu{δ:Type}(V:Env δ)(r:Nat)(s:MS δ)(w:Int)(y:RowT)[OkR V.toDk s][OkRow y]:TK V r 105 s s.id (fZ w y) (e8 V.toDk s s.id (fZ w y)):=EZ rfl (o8 V r s s.id (fZ w y))
theorem qF{δ:Type}(V:Env δ)(r:Nat)(s:MS δ)(s':MS δ)(from':Int)(m:MsgT)[OkR V.toDk s'][OkMg m](hl:DT 145 #[.pointer (some ⟨r,0,none⟩), .iface V.T V.ov, .agg (ints m.view.flat).toArray] T0 [cQ V r s] (dB (λv H=>(∃b,v= .bool b)∧H=[cQ V r s']))):
 DT 146 #[(.pointer (some ⟨r,0,none⟩)),(.iface V.T V.ov),(.int .i64 (from')),(.agg (ints m.flat).toArray)] T0 [cQ V r s] (dB (λ_ H=>H=[cQ V r (eR V.toDk s' from' m.whose)])):=by
 refine BD 64 Tryz.func146 rfl rfl rfl λw0 F hF=>sr λ_ J1=>XY (ints m.flat) λb7=>?_
 refine nx J1 (sr λ_ J2=>P2 ?_);refine FA 185 bk bm ?_;refine LV 0 eX bm an MsgT.sp_view (y:=m.view) ?_;refine CR JV (hl) (SM [1]) λvR HR hR=>?_
 obtain⟨_,rfl⟩:=hR;refine nx J2 (aa λ_ J3=>aa λ_ J4=>DC bp (c9 0 rfl rfl) (BL 1) ?_);refine PD 0 ?_;refine PD 1 ?_;refine FD 2 2 bo bm ?_;refine ta 3 rfl (gD (vs:=ints s'.view.flat) rfl eX rfl bm rfl (λ_ h=>h.2.1) (an s'.view) (λa_=>(gA (s'.rep a_) 0 rfl (by decide) (whole (an ((s'.rep a_).view)))))) ?_;refine FD 4 1 bk aQ ?_;refine LR 5 Y3 (ct m rfl) ?_;refine AL 6 ?_;refine CE L1 (ry s'.view m.whose OkVw.rng) ID ?_;refine EN (PD 7 ?_);refine PD 8 ?_;refine PD 9 ?_;refine oc ?_ ?_<;>intro h24;refine PD 10 ?_;refine PD 11 ?_;refine DN (ac J4 (sr λ_ J5=>PS ?_));refine PS ?_;refine P4 ?_;refine ao ?_ ?_<;>intro h30;refine PS ?_;refine nx J5 (CY (aj (af (WK [0] (dW rfl ?_)))));exact MQ (by rw[eR,if_pos (λh=>h30 (by rw[h];rfl))]);refine PS ?_;refine nx J5 (CN (qx J3 (aa λ_ J6=>aa λ_ J7=>D1 1 bp ?_)));refine PD 0 ?_;refine PD 1 ?_;refine FD 2 183 bo o9 ?_;refine FD 3 1 bk aQ ?_;refine LR 4 Y3 (ct m rfl) ?_;refine AL 5 ?_;refine CE NE (Leg.Does.hid (λa_=>nV r 183 123 _ (el (s'.rep a_)) s'.mirror m.whose)) ID ?_;refine bf ?_ ?_<;>intro h37;refine EN (PD 6 ?_);refine DN (ac J7 (CN (qx J6 (D1 1 bp ?_))));refine PD 0 ?_;refine PD 1 ?_;refine PD 2 ?_;refine FD 3 1 bk aQ ?_;refine LR 4 Y3 (ct m rfl) ?_;refine PD 5 ?_;refine PD 6 ?_;refine FD 7 183 bo o9 ?_;refine FD 8 1 bk aQ ?_;refine LR 9 Y3 (ct m rfl) ?_;refine AL 10 ?_;refine CE JP (Leg.Does.hid (λa_=>mz r 183 123 _ (el (s'.rep a_)) s'.mirror m.whose)) ID ?_
 refine EN (ta 11 rfl (lY MsgT.zero (MsgT.mk 9 m.whose (cb s'.mirror m.whose) 0 0 BallotT.zero BallotT.zero ChangeT.zero ViewT.zero) [(0,[Value.int .i64 9]),(1,[Value.int .i64 m.whose]),(2,ints (cb s'.mirror m.whose).flat)] bk bB (g:=MsgT.sg)) ?_);refine AL 12 ?_;refine CZ jP (gL V r s' from' (fZ m.whose (cb s'.mirror m.whose)) (λs=>e8 V.toDk s s.id (fZ m.whose (cb s.mirror m.whose))) (λ_=>xu V r s' m.whose _)) ID λvR=>?_
 refine EN (DN (WK [0] (bG rfl ?_)));exact MQ (by rw[eR,if_neg (λh=>h (vf h24 (by omega))),if_pos h37]);refine EN (PD 6 ?_);refine DN (ac J7 (CY (aa λ_ J8=>sr λ_ J9=>PS ?_)));refine FA 1 bk aQ ?_;refine LU 1 Y3 (ct m rfl) ?_;refine tp (lY RecT.zero (RecT.mk 2 m.whose RowT.zero 0 BallotT.zero ChangeT.zero ViewT.zero) [(0,[Value.int .i64 2]),(1,[Value.int .i64 m.whose])] jD fD (g:=RecT.sg)) ?_;refine CE xT (l6 V r s' (gS m.whose)) ID ?_;refine PS ?_;refine ao ?_ ?_<;>intro h44;refine nx J9 (CY (aj (af (af (WK [0] (dW rfl ?_))))));exact MQ (by rw[eR,if_neg (λh=>h (vf h24 (by omega))),if_neg (by rw[h37];decide),if_pos h44]);refine nx J9 (CN (qx J8 (D1 1 bp ?_)));refine PD 0 ?_;refine PD 1 ?_;refine FD 2 183 bo o9 ?_;refine FD 3 1 bk aQ ?_;refine LR 4 Y3 (ct m rfl) ?_;refine AL 5 ?_;refine CE M1 (Leg.Does.hid (λa_=>tP r 183 123 _ (el ((dw V.toDk s' (gS m.whose)).rep a_)) (dw V.toDk s' (gS m.whose)).mirror m.whose)) ID ?_;refine EN (DN (ac J6 (D1 1 bp ?_)));refine PD 0 ?_;refine PD 1 ?_;refine PD 2 ?_;refine FD 3 1 bk aQ ?_;refine LR 4 Y3 (ct m rfl) ?_;refine PD 5 ?_;refine PD 6 ?_;refine FD 7 183 bo o9 ?_;refine FD 8 1 bk aQ ?_;refine LR 9 Y3 (ct m rfl) ?_;refine AL 10 ?_;refine CE JP (Leg.Does.hid (λa_=>mz r 183 123 _ (el ((jY (dw V.toDk s' (gS m.whose)) m.whose).rep a_)) (jY (dw V.toDk s' (gS m.whose)) m.whose).mirror m.whose)) ID ?_
 refine EN (ta 11 rfl (lY MsgT.zero (MsgT.mk 9 m.whose (cb (jY (dw V.toDk s' (gS m.whose)) m.whose).mirror m.whose) 0 0 BallotT.zero BallotT.zero ChangeT.zero ViewT.zero) [(0,[Value.int .i64 9]),(1,[Value.int .i64 m.whose]),(2,ints (cb (jY (dw V.toDk s' (gS m.whose)) m.whose).mirror m.whose).flat)] bk bB (g:=MsgT.sg)) ?_);refine AL 12 ?_;refine CZ jP (gL V r (jY (dw V.toDk s' (gS m.whose)) m.whose) from' (fZ m.whose (cb (jY (dw V.toDk s' (gS m.whose)) m.whose).mirror m.whose)) (λs=>e8 V.toDk s s.id (fZ m.whose (cb s.mirror m.whose))) (λ_=>xu V r (jY (dw V.toDk s' (gS m.whose)) m.whose) m.whose _)) ID λvR=>?_
 refine EN (DN (WK [0] (bG rfl ?_)));exact MQ (by rw[eR,if_neg (λh=>h (vf h24 (by omega))),if_neg (by rw[h37];decide),if_neg h44]);refine PD 10 ?_;refine PD 11 ?_;refine DN (ac J4 (sr λ_ J10=>PS ?_));refine PS ?_;refine PS ?_
 iterate 3 refine UT ?_
 refine PS ?_;refine nx J10 (CY (aj (af (WK [0] (dW rfl ?_)))));exact MQ (by rw[eR,if_pos (λh=>by rw[h]at h24;cases h24)])
section
variable {δ:Type} {V:Env δ} {r:Nat} {s:MS δ} {H:List HP} {h:Hl}
theorem GR(q:bH (cQ V r s::H) h): ∃vo,bH (wS V r s vo::H) h:=by
 obtain⟨a,q1⟩:=fT q;exact⟨a.vo,br (p:=λa':Nat×Value=>[am r (RepT.cells (s.rep ⟨a'.1,a.vo,a'.2⟩)) 123,V.lg a'.1 s.e,own a'.2 s.replies.length (ints (s.replies.flatMap ReplyT.flat)) 37 3,V.E s.e s.o]) (a.lg,a.rs) (Ju (aD [3,0,0,0,0] rfl q1))⟩
theorem Dt(q:bH (wS V r s (.pointer none)::H) h):bH (cQ V r {s with vote:=none}::H) h:=by
 obtain⟨a,q1⟩:=fT q;have q2:bH (Gr (.pointer none) none::([am r (RepT.cells (s.rep ⟨a.1, .pointer none,a.2⟩)) 123,V.lg a.1 s.e,own a.2 s.replies.length (ints (s.replies.flatMap ReplyT.flat)) 37 3,V.E s.e s.o]++H)) h:=⟨em,h,Ez h,(rP h).symm,rfl,q1⟩;exact br (p:=λa:Adr=>[am r (RepT.cells ({s with vote:=none}.rep a)) 123,V.lg a.lg {s with vote:=none}.e,own a.rs {s with vote:=none}.replies.length (ints ({s with vote:=none}.replies.flatMap ReplyT.flat)) 37 3,Gr a.vo {s with vote:=none}.vote,V.E {s with vote:=none}.e {s with vote:=none}.o]) ⟨a.1, .pointer none,a.2⟩ (aD [1,1,1,0,0] rfl q2)
theorem tO(hv:s.vote=none)(q:bH (cQ V r s::H) h):bH (wS V r s (.pointer none)::H) h:=by
 obtain⟨a,q1⟩:=fT q;have q2:=aD [3,0,0,0,0] rfl q1;obtain⟨h1,h2,d,rfl,e,q3⟩:=q2;rw[hv]at e;have e':a.vo= .pointer none:=e;obtain⟨lg,vo,rs⟩:=a;obtain rfl:=e';rw[oA d];exact mo _ (br (p:=λa':Nat×Value=>[am r (RepT.cells (s.rep ⟨a'.1, .pointer none,a'.2⟩)) 123,V.lg a'.1 s.e,own a'.2 s.replies.length (ints (s.replies.flatMap ReplyT.flat)) 37 3,V.E s.e s.o]) (lg,rs) q3) d.symm
theorem nU{vt:VoteT}(hv:s.vote=some vt)(q:bH (cQ V r s::H) h): ∃vb,bH (wS V r s (.pointer (some ⟨vb,0,none⟩))::am vb (VoteT.cells vt) 227::H) h:=by
 obtain⟨a,q1⟩:=fT q;have q2:=aD [3,0,0,0,0] rfl q1;obtain⟨h1,h2,d,rfl,e,q3⟩:=q2;rw[hv]at e;obtain⟨vb,e',e⟩:=e;obtain⟨lg,vo,rs⟩:=a;have e2:vo= .pointer (some ⟨vb,0,none⟩):=e';obtain rfl:=e2;refine⟨vb,eG (List.Perm.swap _ _ _) ?_⟩;exact⟨h1,h2,d,rfl,e,br (p:=λa':Nat×Value=>[am r (RepT.cells (s.rep ⟨a'.1, .pointer (some ⟨vb,0,none⟩),a'.2⟩)) 123,V.lg a'.1 s.e,own a'.2 s.replies.length (ints (s.replies.flatMap ReplyT.flat)) 37 3,V.E s.e s.o]) (lg,rs) q3⟩
theorem pj{vt:VoteT}{vb:Nat}(q:bH (wS V r s (.pointer (some ⟨vb,0,none⟩))::am vb (VoteT.cells vt) 227::H) h):bH (cQ V r {s with vote:=some vt}::H) h:=by
 obtain⟨a,q1⟩:=fT q;have q2:bH ([am r (RepT.cells (s.rep ⟨a.1, .pointer (some ⟨vb,0,none⟩),a.2⟩)) 123,V.lg a.1 s.e,own a.2 s.replies.length (ints (s.replies.flatMap ReplyT.flat)) 37 3,V.E s.e s.o]++(Gr (.pointer (some ⟨vb,0,none⟩)) (some vt)::H)) h:=Hw (λ_ e=>⟨vb,rfl,e⟩) q1;exact br (p:=λa:Adr=>[am r (RepT.cells ({s with vote:=some vt}.rep a)) 123,V.lg a.lg {s with vote:=some vt}.e,own a.rs {s with vote:=some vt}.replies.length (ints ({s with vote:=some vt}.replies.flatMap ReplyT.flat)) 37 3,Gr a.vo {s with vote:=some vt}.vote,V.E {s with vote:=some vt}.e {s with vote:=some vt}.o]) ⟨a.1, .pointer (some ⟨vb,0,none⟩),a.2⟩ (aD [0,0,0,1,0] rfl q2)
theorem pm{vt:VoteT}{vb:Nat}(hv:s.vote=some vt)(q:bH (wS V r s (.pointer (some ⟨vb,0,none⟩))::am vb (VoteT.cells vt) 227::H) h):bH (cQ V r s::H) h:=by
 have q2:=pj q
 rwa [show({s with vote:=some vt}:MS δ)=s by cases s;simp_all]at q2
end
theorem DU{δ:Type}(V:Env δ)(r:Nat)(s:MS δ)(v:ViewT):
 DT 93 #[(.pointer (some ⟨r,0,none⟩)),(.agg (ints v.flat).toArray)] T0 [cQ V r s] (dB (λ_ H=>H=[cQ V r (lG s v)])):=by
 refine BD 20 Tryz.func93 rfl rfl rfl λw0 F hF=>sr λ_ J1=>XY (ints v.flat) λb3=>?_
 refine nx J1 (sr λ_ J2=>PS ?_);refine LW 0 eX bm an ?_;refine PS ?_;refine FA 2 bo bm ?_;refine iw (vs:=ints v.flat) (i:=1) (ab rfl) rfl rfl rfl rfl rfl (by rw[(an v)];exact bm) (bF _) rfl rfl (λ_=>LC (c8 _) (an _)) (λa_=>(Q8 (s.rep a_) 0 rfl (by have h1:=(an v);omega) (cy ((an ((s.rep a_).view)).trans (an v).symm)))) (nx J2 (sr λ_ J3=>PS ?_));refine FA 0 eX aQ ?_;refine LU 0 Y3 (aZ v rfl) ?_;refine tp (lY AccT.zero (AccT.mk v.epoch BallotT.zero BallotT.zero ChangeT.zero) [(0,[Value.int .i64 v.epoch])] jB pC (g:=AccT.sg)) ?_;refine PS ?_;refine FA 1058 bo dM ?_;refine iw (vs:=ints (AccT.mk v.epoch BallotT.zero BallotT.zero ChangeT.zero).flat) (i:=1) (ab rfl) rfl rfl rfl rfl rfl (by rw[(bi (AccT.mk v.epoch BallotT.zero BallotT.zero ChangeT.zero))];exact dM) (bF _) rfl rfl (λ_=>LC (c8 _) (bi _)) (λa_=>(li ((MS.setView s v).rep a_) 0 rfl (by have h1:=(bi (AccT.mk v.epoch BallotT.zero BallotT.zero ChangeT.zero));omega) (cy ((bi (((MS.setView s v).rep a_).acc)).trans (bi (AccT.mk v.epoch BallotT.zero BallotT.zero ChangeT.zero)).symm)))) (nx J3 (sr λ_ J4=>cJ (λ_ q=>aD [1] rfl q) (Nh (H':=λvo:Value=>wS V r (MS.setAcc (MS.setView s v) (AccT.mk v.epoch BallotT.zero BallotT.zero ChangeT.zero)) vo::[am b3 (ints v.flat) 44]) (λ_ q=>GR q) (λvo=>P2 ?_))));refine FA 1067 bo jL ?_;refine SK 0 jL (λ_=>c8 _) ?_ (hc:=by exact λa_=>(Q9 _ rfl _))
 refine nx J4 (ae (cJ (H':=cQ V r {{s with view:=v}with acc:= {AccT.zero with epoch:=v.epoch},vote:=none}::[am b3 (ints v.flat) 44]) (λ_ q=>Dt (aD [0] rfl q)) (P2 ?_)));refine FA 1066 bo aQ ?_;refine SK 0 aQ (λ_=>c8 _) ?_ (hc:=by exact λa_=>(mH _ rfl _));exact au (WK [0] (bG rfl rfl))
theorem vX{δ:Type}(V:Env δ)(r:Nat)(s:MS δ)(v:ViewT)[OkR V.toDk s][OkVw v](hcl: ¬v.epoch≤s.view.epoch→DT 108 #[.pointer (some ⟨r,0,none⟩), .iface V.T V.ov] T0 [cQ V r (lG (dw V.toDk s (j7 v)) v)] (dB (λ_ H=>H=[cQ V r (p4 V.toDk (lG (dw V.toDk s (j7 v)) v))]))):
 DT 145 #[(.pointer (some ⟨r,0,none⟩)),(.iface V.T V.ov),(.agg (ints v.flat).toArray)] T0 [cQ V r s] (RI (.bool (ru V.toDk s v)) [cQ V r (gN V.toDk s v)]):=by
 refine BD 28 Tryz.func145 rfl rfl rfl λw0 F hF=>sr λ_ J1=>XY (ints v.flat) λb5=>?_
 refine PS ?_;refine nx J1 (aa λ_ J2=>aa λ_ J3=>DC bp (BL 0) (c9 1 rfl rfl) ?_);refine FD 0 0 eX aQ ?_;refine LR 1 Y3 (aZ v rfl) ?_;refine PD 2 ?_;refine PD 3 ?_;refine FD 4 2 bo bm ?_;refine FD 5 2 eX aQ ?_;refine ta 6 rfl (dy (v:=(.int .i64 (s.view.epoch))) rfl Y3 rfl rfl (λ_ h=>h.2.2.1) (λa_=>(cn (s.rep a_) 0 rfl (by decide) (aZ _ rfl)))) ?_;refine PD 7 ?_;refine iK ?_ ?_<;>intro h14;refine PD 8 ?_;refine NT 9 ?_;refine NT 10 ?_;refine NT 11 ?_;refine NT 12 ?_;refine NT 13 ?_;refine PD 14 ?_;refine DN (ac J3 (CY (sr λ_ J4=>PS ?_)));refine nx J4 (aj (af (WK [1] (aw rfl rfl ?_))));have e:gN V.toDk s v=s:=by rw[gN,if_pos h14]
 exact⟨by rw[ru,decide_eq_false (by omega),ik],congrArg (λq=>[cQ V r q]) e.symm⟩;refine PD 8 ?_;refine PD 9 ?_;refine LY 10 eX bm an ?_;refine tb 11 rfl (lY RecT.zero (RecT.mk 5 0 RowT.zero 0 BallotT.zero ChangeT.zero v) [(0,[Value.int .i64 5]),(6,ints v.flat)] jD fD (g:=RecT.sg)) ?_;refine AL 12 ?_;refine CE xT (l6 V r s (j7 v)) (SM [1]) ?_;refine EN (PD 13 ?_);refine iK ?_ ?_<;>intro h20;refine PD 14 ?_;refine DN (ac J3 (CY (sr λ_ J5=>PS ?_)));refine nx J5 (aj (af (WK [0] (aw rfl rfl ?_))));have e:gN V.toDk s v=(dw V.toDk s (j7 v)):=by rw[gN,if_neg h14,if_pos h20]
 exact⟨by rw[ru,decide_eq_true (by omega),decide_eq_false h20,n8],congrArg (λq=>[cQ V r q]) e.symm⟩;refine PD 14 ?_;refine DN (ac J3 (CN (qx J2 (sr λ_ J6=>PS ?_))));refine LW 1 eX bm an ?_;refine CZ Nz (DU V r (dw V.toDk s (j7 v)) v) ID λvR=>?_
 refine nx J6 (sr λ_ J7=>P2 ?_);refine CZ Kg ((hcl (by omega))) ID λvR=>?_
 refine nx J7 (sr λ_ J8=>PS ?_);refine nx J8 (aj (WK [0] (aw rfl rfl ?_)));have e:gN V.toDk s v=(p4 V.toDk (lG (dw V.toDk s (j7 v)) v)):=by rw[gN,if_neg h14,if_neg h20]
 exact⟨by rw[ru,decide_eq_true (by omega),decide_eq_true (by omega),n8],congrArg (λq=>[cQ V r q]) e.symm⟩
theorem DD{δ:Type}(V:Env δ)(r:Nat)(s:MS δ)(v:ViewT)[OkR V.toDk s][OkVw v](h:v.epoch≤s.view.epoch):DT 145 #[.pointer (some ⟨r,0,none⟩), .iface V.T V.ov, .agg (ints v.flat).toArray] T0 [cQ V r s] (dB (λq H=>(∃b,q= .bool b)∧H=[cQ V r s])):=
 (vX V r s v (λq=>absurd h q)).mono λe H hp=>by
  cases e with
  |returned q=>exact⟨⟨_,hp.1⟩,hp.2.trans (by rw[gN,if_pos h])⟩
  |panicked c=>exact hp.elim
  |outgrown=>exact hp.elim
theorem xv{δ:Type}(V:Env δ)(r:Nat)(s:MS δ)(i:Int)[OkR V.toDk s]:TK V r 105 s s.id (nf i s.view) (eR V.toDk s s.id i):=E3 rfl (qF V r s s s.id (nf i s.view) (DD V r s s.view (Int.le_refl _)))
theorem qY{δ:Type}(V:Env δ)(r:Nat)(s:MS δ)[OkR V.toDk s]:
 DT 108 #[(.pointer (some ⟨r,0,none⟩)),(.iface V.T V.ov)] T0 [cQ V r s] (dB (λ_ H=>H=[cQ V r (p4 V.toDk s)])):=by
 refine BD 39 Tryz.func108 rfl rfl rfl λw0 F hF=>sr λ_ J1=>PS ?_
 refine CR MY (Ax V r s) ID λvR HR hR=>?_
 obtain⟨_,rfl,rfl⟩:=hR;revert vR;intro ud;refine kO 0 rfl rfl (λhlud houd=>tp (ef rfl kM rfl hlud) ?_);refine PS ?_;refine nx J1 (aq ?_)
 refine bA (α:=(Nat)) (λk=>k≤(bE s).length) (λk=>[(0,(.pointer (some ⟨r,0,none⟩))),(1,(.iface V.T V.ov)),(9,ud),(10,(.int .i64 ((((bE s).length:Nat):Int)))),(11,(.int .i64 (((k:Nat):Int))))]) (λk=>[own ud ((bE s).length) (ints (bE s)) 3 1,cQ V r (gz V.toDk ((bE s).take k) s)]) (λk=>(bE s).length-k) 0
  (aN _) SB
  (λ_ s=>s) (λk hinv=>?_)
 obtain hk:=hinv;have hcl:OkR V.toDk (gz V.toDk ((bE s).take k) s):=vl _ _ inferInstance;refine sr λ_ J2=>PS ?_
 refine ao ?_ ?_<;>intro h12;refine nx J2 (aa λ_ J3=>CY (qx J3 (aa λ_ J4=>aq (sr λ_ J5=>?_))));have hmm1:(bE s).getD k 0∈bE s:=by rw[List.getD_eq_getElem?_getD,List.getElem?_eq_getElem (by omega)];exact ey _
 have hm1:cH ((bE s).getD k 0)=true:=(ub hmm1).1;have hn1:0≤(bE s).getD k 0∧(bE s).getD k 0<5:=of_decide_eq_true hm1;refine j5 0 rfl rfl (by omega) (λge1 ce1 he1 _=>tp (bU (r:=k) he1 rfl kM aQ rfl rfl (by omega) (by omega) (by omega)) ?_);refine tp (dr (v:=(.int .i64 (((bE s).getD k 0)))) rfl Y3 rfl rfl (gC 0 rfl he1 rfl) (yh (by omega))) ?_;refine PS ?_;refine nx J5 (sr λ_ J6=>PS ?_);refine CR Io (oU ((bE s).getD k 0) hm1) ID λvR HR hR=>?_
 obtain⟨_,rfl,rfl⟩:=hR;revert vR;intro uw;refine kO 0 rfl rfl (λhluw _=>j5 0 rfl rfl (by omega) (λgw capw hvw hcapw=>tp (ef rfl kM rfl hluw) ?_));refine PS ?_;refine nx J6 (aq (sW 2 (sr λ_ J7=>PS ?_)));refine nx J7 (aa λ_ J8=>CY (qx J8 (aa λ_ J9=>fC (α:=Unit) (λ_u=>True) (λ_u=>[(0,(.pointer (some ⟨r,0,none⟩))),(1,(.iface V.T V.ov)),(5,(.int .i64 (((bE s).getD k 0)))),(9,ud),(10,(.int .i64 ((((bE s).length:Nat):Int)))),(11,(.int .i64 (((k:Nat):Int)))),(16,uw),(17,(.int .i64 2)),(18,(.int .i64 0)),(19,(.bool true))]) (λ_u=>[cQ V r (gG V.toDk (gz V.toDk ((bE s).take k) s) ((bE s).getD k 0) ((((bE s).getD k 0)+1)%5)),own uw (2) ([.int .i64 ((((bE s).getD k 0)+1)%5), .int .i64 ((((bE s).getD k 0)+2)%5)]) 3 1,own ud ((bE s).length) (ints (bE s)) 3 1]) (λ_u hinv=>?_) (λtl9=>?_))));have _:=hinv;refine ac J9 (ae (tp (cL (r:=1) rfl rfl rfl (by decide)) ?_));refine PS ?_;refine au (eL (sr λ_ J10=>PS ?_))
 refine nx J10 (aa λ_ J11=>CY (qx J11 (aa λ_ J12=>fC (α:=Unit) (λ_u=>True) (λ_u=>[(0,(.pointer (some ⟨r,0,none⟩))),(1,(.iface V.T V.ov)),(5,(.int .i64 (((bE s).getD k 0)))),(9,ud),(10,(.int .i64 ((((bE s).length:Nat):Int)))),(11,(.int .i64 (((k:Nat):Int)))),(16,uw),(17,(.int .i64 2)),(18,(.int .i64 1)),(19,(.bool true)),(37,(.int .i64 1))]) (λ_u=>[cQ V r (gG V.toDk (gG V.toDk (gz V.toDk ((bE s).take k) s) ((bE s).getD k 0) ((((bE s).getD k 0)+1)%5)) ((bE s).getD k 0) ((((bE s).getD k 0)+2)%5)),own uw (2) ([.int .i64 ((((bE s).getD k 0)+1)%5), .int .i64 ((((bE s).getD k 0)+2)%5)]) 3 1,own ud ((bE s).length) (ints (bE s)) 3 1]) (λ_u hinv=>?_) (λtl12=>?_))));have _:=hinv;refine ac J12 (ae (tp (cL (r:=2) rfl rfl rfl (by decide)) ?_));refine PS ?_;refine au (eL (sr λ_ J13=>PS ?_));refine nx J13 (aa λ_ J14=>CN (aX (aA (aA (bu (ag (ac J4 (ae (AD ?_)))))))));refine PS ?_;refine au ?_
 exact aK ((k+1):(Nat)) (by omega) (by show(bE s).length- (k+1)< (bE s).length-k;omega)
  SB
  (λ_ q=>by
   rw[Ee V.toDk (by omega) s]
   exact ak [2,0] rfl q)
 refine aq (sr λ_ J15=>tp (bU (r:=1) hvw rfl kM aQ rfl rfl (by omega) (by omega) rfl) ?_);refine tp (dr (v:=(.int .i64 (((((bE s).getD k 0)+2)%5)))) rfl Y3 rfl rfl (gC 1 rfl hvw rfl) rfl) ?_;refine PS ?_;refine nx J15 (sr λ_ J16=>P3 ?_);refine CE GK (om V r (gG V.toDk (gz V.toDk ((bE s).take k) s) ((bE s).getD k 0) ((((bE s).getD k 0)+1)%5)) ((bE s).getD k 0) ((((bE s).getD k 0)+2)%5) hm1 (by omega)) ID ?_;refine bf ?_ ?_<;>intro h25;refine PS ?_;refine nx J16 (CN (aU (ag ?_)))
 exact aF
  SB
  (λ_ q=>by
   rw[gG,if_pos h25]
   exact ak [0,0,0] rfl q)
  (tl12 (():Unit) trivial)
 refine PS ?_;refine nx J16 (CY (ae ?_))
 iterate 6 refine PS ?_
 refine FA 2 bo bm ?_;refine LZ 0 eX bm an ((gG V.toDk (gz V.toDk ((bE s).take k) s) ((bE s).getD k 0) ((((bE s).getD k 0)+1)%5)).view) ?_ (hc:=by exact λ_=>c7 _);refine tp (lY MsgT.zero (MsgT.mk 8 ((bE s).getD k 0) RowT.zero 0 0 BallotT.zero BallotT.zero ChangeT.zero ((gG V.toDk (gz V.toDk ((bE s).take k) s) ((bE s).getD k 0) ((((bE s).getD k 0)+1)%5)).view)) [(0,[Value.int .i64 8]),(1,[Value.int .i64 ((bE s).getD k 0)]),(8,ints ((gG V.toDk (gz V.toDk ((bE s).take k) s) ((bE s).getD k 0) ((((bE s).getD k 0)+1)%5)).view).flat)] bk bB (g:=MsgT.sg)) ?_;refine CZ jP (gL V r (gG V.toDk (gz V.toDk ((bE s).take k) s) ((bE s).getD k 0) ((((bE s).getD k 0)+1)%5)) ((((bE s).getD k 0)+2)%5) (nf ((bE s).getD k 0) (gG V.toDk (gz V.toDk ((bE s).take k) s) ((bE s).getD k 0) ((((bE s).getD k 0)+1)%5)).view) (λs_=>eR V.toDk s_ s_.id ((bE s).getD k 0)) (λ_=>xv V r (gG V.toDk (gz V.toDk ((bE s).take k) s) ((bE s).getD k 0) ((((bE s).getD k 0)+1)%5)) ((bE s).getD k 0))) ID λvR=>?_
 refine au (ag ?_)
 exact aF
  SB
  (λ_ q=>by
   rw[gG,if_neg (by rw[h25];decide)]
   exact ak [0,0,0] rfl q)
  (tl12 (():Unit) trivial)
 refine aq (sr λ_ J17=>tp (bU (r:=0) hvw rfl kM aQ rfl rfl (by omega) (by omega) rfl) ?_);refine tp (dr (v:=(.int .i64 (((((bE s).getD k 0)+1)%5)))) rfl Y3 rfl rfl (gC 0 rfl hvw rfl) rfl) ?_;refine PS ?_;refine nx J17 (sr λ_ J18=>P3 ?_);refine CE GK (om V r (gz V.toDk ((bE s).take k) s) ((bE s).getD k 0) ((((bE s).getD k 0)+1)%5) hm1 (by omega)) (SM [2]) ?_;refine bf ?_ ?_<;>intro h25;refine PS ?_;refine nx J18 (CN (aU (ag ?_)))
 exact aF
  SB
  (λ_ q=>by
   rw[gG,if_pos h25]
   exact ak [0,0,0] rfl q)
  (tl9 (():Unit) trivial)
 refine PS ?_;refine nx J18 (CY (ae ?_))
 iterate 6 refine PS ?_
 refine FA 2 bo bm ?_;refine LZ 0 eX bm an ((gz V.toDk ((bE s).take k) s).view) ?_ (hc:=by exact λ_=>c7 _);refine tp (lY MsgT.zero (MsgT.mk 8 ((bE s).getD k 0) RowT.zero 0 0 BallotT.zero BallotT.zero ChangeT.zero ((gz V.toDk ((bE s).take k) s).view)) [(0,[Value.int .i64 8]),(1,[Value.int .i64 ((bE s).getD k 0)]),(8,ints ((gz V.toDk ((bE s).take k) s).view).flat)] bk bB (g:=MsgT.sg)) ?_;refine CZ jP (gL V r (gz V.toDk ((bE s).take k) s) ((((bE s).getD k 0)+1)%5) (nf ((bE s).getD k 0) (gz V.toDk ((bE s).take k) s).view) (λs_=>eR V.toDk s_ s_.id ((bE s).getD k 0)) (λ_=>xv V r (gz V.toDk ((bE s).take k) s) ((bE s).getD k 0))) ID λvR=>?_
 refine au (ag ?_)
 exact aF
  SB
  (λ_ q=>by
   rw[gG,if_neg (by rw[h25];decide)]
   exact ak [0,0,0] rfl q)
  (tl9 (():Unit) trivial)
 refine nx J2 (aa λ_ J19=>CN (aX (aA (aA (bu (WK [1] (bG rfl ?_)))))));obtain rfl:k=(bE s).length:=by omega
 exact MQ (by rw[iY];rfl)
theorem vY{δ:Type}(V:Env δ)(r:Nat)(s:MS δ)(v:ViewT)[OkR V.toDk s][OkVw v]:DT 145 #[.pointer (some ⟨r,0,none⟩), .iface V.T V.ov, .agg (ints v.flat).toArray] T0 [cQ V r s] (RI (.bool (ru V.toDk s v)) [cQ V r (gN V.toDk s v)]):=vX V r s v λ_=>qY V r _
theorem vZ{δ:Type}(V:Env δ)(r:Nat)(s:MS δ)(v:ViewT)[OkR V.toDk s][OkVw v]:DT 145 #[.pointer (some ⟨r,0,none⟩), .iface V.T V.ov, .agg (ints v.flat).toArray] T0 [cQ V r s] (dB (λq H=>(∃b,q= .bool b)∧H=[cQ V r (gN V.toDk s v)])):=
 (vY V r s v).mono λe H hp=>by
  cases e with
  |returned q=>exact⟨⟨_,hp.1⟩,hp.2⟩
  |panicked c=>exact hp.elim
  |outgrown=>exact hp.elim
theorem xc{δ:Type}(V:Env δ)(r:Nat)(s:MS δ)(from':Int)(m:MsgT)[OkR V.toDk s][OkMg m]:TK V r 146 s from' m (jm V.toDk s from' m):=qF V r s _ from' m (vZ V r s m.view)
theorem Nt:Tryz.prog.eqGuardType Tryz.prog.depth 88=false:=by kernel_rfl
theorem Nr:Tryz.prog.keyTypeAt 6 88=true:=by kernel_rfl
theorem N0:oB Tryz.prog 6 88=some 2:=by kernel_rfl
theorem IM:(match Tryz.prog.underlying 88 with|some (.struct _)|some (.array _ _)=>true|_=>false)=true:=by kernel_rfl
theorem IU:Tryz.prog.cellsOf 88=2:=by kernel_rfl
theorem Ox:Tryz.prog.eqGuardType Tryz.prog.depth 118=false:=by kernel_rfl
theorem Ow:Tryz.prog.keyTypeAt 6 118=true:=by kernel_rfl
theorem Pw:oB Tryz.prog 6 118=some 8:=by kernel_rfl
theorem Nc:(match Tryz.prog.underlying 118 with|some (.struct _)|some (.array _ _)=>true|_=>false)=true:=by kernel_rfl
theorem Nd:Tryz.prog.cellsOf 118=8:=by kernel_rfl
theorem Ai(a b:BallotT):
 DT 181 #[(.agg (ints a.flat).toArray),(.agg (ints b.flat).toArray)] T0 [] (RI (.bool (Dy a b)) []):=by
 refine BD 20 Tryz.func181 rfl rfl rfl λw0 F hF=>sr λ_ J1=>XY (ints a.flat) λb2=>?_
 refine XY (ints b.flat) λb3=>?_
 refine PS ?_;refine nx J1 (aa λ_ J2=>sr λ_ J3=>FA 0 kW aQ ?_);refine LU 1 Y3 (fF a rfl) ?_;refine FA 0 kW aQ ?_;refine LU 0 Y3 (fF b rfl) ?_;refine PS ?_;refine ao ?_ ?_<;>intro h9;refine nx J3 (CY (sr λ_ J4=>FA 0 kW aQ ?_));refine LU 1 Y3 (fF a rfl) ?_;refine FA 0 kW aQ ?_;refine LU 0 Y3 (fF b rfl) ?_;refine P2 ?_;refine nx J4 (aj (af (WK [] (aw rfl rfl ?_))));exact⟨congrArg Value.bool (by simp[Dy, *]),rfl⟩;refine nx J3 (CN (qx J2 (sr λ_ J5=>FA 1 kW aQ ?_)));refine LU 1 Y3 (BallotT.at_who a rfl) ?_;refine FA 1 kW aQ ?_;refine LU 0 Y3 (BallotT.at_who b rfl) ?_;refine P2 ?_;refine nx J5 (aj (WK [] (aw rfl rfl ?_)));exact⟨congrArg Value.bool (by simp[Dy, *]),rfl⟩
theorem tJ(a:AccT)(ep:Int)(b:BallotT):
 DT 175 #[(.agg (ints a.flat).toArray),(.int .i64 (ep)),(.agg (ints b.flat).toArray)] T0 [] (RI (.bool (AO a ep b)) []):=by
 refine BD 22 Tryz.func175 rfl rfl rfl λw0 F hF=>sr λ_ J1=>XY (ints a.flat) λb3=>?_
 refine XY (ints b.flat) λb5=>?_
 refine PS ?_;refine nx J1 (sr λ_ J2=>PS ?_);refine FA 0 jB aQ ?_;refine LU 1 Y3 (AccT.at_epoch a rfl) ?_;refine PS ?_;refine ao ?_ ?_<;>intro h10;refine PS ?_
 iterate 3 refine UT ?_
 refine P2 ?_
 iterate 4 refine UT ?_
 refine P2 ?_;refine nx J2 (aj (WK [] (aw rfl rfl ?_)));exact⟨congrArg Value.bool (by simp[AO, *]),rfl⟩;refine PS ?_;refine FA 0 kW aQ ?_;refine LU 0 Y3 (fF b rfl) ?_;refine PS ?_;refine ao ?_ ?_<;>intro h14;refine P2 ?_
 iterate 4 refine UT ?_
 refine P2 ?_;refine nx J2 (aj (WK [] (aw rfl rfl ?_)));exact⟨congrArg Value.bool (by simp[AO, *]),rfl⟩;refine P2 ?_;refine LW 0 kW cI ap ?_;refine FA 1 jB cI ?_;refine LV 1 kW cI ap AccT.sp_vow (y:=a.vow) ?_;refine CE MK (Ai b a.vow) ID ?_;refine P2 ?_;refine nx J2 (aj (WK [] (aw rfl rfl ?_)));exact⟨congrArg Value.bool (by simp[AO, *]),rfl⟩
theorem oF(a:AccT)(ep:Int)(b:BallotT):
 DT 153 #[(.agg (ints a.flat).toArray),(.int .i64 (ep)),(.agg (ints b.flat).toArray)] T0 [] (RI (.tuple #[.agg (ints (bY a ep b).1.flat).toArray, .bool (bY a ep b).2]) []):=by
 refine BD 16 Tryz.func153 rfl rfl rfl λw0 F hF=>sr λ_ J1=>XY (ints a.flat) λb3=>?_
 refine XY (ints b.flat) λb5=>?_
 refine XZ wV (ints AccT.zero.flat) λb6=>?_
 refine PS ?_;refine nx J1 (aa λ_ J2=>sr λ_ J3=>LW 2 jB dM bi ?_);refine PS ?_;refine LW 1 kW cI ap ?_;refine CE MN (tJ a ep b) ID ?_;refine bf ?_ ?_<;>intro h11;refine nx J3 (CY (sr λ_ J4=>LW 2 jB dM bi ?_));refine SW 0 dM bi ?_;refine PS ?_;refine nx J4 (aj (af (RT 0 [] jB dM (bi _) ?_)));exact⟨by rw[bY];simp_all,rfl⟩;refine nx J3 (CN (qx J2 (sr λ_ J5=>LW 1 kW cI ap ?_)));refine FA 1 jB cI ?_;refine SP 2 cI ap bi AccT.wp_vow ?_;refine nx J5 (sr λ_ J6=>LW 2 jB dM bi ?_);refine SW 0 dM bi ?_;refine PS ?_;refine nx J6 (aj (RT 0 [] jB dM (bi _) ?_));exact⟨by rw[bY];simp_all,rfl⟩
theorem wn(a:AccT)(ep:Int)(b:BallotT)(ch:ChangeT):
 DT 180 #[(.agg (ints a.flat).toArray),(.int .i64 (ep)),(.agg (ints b.flat).toArray),(.agg (ints ch.flat).toArray)] T0 [] (RI (.tuple #[.agg (ints (g9 a ep b ch).1.flat).toArray, .bool (g9 a ep b ch).2]) []):=by
 refine BD 22 Tryz.func180 rfl rfl rfl λw0 F hF=>sr λ_ J1=>XY (ints a.flat) λb4=>?_
 refine XY (ints b.flat) λb6=>?_
 refine XY (ints ch.flat) λb7=>?_
 refine XZ wV (ints AccT.zero.flat) λb8=>?_
 refine PS ?_;refine nx J1 (aa λ_ J2=>sr λ_ J3=>LW 3 jB dM bi ?_);refine PS ?_;refine LW 2 kW cI ap ?_;refine CE MN (tJ a ep b) ID ?_;refine bf ?_ ?_<;>intro h13;refine nx J3 (CY (sr λ_ J4=>LW 3 jB dM bi ?_));refine SW 0 dM bi ?_;refine PS ?_;refine nx J4 (aj (af (RT 0 [] jB dM (bi _) ?_)));exact⟨by rw[g9];simp_all,rfl⟩;refine nx J3 (CN (qx J2 (aa λ_ J5=>D2 2 1 bp ?_)));refine LY 0 kW cI ap ?_;refine LY 1 kW cI ap ?_;refine LY 2 n9 gg aM ?_;refine FD 3 1 jB cI ?_;refine AL 4 ?_;refine SP 3 cI ap bi AccT.wp_vow ?_;refine EN (FD 5 3 jB cI ?_);refine AL 6 ?_;refine SP 3 cI ap bi AccT.wp_had ?_;refine EN (FD 7 5 jB gg ?_);refine AL 8 ?_;refine SP 3 gg aM bi AccT.wp_change ?_;refine EN (DN (ac J5 (sr λ_ J6=>LW 3 jB dM bi ?_)));refine SW 0 dM bi ?_;refine PS ?_;refine nx J6 (aj (RT 0 [] jB dM (bi _) ?_));exact⟨by rw[g9];simp_all,rfl⟩
theorem vS(b:Int):
 DT 184 #[(.int .i64 (b))] T0 [] (dB (λr' H=>∃u,r'=u∧H=[own u (E5 b).length (ints (E5 b)) 3 1])):=by
 refine BD 19 Tryz.func184 rfl rfl rfl λw0 F hF=>sr λ_ J1=>PS ?_
 refine nx J1 (sr λ_ J2=>PS ?_);refine nx J2 (aa λ_ J3=>sr λ_ J4=>PS ?_);refine nx J4 (aq ?_)
 refine bA (α:=(Nat)×(Value)) (λ⟨k,u⟩=>k≤5∧u.oneCell'=true) (λ⟨k,u⟩=>[(0,(.int .i64 (b))),(2,(.slice none 0 0)),(3,u),(5,(.int .i64 (((k:Nat):Int))))]) (λ⟨k,u⟩=>[own u ((lV b k).length) (ints (lV b k)) 3 1]) (λ⟨k,u⟩=>5-k) (0,(.slice none 0 0))
  ⟨aN _,rfl⟩ SB
  (λ_ s=>iq 3 1 (ak [] rfl s)) (λ⟨k,u⟩ hinv=>?_)
 obtain⟨hk,hu⟩:=hinv;have hol:=uP b k;refine sr λ_ J5=>PS ?_
 refine ao ?_ ?_<;>intro h6;refine nx J5 (aa λ_ J6=>CY (qx J6 (aa λ_ J7=>aq (sr λ_ J8=>P2 ?_))));refine nx J8 (sr λ_ J9=>P2 ?_);refine tp (mI (r:=(b.fdiv (2^min ((k:Nat):Int).toNat IntKind.i64.bits))) rfl rfl rfl (by omega) rfl) ?_;refine tp (wF (r:=((b.fdiv (2^min ((k:Nat):Int).toNat IntKind.i64.bits))%2)) rfl rfl rfl (mask (k:=1) (by decide) _)) ?_;refine PS ?_;refine ao ?_ ?_<;>intro h12;refine nx J9 (CY (ae (P2 ?_)));refine aW (cells:=#[(.int .i64 (((k:Nat):Int)))]) (ab rfl) rfl rfl rfl kM sE rfl rfl rfl (by as_aux_lemma=>kernel_rfl) (λb15=>cS (k:=1) (news:=[(.int .i64 (((k:Nat):Int)))]) (nn':=(lV b k).length+1) (xs':=ints (lV b k)++[(.int .i64 (((k:Nat):Int)))]) (ab rfl) rfl rfl rfl kM sE rfl rfl rfl rfl rfl rfl (λ_ _=>kj rfl (RO 0) rfl) (by simp[Value.oneCell']) (by simp only[maxLen];omega) (by omega) (by simp) (by simp) (λv16 ov16=>PS ?_));refine au (ag (ac J7 (ae (AD ?_))));refine PS ?_;refine au ?_
 exact aK ((k+1,v16):(Nat)×(Value)) ⟨by omega,ov16⟩ (by show 5- (k+1)<5-k;omega)
  SB
  (λ_ q=>by
   show bH [own v16 (lV b (k+1)).length (ints (lV b (k+1))) 3 1] _;rw[show lV b (k+1)=lV b k++[((k:Nat):Int)]by rw[xn,if_pos (by rw[IW,decide_eq_true (by assumption)])],ai,eJ]
   exact ak [1] rfl q)
 refine nx J9 (CN (aU (ag (ac J7 (ae (AD ?_))))));refine PS ?_;refine au ?_
 exact aK ((k+1,u):(Nat)×(Value)) ⟨by omega,hu⟩ (by show 5- (k+1)<5-k;omega)
  SB
  (λ_ q=>by
   show bH [own u (lV b (k+1)).length (ints (lV b (k+1))) 3 1] _;rw[show lV b (k+1)=lV b k by rw[xn,if_neg (by rw[IW,decide_eq_false (by assumption)];decide),aR]]
   exact ak [0] rfl q)
 refine nx J5 (aa λ_ J10=>CN (aX (aA (aA (bu (ac J3 (sr λ_ J11=>P2 ?_)))))));refine nx J11 (aj (WK [0] (aw rfl rfl ?_)));obtain rfl:k=5:=by omega
 exact⟨u,rfl,rfl⟩
theorem Bx(part all:Int):
 DT 183 #[(.int .i64 (part)),(.int .i64 (all))] T0 [] (RI (.bool (M8 part all)) []):=by
 refine BD 15 Tryz.func183 rfl rfl rfl λw0 F hF=>sr λ_ J1=>PS ?_
 refine nx J1 (sr λ_ J2=>P2 ?_);refine tp (wF (r:=(uq .i64 part all)) rfl rfl rfl rfl) ?_;refine CR MJ (vS (uq .i64 part all)) ID λvR HR hR=>?_
 obtain⟨_,rfl,rfl⟩:=hR;revert vR;intro us1;refine kO 0 rfl rfl (λhlus1 _=>?_);have hzus1:=uP (uq .i64 part all) 5;change (E5 (uq .i64 part all)).length≤5 at hzus1;refine tp (ef rfl kM rfl hlus1) ?_;refine tp (Mw (r:=(2* (((E5 (uq .i64 part all)).length:Nat):Int))) rfl rfl rfl (bX (by omega) (by omega))) ?_;refine PS ?_;refine CR MJ (vS all) ID λvR HR hR=>?_
 obtain⟨_,rfl,rfl⟩:=hR;revert vR;intro us2;refine kO 0 rfl rfl (λhlus2 _=>?_);have hzus2:=uP all 5;change (E5 all).length≤5 at hzus2;refine tp (ef rfl kM rfl hlus2) ?_;refine P2 ?_;exact nx J2 (aj (WK [] (aw rfl rfl ⟨rfl,rfl⟩)))
theorem jX(v:ViewT)(bits:Int):
 DT 182 #[(.agg (ints v.flat).toArray),(.int .i64 (bits))] T0 [] (RI (.bool (ib v bits)) []):=by
 refine BD 9 Tryz.func182 rfl rfl rfl λw0 F hF=>sr λ_ J1=>XY (ints v.flat) λb2=>?_
 refine PS ?_;refine nx J1 (sr λ_ J2=>PS ?_);refine FA 1 eX aQ ?_;refine LU 0 Y3 (mS v rfl) ?_;refine CE OS (Bx bits v.members) ID ?_;refine PS ?_;exact nx J2 (aj (WK [] (aw rfl rfl ⟨rfl,rfl⟩)))
theorem A0(v:ViewT)(b:BallotT)(ch:ChangeT):
 DT 154 #[(.agg (ints v.flat).toArray),(.agg (ints b.flat).toArray),(.agg (ints ch.flat).toArray)] T0 [] (dB (λr' H=>∃vb,r'= .pointer (some ⟨vb,0,none⟩)∧H=[am vb (VoteT.cells (kU v b ch)) 227])):=by
 refine BD 12 Tryz.func154 rfl rfl rfl λw0 F hF=>sr λ_ J1=>XY (ints v.flat) λb3=>?_
 refine XY (ints b.flat) λb4=>?_
 refine XY (ints ch.flat) λb5=>?_
 refine PS ?_;refine nx J1 (sr λ_ J2=>LW 2 eX bm an ?_);refine LW 1 kW cI ap ?_;refine LW 0 n9 gg aM ?_;refine tp (zz (cs:=VoteT.cells (VoteT.mk v b ch BallotT.zero 0 0 false)) (segs:=[ints ViewT.zero.flat,ints BallotT.zero.flat,ints ChangeT.zero.flat,ints BallotT.zero.flat,[Value.int .i64 0],[Value.int .i64 0],[Value.bool false]]) (res:=[ints v.flat,ints b.flat,ints ch.flat,ints BallotT.zero.flat,[Value.int .i64 0],[Value.int .i64 0],[Value.bool false]]) (parts:=[(0,ints v.flat),(1,ints b.flat),(2,ints ch.flat)]) rfl rfl ki (by kernel_rfl) (by kernel_rfl) rfl (fH rfl ((an v).trans (an ViewT.zero).symm) (fH rfl ((ap b).trans (ap BallotT.zero).symm) (fH rfl ((aM ch).trans (aM ChangeT.zero).symm) mq))) (fW (VoteT.mk v b ch BallotT.zero 0 0 false)).symm) ?_;refine XY (VoteT.cells (VoteT.mk v b ch BallotT.zero 0 0 false)) λb11=>?_
 refine PS ?_;exact nx J2 (aj (WK [0] (aw rfl rfl ⟨b11,rfl,rfl⟩)))
theorem bK(vb:Nat)(v:VoteT):
 DT 155 #[(.pointer (some ⟨vb,0,none⟩))] T0 [am vb (VoteT.cells v) 227] (RI (.agg (ints v.ballot.flat).toArray) [am vb (VoteT.cells v) 227]):=by
 refine BD 7 Tryz.func155 rfl rfl rfl λw0 F hF=>sr λ_ J1=>XZ Qe (ints BallotT.zero.flat) λb2=>?_
 refine nx J1 (sr λ_ J2=>P2 ?_);refine FA 7 ki cI ?_;refine LV 1 kW cI ap VoteT.sp_ballot (y:=v.ballot) ?_;refine SW 0 cI ap ?_;refine nx J2 (aj (RC 0 [1] kW cI (ap _) ?_));exact⟨rfl,rfl⟩
theorem du(vb:Nat)(v:VoteT):
 DT 111 #[(.pointer (some ⟨vb,0,none⟩))] T0 [am vb (VoteT.cells v) 227] (RI (.agg (ints v.change.flat).toArray) [am vb (VoteT.cells v) 227]):=by
 refine BD 7 Tryz.func111 rfl rfl rfl λw0 F hF=>sr λ_ J1=>XZ Qh (ints ChangeT.zero.flat) λb2=>?_
 refine nx J1 (sr λ_ J2=>P2 ?_);refine FA 9 ki gg ?_;refine LV 1 n9 gg aM VoteT.sp_change (y:=v.change) ?_;refine SW 0 gg aM ?_;refine nx J2 (aj (RC 0 [1] n9 gg (aM _) ?_));exact⟨rfl,rfl⟩
theorem oY(vb:Nat)(v:VoteT):
 DT 156 #[(.pointer (some ⟨vb,0,none⟩))] T0 [am vb (VoteT.cells v) 227] (RI (.bool v.putting) [am vb (VoteT.cells v) 227]):=by
 refine BD 7 Tryz.func156 rfl rfl rfl λw0 F hF=>sr λ_ J1=>PS ?_
 refine nx J1 (sr λ_ J2=>P2 ?_);refine FA 16 ki lP ?_;refine LU 0 Y4 (mR v rfl) ?_;refine PS ?_;exact nx J2 (aj (WK [0] (aw rfl rfl ⟨rfl,rfl⟩)))
theorem EO(vb:Nat)(v:VoteT)(who:Int)(b had:BallotT)(ch:ChangeT)(hb:WF b.flat)(hvb:WF v.ballot.flat):
 DT 172 #[(.pointer (some ⟨vb,0,none⟩)),(.int .i64 (who)),(.agg (ints b.flat).toArray),(.agg (ints had.flat).toArray),(.agg (ints ch.flat).toArray)] T0 [am vb (VoteT.cells v) 227] (RI (.bool (ff v who b had ch).2) [am vb (VoteT.cells (ff v who b had ch).1) 227]):=by
 refine BD 76 Tryz.func172 rfl rfl rfl λw0 F hF=>sr λ_ J1=>XY (ints b.flat) λb7=>?_
 refine XY (ints had.flat) λb8=>?_
 refine XY (ints ch.flat) λb9=>?_
 refine PS ?_;refine nx J1 (aa λ_ J2=>aa λ_ J3=>D2 3 2 bp ?_);refine PD 0 ?_;refine PD 1 ?_;refine FD 2 16 ki lP ?_;refine LR 3 Y4 (mR v rfl) ?_;refine oc ?_ ?_<;>intro h14;refine PD 4 ?_;refine NT 5 ?_;refine NT 6 ?_;refine NT 7 ?_;refine NT 8 ?_;refine NT 9 ?_;refine NT 10 ?_;refine PD 11 ?_;refine PD 12 ?_;refine NT 13 ?_;refine NT 14 ?_;refine NT 15 ?_;refine NT 16 ?_;refine NT 17 ?_;refine NT 18 ?_;refine NT 19 ?_;refine PD 20 ?_;refine DN (ac J3 (CY (sr λ_ J4=>PS ?_)));refine nx J4 (aj (af (WK [3] (aw rfl rfl ?_))));have e:ff v who b had ch=(v,false):=by rw[ff,h14,if_pos (by rfl)]
 exact⟨congrArg (λq:VoteT×Bool=>Value.bool q.2) e.symm,congrArg (λq:VoteT×Bool=>[am vb (VoteT.cells q.1) 227]) e.symm⟩;refine PD 4 ?_;refine LY 5 kW cI ap ?_;refine PD 6 ?_;refine PD 7 ?_;refine FD 8 7 ki cI ?_;refine tb 9 rfl (aO (vs:=ints v.ballot.flat) rfl kW rfl cI rfl (λ_ h=>h.2.1) (ap v.ballot) (Mu v 0 rfl (by decide) (whole (ap v.ballot)))) ?_;refine tb 10 rfl (EE (a:=b.flat) (b:=v.ballot.flat) (m:=6) (c:=2) Nt Nr rfl N0 (dA (ap b)) (dA (ap v.ballot)) ⟨gx IM IU (dA (ap b)),gx IM IU (dA (ap v.ballot))⟩ hb hvb rfl rfl rfl) ?_;refine iK ?_ ?_<;>intro h21;refine PD 11 ?_;refine PD 12 ?_;refine NT 13 ?_;refine NT 14 ?_;refine NT 15 ?_;refine NT 16 ?_;refine NT 17 ?_;refine NT 18 ?_;refine NT 19 ?_;refine PD 20 ?_;refine DN (ac J3 (CY (sr λ_ J5=>PS ?_)));refine nx J5 (aj (af (WK [3] (aw rfl rfl ?_))));have e:ff v who b had ch=(v,false):=by rw[ff,oK,decide_eq_false h21,if_pos (by rw[h14];rfl)]
 exact⟨congrArg (λq:VoteT×Bool=>Value.bool q.2) e.symm,congrArg (λq:VoteT×Bool=>[am vb (VoteT.cells q.1) 227]) e.symm⟩;refine PD 11 ?_;refine PD 12 ?_;refine PD 13 ?_;refine PD 14 ?_;refine FD 15 0 ki bm ?_;refine tb 16 rfl (aO (vs:=ints v.view.flat) rfl eX rfl bm rfl (λ_ h=>h.2.1) (an v.view) (Es v 0 rfl (by decide) (whole (an v.view)))) ?_;refine PD 17 ?_;refine AL 18 ?_;refine CE qR (dP v.view who) ID ?_;refine bf ?_ ?_<;>intro h29;have hw:0≤who∧who<5:=by unfold ju cH at h29;simp only[av,decide_eq_true_eq]at h29;exact h29.1
 refine EN (PD 19 ?_);refine PD 20 ?_;refine DN (ac J3 (CN (qx J2 (aa λ_ J6=>D0 bp ?_))));refine PD 0 ?_;refine PD 1 ?_;refine FD 2 14 ki aQ ?_;refine PD 4 ?_;refine ta 5 rfl (zx (r:=(dq who)) rfl rfl rfl (by omega) rfl) ?_;refine AL 3 ?_;refine LU 3 Y3 (mE v rfl) ?_;refine EN (ta 6 rfl (KX (r:=(js .i64 v.vowed (dq who))) rfl rfl rfl rfl) ?_);refine PD 7 ?_;refine FD 8 14 ki aQ ?_;refine AL 9 ?_;refine SS 3 aQ (oG _) (VoteT.set_vowed v rfl _) ?_;refine EN (DN (ac J6 (aa λ_ J7=>aa λ_ J8=>D2 1 3 bp ?_)));refine FD 0 0 kW aQ ?_;refine LR 1 Y3 (fF had rfl) ?_;refine PD 2 ?_;refine iK ?_ ?_<;>intro h43;refine PD 3 ?_;refine PD 4 ?_;refine PD 5 ?_;refine FD 6 12 ki cI ?_;refine tb 7 rfl (aO (vs:=ints v.best.flat) rfl kW rfl cI rfl (λ_ h=>h.2.2.1) (ap v.best) (VoteT.sub_best (VoteT.mk v.view v.ballot v.change v.best (js .i64 v.vowed (dq who)) v.took v.putting) 0 rfl (by decide) (whole (ap v.best)))) ?_;refine LY 8 kW cI ap ?_;refine AL 9 ?_;refine CE MK (Ai v.best had) ID ?_;refine bf ?_ ?_<;>intro h50;refine EN (PD 10 ?_);refine DN (ac J8 (CY (D2 1 0 bp ?_)));refine PD 0 ?_;refine PD 1 ?_;refine LY 2 kW cI ap ?_;refine LY 3 n9 gg aM ?_;refine PD 4 ?_;refine FD 5 12 ki cI ?_;refine AL 6 ?_;refine SP 3 cI ap oG VoteT.wp_best ?_;refine EN (PD 7 ?_);refine FD 8 9 ki gg ?_;refine AL 9 ?_;refine SP 3 gg aM oG VoteT.wp_change ?_
 refine EN (DN (ac J7 (aa λ_ J9=>fC (α:=Unit) (λ_=>True) (λ_u=>[(0,(.pointer (some ⟨vb,0,none⟩))),(10,(.bool false))]) (λ_u=>[am b9 (ints ch.flat) 28,am b8 (ints had.flat) 88,am b7 (ints b.flat) 88,am vb (VoteT.cells (VoteT.mk v.view v.ballot ch had (js .i64 v.vowed (dq who)) v.took (ib v.view (js .i64 v.vowed (dq who))))) 227]) (λ_u _=>?_) (λtl9=>?_))));refine ac J9 (sr λ_ J10=>P2 ?_);refine FA 16 ki lP ?_;refine LT 3 Y4 (.bool (ib v.view (js .i64 v.vowed (dq who)))) ?_ (hc:=by exact mR _ rfl);refine PS ?_;refine nx J10 (aj (WK [3] (aw rfl rfl ?_)));have e:ff v who b had ch=((VoteT.mk v.view v.ballot ch had (js .i64 v.vowed (dq who)) v.took (ib v.view (js .i64 v.vowed (dq who)))),ib v.view (js .i64 v.vowed (dq who))):=by rw[ff,oK,decide_eq_true (show b.flat=v.ballot.flat from Decidable.not_not.1 h21),h29,h14,if_neg (by decide),w7,decide_eq_true (show 0<had.round by omega),h50,if_pos (by decide)]
 exact⟨congrArg (λq:VoteT×Bool=>Value.bool q.2) e.symm,congrArg (λq:VoteT×Bool=>[am vb (VoteT.cells q.1) 227]) e.symm⟩;refine D0 bp ?_;refine PD 0 ?_;refine PD 1 ?_;refine PD 2 ?_;refine FD 3 0 ki bm ?_;refine PD 5 ?_;refine PD 6 ?_;refine FD 7 14 ki aQ ?_;refine cX [4,8] (by kernel_rfl) rfl (aH rfl ?_ ?_);refine LV 3 eX bm an qt (y:=v.view) ?_;refine EN (AL 8 ?_);refine LT 3 Y3 (.int .i64 ((js .i64 v.vowed (dq who)))) ?_ (hc:=by exact mE _ rfl);refine EN (AL 9 ?_);refine CE xS (jX v.view (js .i64 v.vowed (dq who))) ID ?_;refine EN (PD 10 ?_);refine FD 11 16 ki lP ?_;refine AL 12 ?_;refine SS 3 lP (oG _) (lX _ rfl _) ?_;refine EN (DN ?_)
 exact aF
  SB
  (λ_ s=>s)
  (tl9 (():Unit) trivial)
 refine aH rfl ?_ ?_;refine LT 3 Y3 (.int .i64 ((js .i64 v.vowed (dq who)))) ?_ (hc:=by exact mE _ rfl);refine EN (AL 4 ?_);refine LV 3 eX bm an qt (y:=v.view) ?_;refine EN (AL 9 ?_);refine CE xS (jX v.view (js .i64 v.vowed (dq who))) ID ?_;refine EN (PD 10 ?_);refine FD 11 16 ki lP ?_;refine AL 12 ?_;refine SS 3 lP (oG _) (lX _ rfl _) ?_;refine EN (DN ?_)
 exact aF
  SB
  (λ_ s=>s)
  (tl9 (():Unit) trivial)
 exact bM;refine EN (PD 10 ?_);refine DN (ac J8 (CN (qx J7 (aa λ_ J11=>fC (α:=Unit) (λ_=>True) (λ_u=>[(0,(.pointer (some ⟨vb,0,none⟩))),(10,(.bool false))]) (λ_u=>[am b9 (ints ch.flat) 28,am b8 (ints had.flat) 88,am b7 (ints b.flat) 88,am vb (VoteT.cells (VoteT.mk v.view v.ballot v.change v.best (js .i64 v.vowed (dq who)) v.took (ib v.view (js .i64 v.vowed (dq who))))) 227]) (λ_u _=>?_) (λtl11=>?_)))));refine ac J11 (sr λ_ J12=>P2 ?_);refine FA 16 ki lP ?_;refine LT 3 Y4 (.bool (ib v.view (js .i64 v.vowed (dq who)))) ?_ (hc:=by exact mR _ rfl);refine PS ?_;refine nx J12 (aj (WK [3] (aw rfl rfl ?_)));have e:ff v who b had ch=((VoteT.mk v.view v.ballot v.change v.best (js .i64 v.vowed (dq who)) v.took (ib v.view (js .i64 v.vowed (dq who)))),ib v.view (js .i64 v.vowed (dq who))):=by rw[ff,oK,decide_eq_true (show b.flat=v.ballot.flat from Decidable.not_not.1 h21),h29,h14,if_neg (by decide),w7,h50,mO,if_neg (by decide)]
 exact⟨congrArg (λq:VoteT×Bool=>Value.bool q.2) e.symm,congrArg (λq:VoteT×Bool=>[am vb (VoteT.cells q.1) 227]) e.symm⟩;refine D0 bp ?_;refine PD 0 ?_;refine PD 1 ?_;refine PD 2 ?_;refine FD 3 0 ki bm ?_;refine PD 5 ?_;refine PD 6 ?_;refine FD 7 14 ki aQ ?_;refine cX [4,8] (by kernel_rfl) rfl (aH rfl ?_ ?_);refine LV 3 eX bm an qt (y:=v.view) ?_;refine EN (AL 8 ?_);refine LT 3 Y3 (.int .i64 ((js .i64 v.vowed (dq who)))) ?_ (hc:=by exact mE _ rfl);refine EN (AL 9 ?_);refine CE xS (jX v.view (js .i64 v.vowed (dq who))) ID ?_;refine EN (PD 10 ?_);refine FD 11 16 ki lP ?_;refine AL 12 ?_;refine SS 3 lP (oG _) (lX _ rfl _) ?_;refine EN (DN ?_)
 exact aF
  SB
  (λ_ s=>s)
  (tl11 (():Unit) trivial)
 refine aH rfl ?_ ?_;refine LT 3 Y3 (.int .i64 ((js .i64 v.vowed (dq who)))) ?_ (hc:=by exact mE _ rfl);refine EN (AL 4 ?_);refine LV 3 eX bm an qt (y:=v.view) ?_;refine EN (AL 9 ?_);refine CE xS (jX v.view (js .i64 v.vowed (dq who))) ID ?_;refine EN (PD 10 ?_);refine FD 11 16 ki lP ?_;refine AL 12 ?_;refine SS 3 lP (oG _) (lX _ rfl _) ?_;refine EN (DN ?_)
 exact aF
  SB
  (λ_ s=>s)
  (tl11 (():Unit) trivial)
 exact bM;refine PD 3 ?_;refine NT 4 ?_;refine NT 5 ?_;refine NT 6 ?_;refine NT 7 ?_;refine NT 8 ?_;refine NT 9 ?_;refine PD 10 ?_;refine DN (ac J8 (CN (qx J7 (aa λ_ J13=>fC (α:=Unit) (λ_=>True) (λ_u=>[(0,(.pointer (some ⟨vb,0,none⟩))),(10,(.bool false))]) (λ_u=>[am b9 (ints ch.flat) 28,am b8 (ints had.flat) 88,am b7 (ints b.flat) 88,am vb (VoteT.cells (VoteT.mk v.view v.ballot v.change v.best (js .i64 v.vowed (dq who)) v.took (ib v.view (js .i64 v.vowed (dq who))))) 227]) (λ_u _=>?_) (λtl13=>?_)))));refine ac J13 (sr λ_ J14=>P2 ?_);refine FA 16 ki lP ?_;refine LT 3 Y4 (.bool (ib v.view (js .i64 v.vowed (dq who)))) ?_ (hc:=by exact mR _ rfl);refine PS ?_;refine nx J14 (aj (WK [3] (aw rfl rfl ?_)));have e:ff v who b had ch=((VoteT.mk v.view v.ballot v.change v.best (js .i64 v.vowed (dq who)) v.took (ib v.view (js .i64 v.vowed (dq who)))),ib v.view (js .i64 v.vowed (dq who))):=by rw[ff,oK,decide_eq_true (show b.flat=v.ballot.flat from Decidable.not_not.1 h21),h29,h14,if_neg (by decide),w7,decide_eq_false (show ¬0<had.round by omega),ik,if_neg (by decide)]
 exact⟨congrArg (λq:VoteT×Bool=>Value.bool q.2) e.symm,congrArg (λq:VoteT×Bool=>[am vb (VoteT.cells q.1) 227]) e.symm⟩;refine D0 bp ?_;refine PD 0 ?_;refine PD 1 ?_;refine PD 2 ?_;refine FD 3 0 ki bm ?_;refine PD 5 ?_;refine PD 6 ?_;refine FD 7 14 ki aQ ?_;refine cX [4,8] (by kernel_rfl) rfl (aH rfl ?_ ?_);refine LV 3 eX bm an qt (y:=v.view) ?_;refine EN (AL 8 ?_);refine LT 3 Y3 (.int .i64 ((js .i64 v.vowed (dq who)))) ?_ (hc:=by exact mE _ rfl);refine EN (AL 9 ?_);refine CE xS (jX v.view (js .i64 v.vowed (dq who))) ID ?_;refine EN (PD 10 ?_);refine FD 11 16 ki lP ?_;refine AL 12 ?_;refine SS 3 lP (oG _) (lX _ rfl _) ?_;refine EN (DN ?_)
 exact aF
  SB
  (λ_ s=>s)
  (tl13 (():Unit) trivial)
 refine aH rfl ?_ ?_;refine LT 3 Y3 (.int .i64 ((js .i64 v.vowed (dq who)))) ?_ (hc:=by exact mE _ rfl);refine EN (AL 4 ?_);refine LV 3 eX bm an qt (y:=v.view) ?_;refine EN (AL 9 ?_);refine CE xS (jX v.view (js .i64 v.vowed (dq who))) ID ?_;refine EN (PD 10 ?_);refine FD 11 16 ki lP ?_;refine AL 12 ?_;refine SS 3 lP (oG _) (lX _ rfl _) ?_;refine EN (DN ?_)
 exact aF
  SB
  (λ_ s=>s)
  (tl13 (():Unit) trivial)
 exact bM;refine EN (PD 19 ?_);refine PD 20 ?_;refine DN (ac J3 (CY (sr λ_ J15=>PS ?_)));refine nx J15 (aj (af (WK [3] (aw rfl rfl ?_))));have e:ff v who b had ch=(v,false):=by rw[ff,oK,h29,if_pos (by rw[h14,mO];rfl)]
 exact⟨congrArg (λq:VoteT×Bool=>Value.bool q.2) e.symm,congrArg (λq:VoteT×Bool=>[am vb (VoteT.cells q.1) 227]) e.symm⟩
theorem EY(vb:Nat)(v:VoteT)(who:Int)(b:BallotT)(hb:WF b.flat)(hvb:WF v.ballot.flat):
 DT 173 #[(.pointer (some ⟨vb,0,none⟩)),(.int .i64 (who)),(.agg (ints b.flat).toArray)] T0 [am vb (VoteT.cells v) 227] (RI (.bool (g8 v who b).2) [am vb (VoteT.cells (g8 v who b).1) 227]):=by
 refine BD 47 Tryz.func173 rfl rfl rfl λw0 F hF=>sr λ_ J1=>XY (ints b.flat) λb5=>?_
 refine PS ?_;refine nx J1 (aa λ_ J2=>aa λ_ J3=>D2 1 0 bp ?_);refine PD 0 ?_;refine PD 1 ?_;refine FD 2 16 ki lP ?_;refine LR 3 Y4 (mR v rfl) ?_;refine oc ?_ ?_<;>intro h10;refine PD 4 ?_;refine PD 5 ?_;refine LY 6 kW cI ap ?_;refine PD 7 ?_;refine PD 8 ?_;refine FD 9 7 ki cI ?_;refine tb 10 rfl (aO (vs:=ints v.ballot.flat) rfl kW rfl cI rfl (λ_ h=>h.2.1) (ap v.ballot) (Mu v 0 rfl (by decide) (whole (ap v.ballot)))) ?_;refine tb 11 rfl (EE (a:=b.flat) (b:=v.ballot.flat) (m:=6) (c:=2) Nt Nr rfl N0 (dA (ap b)) (dA (ap v.ballot)) ⟨gx IM IU (dA (ap b)),gx IM IU (dA (ap v.ballot))⟩ hb hvb rfl rfl rfl) ?_;refine iK ?_ ?_<;>intro h18;refine PD 12 ?_;refine PD 13 ?_;refine NT 14 ?_;refine NT 15 ?_;refine NT 16 ?_;refine NT 17 ?_;refine NT 18 ?_;refine NT 19 ?_;refine NT 20 ?_;refine PD 21 ?_;refine DN (ac J3 (CY (sr λ_ J4=>PS ?_)));refine nx J4 (aj (af (WK [1] (aw rfl rfl ?_))));have e:g8 v who b=(v,false):=by rw[g8,oK,decide_eq_false h18,if_pos (by rw[h10];rfl)]
 exact⟨congrArg (λq:VoteT×Bool=>Value.bool q.2) e.symm,congrArg (λq:VoteT×Bool=>[am vb (VoteT.cells q.1) 227]) e.symm⟩;refine PD 12 ?_;refine PD 13 ?_;refine PD 14 ?_;refine PD 15 ?_;refine FD 16 0 ki bm ?_;refine tb 17 rfl (aO (vs:=ints v.view.flat) rfl eX rfl bm rfl (λ_ h=>h.2.1) (an v.view) (Es v 0 rfl (by decide) (whole (an v.view)))) ?_;refine PD 18 ?_;refine AL 19 ?_;refine CE qR (dP v.view who) ID ?_;refine bf ?_ ?_<;>intro h26;have hw:0≤who∧who<5:=by unfold ju cH at h26;simp only[av,decide_eq_true_eq]at h26;exact h26.1
 refine EN (PD 20 ?_);refine PD 21 ?_;refine DN (ac J3 (CN (qx J2 (aa λ_ J5=>D0 bp ?_))));refine PD 0 ?_;refine PD 1 ?_;refine FD 2 15 ki aQ ?_;refine PD 4 ?_;refine ta 5 rfl (zx (r:=(dq who)) rfl rfl rfl (by omega) rfl) ?_;refine AL 3 ?_;refine LU 1 Y3 (VoteT.at_took v rfl) ?_;refine EN (ta 6 rfl (KX (r:=(js .i64 v.took (dq who))) rfl rfl rfl rfl) ?_);refine PD 7 ?_;refine FD 8 15 ki aQ ?_;refine AL 9 ?_;refine SS 1 aQ (oG _) (VoteT.set_took v rfl _) ?_;refine EN (DN (ac J5 (aa λ_ J6=>D1 1 bp ?_)));refine PD 0 ?_;refine PD 1 ?_;refine FD 2 0 ki bm ?_;refine ta 3 rfl (aO (vs:=ints v.view.flat) rfl eX rfl bm rfl (λ_ h=>h.2.1) (an v.view) (Es (VoteT.mk v.view v.ballot v.change v.best v.vowed (js .i64 v.took (dq who)) v.putting) 0 rfl (by decide) (whole (an v.view)))) ?_;refine PD 4 ?_;refine PD 5 ?_;refine FD 6 15 ki aQ ?_;refine LX 7 Y3 (.int .i64 ((js .i64 v.took (dq who)))) ?_ (hc:=by exact VoteT.at_took _ rfl);refine AL 8 ?_;refine CE xS (jX v.view (js .i64 v.took (dq who))) ID ?_;refine EN (PD 9 ?_);refine DN (ac J6 (aj (WK [1] (aw rfl rfl ?_))));have e:g8 v who b=((VoteT.mk v.view v.ballot v.change v.best v.vowed (js .i64 v.took (dq who)) v.putting),ib v.view (js .i64 v.took (dq who))):=by rw[g8,oK,decide_eq_true (show b.flat=v.ballot.flat from Decidable.not_not.1 h18),h26,h10,if_neg (by decide)]
 exact⟨congrArg (λq:VoteT×Bool=>Value.bool q.2) e.symm,congrArg (λq:VoteT×Bool=>[am vb (VoteT.cells q.1) 227]) e.symm⟩;refine EN (PD 20 ?_);refine PD 21 ?_;refine DN (ac J3 (CY (sr λ_ J7=>PS ?_)));refine nx J7 (aj (af (WK [1] (aw rfl rfl ?_))));have e:g8 v who b=(v,false):=by rw[g8,oK,h26,if_pos (by rw[h10,mO];rfl)]
 exact⟨congrArg (λq:VoteT×Bool=>Value.bool q.2) e.symm,congrArg (λq:VoteT×Bool=>[am vb (VoteT.cells q.1) 227]) e.symm⟩;refine PD 4 ?_;refine PD 5 ?_;refine NT 6 ?_;refine NT 7 ?_;refine NT 8 ?_;refine NT 9 ?_;refine NT 10 ?_;refine NT 11 ?_;refine PD 12 ?_;refine PD 13 ?_;refine NT 14 ?_;refine NT 15 ?_;refine NT 16 ?_;refine NT 17 ?_;refine NT 18 ?_;refine NT 19 ?_;refine NT 20 ?_;refine PD 21 ?_;refine DN (ac J3 (CY (sr λ_ J8=>PS ?_)));refine nx J8 (aj (af (WK [1] (aw rfl rfl ?_))));have e:g8 v who b=(v,false):=by rw[g8,h10,if_pos (by rfl)]
 exact⟨congrArg (λq:VoteT×Bool=>Value.bool q.2) e.symm,congrArg (λq:VoteT×Bool=>[am vb (VoteT.cells q.1) 227]) e.symm⟩
theorem B3{δ:Type}(V:Env δ)(r vb:Nat)(s:MS δ)(vt:VoteT)(hv:s.vote=some vt)[OkR V.toDk s]:
 DT 174 #[(.pointer (some ⟨r,0,none⟩)),(.iface V.T V.ov)] T0 [wS V r s (.pointer (some ⟨vb,0,none⟩)),am vb (VoteT.cells vt) 227] (dB (λ_ H=>H=[cQ V r (jy V.toDk s vt.change)])):=by
 refine BD 32 Tryz.func174 rfl rfl rfl λw0 F hF=>aa λ_ J1=>fC (α:=(Nat)) (λ_=>True) (λb4=>[(0,(.pointer (some ⟨r,0,none⟩))),(1,(.iface V.T V.ov)),(4,(.pointer (some ⟨b4,0,none⟩))),(5,(.int .i64 ((ej s.view vt.change).2)))]) (λb4=>[am b4 (ints ((ej s.view vt.change).1).flat) 44,am vb (VoteT.cells vt) 227,wS V r s (.pointer (some ⟨vb,0,none⟩))]) (λb4 _=>?_) (λtl1=>?_)
 refine ac J1 (aa λ_ J2=>sr λ_ J3=>cJ (H':=cQ V r s::[am b4 (ints ((ej s.view vt.change).1).flat) 44]) (λ_ q=>pm hv (aD [2,1] rfl q)) (P2 ?_));refine ao ?_ ?_<;>intro h20;refine PS ?_
 iterate 5 refine UT ?_
 refine PS ?_;refine nx J3 (CY (aj (af (WK [0] (dW rfl ?_)))));exact MQ (by rw[jy,if_pos h20]);refine P3 ?_;refine LW 1 eX bm an ?_;refine CE JV (vY V r s ((ej s.view vt.change).1)) ID ?_;refine bf ?_ ?_<;>intro h25;refine PS ?_;refine PS ?_;refine nx J3 (CN (qx J2 (ae (P2 ?_))));refine LW 1 eX bm an ?_;refine CZ Kf (nL V r (gN V.toDk s ((ej s.view vt.change).1)) ((ej s.view vt.change).1)) ID λvR=>?_
 refine au (WK [0] (bG rfl ?_));exact MQ (by rw[jy,if_neg h20,h25,if_pos rfl]);refine PS ?_;refine PS ?_;refine nx J3 (CY (aj (af (WK [0] (dW rfl ?_)))));exact MQ (by rw[jy,if_neg h20,h25,if_neg (by decide)]);refine D1 1 bp ?_;refine PD 0 ?_;refine PD 1 ?_;refine FD 2 2 bo bm ?_;refine PD 4 ?_;refine PD 5 ?_;refine FD 6 1067 bo jL ?_;refine cX [3,7,13] (by kernel_rfl) rfl (aH rfl ?_ ?_);refine LZ 0 eX bm an s.view ?_ (hc:=by exact λ_=>c7 _);refine EN (cX [7,13] (by kernel_rfl) rfl (aH rfl ?_ ?_));refine LG 0 jv (.pointer (some ⟨vb,0,none⟩)) ?_ (hc:=by exact λa_=>(bZ _ rfl));refine EN (cX [8,13] (by kernel_rfl) rfl (aH rfl ?_ ?_));refine CE pi (du vb vt) (SM [1]) ?_;refine EN (cX [9,13] (by kernel_rfl) rfl (aH rfl ?_ ?_));refine CE nT (dD s.view vt.change OkVw.rng) ID ?_;refine EN (PD 10 ?_);refine PD 11 ?_;refine PD 12 ?_;refine AL 13 ?_;refine XZ sY (ints ViewT.zero.flat) λb4=>?_
 refine EN (AL 14 ?_);refine SW 0 bm an ?_;refine EN (PD 15 ?_);refine DN ?_
 exact aF
  SB
  (λ_ s=>s)
  (tl1 ((b4):(Nat)) trivial)
 refine aH rfl ?_ ?_;refine XZ sY (ints ViewT.zero.flat) λb4=>?_
 refine EN (AL 9 ?_);refine CE nT (dD s.view vt.change OkVw.rng) ID ?_;refine EN (PD 10 ?_);refine PD 11 ?_;refine PD 12 ?_;refine AL 14 ?_;refine SW 0 bm an ?_;refine EN (PD 15 ?_);refine DN ?_
 exact aF
  SB
  (λ_ s=>s)
  (tl1 ((b4):(Nat)) trivial)
 exact bM;refine aH rfl ?_ ?_;refine XZ sY (ints ViewT.zero.flat) λb4=>?_
 refine EN (AL 8 ?_);refine CE pi (du vb vt) (SM [2]) ?_;refine EN (AL 9 ?_);refine CE nT (dD s.view vt.change OkVw.rng) ID ?_;refine EN (PD 10 ?_);refine PD 11 ?_;refine PD 12 ?_;refine AL 14 ?_;refine SW 1 bm an ?_;refine EN (PD 15 ?_);refine DN ?_
 exact aF
  SB
  (λ_ s=>ak [1,0,0] rfl s)
  (tl1 ((b4):(Nat)) trivial)
 exact bM;refine aH rfl ?_ ?_;refine XZ sY (ints ViewT.zero.flat) λb4=>?_
 refine EN (AL 7 ?_);refine LG 1 jv (.pointer (some ⟨vb,0,none⟩)) ?_ (hc:=by exact λa_=>(bZ _ rfl));refine EN (AL 8 ?_);refine CE pi (du vb vt) (SM [2]) ?_;refine EN (AL 9 ?_);refine CE nT (dD s.view vt.change OkVw.rng) ID ?_;refine EN (PD 10 ?_);refine PD 11 ?_;refine PD 12 ?_;refine AL 14 ?_;refine SW 1 bm an ?_;refine EN (PD 15 ?_);refine DN ?_
 exact aF
  SB
  (λ_ s=>ak [1,0,0] rfl s)
  (tl1 ((b4):(Nat)) trivial)
 exact bM;refine aH rfl ?_ ?_;refine LG 0 jv (.pointer (some ⟨vb,0,none⟩)) ?_ (hc:=by exact λa_=>(bZ _ rfl));refine EN (cX [3,8,13] (by kernel_rfl) rfl (aH rfl ?_ ?_));refine LZ 0 eX bm an s.view ?_ (hc:=by exact λ_=>c7 _);refine EN (cX [8,13] (by kernel_rfl) rfl (aH rfl ?_ ?_));refine CE pi (du vb vt) (SM [1]) ?_;refine EN (cX [9,13] (by kernel_rfl) rfl (aH rfl ?_ ?_));refine CE nT (dD s.view vt.change OkVw.rng) ID ?_;refine EN (PD 10 ?_);refine PD 11 ?_;refine PD 12 ?_;refine AL 13 ?_;refine XZ sY (ints ViewT.zero.flat) λb4=>?_
 refine EN (AL 14 ?_);refine SW 0 bm an ?_;refine EN (PD 15 ?_);refine DN ?_
 exact aF
  SB
  (λ_ s=>s)
  (tl1 ((b4):(Nat)) trivial)
 refine aH rfl ?_ ?_;refine XZ sY (ints ViewT.zero.flat) λb4=>?_
 refine EN (AL 9 ?_);refine CE nT (dD s.view vt.change OkVw.rng) ID ?_;refine EN (PD 10 ?_);refine PD 11 ?_;refine PD 12 ?_;refine AL 14 ?_;refine SW 0 bm an ?_;refine EN (PD 15 ?_);refine DN ?_
 exact aF
  SB
  (λ_ s=>s)
  (tl1 ((b4):(Nat)) trivial)
 exact bM;refine aH rfl ?_ ?_;refine XZ sY (ints ViewT.zero.flat) λb4=>?_
 refine EN (AL 8 ?_);refine CE pi (du vb vt) (SM [2]) ?_;refine EN (AL 9 ?_);refine CE nT (dD s.view vt.change OkVw.rng) ID ?_;refine EN (PD 10 ?_);refine PD 11 ?_;refine PD 12 ?_;refine AL 14 ?_;refine SW 1 bm an ?_;refine EN (PD 15 ?_);refine DN ?_
 exact aF
  SB
  (λ_ s=>ak [1,0,0] rfl s)
  (tl1 ((b4):(Nat)) trivial)
 exact bM;refine aH rfl ?_ ?_;refine CE pi (du vb vt) (SM [1]) ?_;refine EN (cX [3,13] (by kernel_rfl) rfl (aH rfl ?_ ?_));refine LZ 1 eX bm an s.view ?_ (hc:=by exact λ_=>c7 _);refine EN (cX [9,13] (by kernel_rfl) rfl (aH rfl ?_ ?_));refine CE nT (dD s.view vt.change OkVw.rng) ID ?_;refine EN (PD 10 ?_);refine PD 11 ?_;refine PD 12 ?_;refine AL 13 ?_;refine XZ sY (ints ViewT.zero.flat) λb4=>?_
 refine EN (AL 14 ?_);refine SW 0 bm an ?_;refine EN (PD 15 ?_);refine DN ?_
 exact aF
  SB
  (λ_ s=>s)
  (tl1 ((b4):(Nat)) trivial)
 refine aH rfl ?_ ?_;refine XZ sY (ints ViewT.zero.flat) λb4=>?_
 refine EN (AL 9 ?_);refine CE nT (dD s.view vt.change OkVw.rng) ID ?_;refine EN (PD 10 ?_);refine PD 11 ?_;refine PD 12 ?_;refine AL 14 ?_;refine SW 0 bm an ?_;refine EN (PD 15 ?_);refine DN ?_
 exact aF
  SB
  (λ_ s=>s)
  (tl1 ((b4):(Nat)) trivial)
 exact bM;refine aH rfl ?_ ?_;refine XZ sY (ints ViewT.zero.flat) λb4=>?_
 refine EN (AL 3 ?_);refine LZ 2 eX bm an s.view ?_ (hc:=by exact λ_=>c7 _);refine EN (AL 9 ?_);refine CE nT (dD s.view vt.change OkVw.rng) ID ?_;refine EN (PD 10 ?_);refine PD 11 ?_;refine PD 12 ?_;refine AL 14 ?_;refine SW 0 bm an ?_;refine EN (PD 15 ?_);refine DN ?_
 exact aF
  SB
  (λ_ s=>s)
  (tl1 ((b4):(Nat)) trivial)
 exact bM;refine aH rfl ?_ ?_;refine XZ sY (ints ViewT.zero.flat) λb4=>?_
 refine EN (cX [3,8] (by kernel_rfl) rfl (aH rfl ?_ ?_));refine LZ 1 eX bm an s.view ?_ (hc:=by exact λ_=>c7 _);refine EN (AL 8 ?_);refine CE pi (du vb vt) (SM [2]) ?_;refine EN (AL 9 ?_);refine CE nT (dD s.view vt.change OkVw.rng) ID ?_;refine EN (PD 10 ?_);refine PD 11 ?_;refine PD 12 ?_;refine AL 14 ?_;refine SW 1 bm an ?_;refine EN (PD 15 ?_);refine DN ?_
 exact aF
  SB
  (λ_ s=>ak [1,0,0] rfl s)
  (tl1 ((b4):(Nat)) trivial)
 refine aH rfl ?_ ?_;refine CE pi (du vb vt) (SM [2]) ?_;refine EN (AL 3 ?_);refine LZ 2 eX bm an s.view ?_ (hc:=by exact λ_=>c7 _);refine EN (AL 9 ?_);refine CE nT (dD s.view vt.change OkVw.rng) ID ?_;refine EN (PD 10 ?_);refine PD 11 ?_;refine PD 12 ?_;refine AL 14 ?_;refine SW 1 bm an ?_;refine EN (PD 15 ?_);refine DN ?_
 exact aF
  SB
  (λ_ s=>ak [1,0,0] rfl s)
  (tl1 ((b4):(Nat)) trivial)
 exact bM;exact bM;refine aH rfl ?_ ?_;refine XZ sY (ints ViewT.zero.flat) λb4=>?_
 refine EN (cX [3,7] (by kernel_rfl) rfl (aH rfl ?_ ?_));refine LZ 1 eX bm an s.view ?_ (hc:=by exact λ_=>c7 _);refine EN (AL 7 ?_);refine LG 1 jv (.pointer (some ⟨vb,0,none⟩)) ?_ (hc:=by exact λa_=>(bZ _ rfl));refine EN (AL 8 ?_);refine CE pi (du vb vt) (SM [2]) ?_;refine EN (AL 9 ?_);refine CE nT (dD s.view vt.change OkVw.rng) ID ?_;refine EN (PD 10 ?_);refine PD 11 ?_;refine PD 12 ?_;refine AL 14 ?_;refine SW 1 bm an ?_;refine EN (PD 15 ?_);refine DN ?_
 exact aF
  SB
  (λ_ s=>ak [1,0,0] rfl s)
  (tl1 ((b4):(Nat)) trivial)
 refine aH rfl ?_ ?_;refine LG 1 jv (.pointer (some ⟨vb,0,none⟩)) ?_ (hc:=by exact λa_=>(bZ _ rfl));refine EN (cX [3,8] (by kernel_rfl) rfl (aH rfl ?_ ?_));refine LZ 1 eX bm an s.view ?_ (hc:=by exact λ_=>c7 _);refine EN (AL 8 ?_);refine CE pi (du vb vt) (SM [2]) ?_;refine EN (AL 9 ?_);refine CE nT (dD s.view vt.change OkVw.rng) ID ?_;refine EN (PD 10 ?_);refine PD 11 ?_;refine PD 12 ?_;refine AL 14 ?_;refine SW 1 bm an ?_;refine EN (PD 15 ?_);refine DN ?_
 exact aF
  SB
  (λ_ s=>ak [1,0,0] rfl s)
  (tl1 ((b4):(Nat)) trivial)
 refine aH rfl ?_ ?_;refine CE pi (du vb vt) (SM [2]) ?_;refine EN (AL 3 ?_);refine LZ 2 eX bm an s.view ?_ (hc:=by exact λ_=>c7 _);refine EN (AL 9 ?_);refine CE nT (dD s.view vt.change OkVw.rng) ID ?_;refine EN (PD 10 ?_);refine PD 11 ?_;refine PD 12 ?_;refine AL 14 ?_;refine SW 1 bm an ?_;refine EN (PD 15 ?_);refine DN ?_
 exact aF
  SB
  (λ_ s=>ak [1,0,0] rfl s)
  (tl1 ((b4):(Nat)) trivial)
 exact bM;exact bM;exact bM
theorem B2{δ:Type}(V:Env δ)(r:Nat)(s:MS δ)(vt:VoteT)(hv:s.vote=some vt)[OkR V.toDk s]:DT 174 #[.pointer (some ⟨r,0,none⟩), .iface V.T V.ov] T0 [cQ V r s] (dB (λ_ H=>H=[cQ V r (jy V.toDk s vt.change)])):=
 Leg.Does.ex (λ_ q=>nU hv q) λvb=>B3 V r vb s vt hv
theorem pn{δ:Type}{V:Env δ}{r:Nat}{s:MS δ}{H:List HP}{h:Hl}(hv:s.vote=none)(q:bH (wS V r s (.pointer none)::H) h):bH (cQ V r s::H) h:=by
 have q2:=Dt q
 rwa [show({s with vote:=none}:MS δ)=s by cases s;simp_all]at q2
theorem lq{δ:Type}(V:Env δ)(r:Nat)(s:MS δ)(f:MS δ→MS δ)(from':Int)(m:MsgT)[OkR V.toDk s][OkMg m](hfe:from'=s.id→m.epoch=s.view.epoch)(h3:m.kind=3→m.epoch=s.view.epoch→TK V r 170 (dz s (max s.round m.ballot.round)) from' m (f (dz s (max s.round m.ballot.round))))(h5:m.kind=5→m.epoch=s.view.epoch→TK V r 171 (dz s (max s.round m.ballot.round)) from' m (f (dz s (max s.round m.ballot.round))))(hn:m.kind≠3∧m.kind≠5→f (dz s (max s.round m.ballot.round))=(dz s (max s.round m.ballot.round)))(hv:m.kind=4∨m.kind=6→s.vote=none):
 DT 148 #[(.pointer (some ⟨r,0,none⟩)),(.iface V.T V.ov),(.int .i64 (from')),(.agg (ints m.flat).toArray)] T0 [cQ V r s] (dB (λ_ H=>H=[cQ V r (eU V.toDk f s from' m)])):=by
 refine BD 124 Tryz.func148 rfl rfl rfl λw0 F hF=>sr λ_ J1=>XY (ints m.flat) λb7=>?_
 refine nx J1 (aa λ_ J2=>aa λ_ J3=>DC bp (BL 0) (c9 1 rfl rfl) ?_);refine FD 0 177 bk aQ ?_;refine LR 1 Y3 (e6 m rfl) ?_;refine PD 2 ?_;refine PD 3 ?_;refine FD 4 2 bo bm ?_;refine FD 5 2 eX aQ ?_;refine ta 6 rfl (dy (v:=(.int .i64 (s.view.epoch))) rfl Y3 rfl rfl (λ_ h=>h.2.2.1) (λa_=>(cn (s.rep a_) 0 rfl (by decide) (aZ _ rfl)))) ?_;refine PD 7 ?_;refine iK ?_ ?_<;>intro h15;refine DN (ac J3 (CY (aa λ_ J4=>sr λ_ J5=>FA 0 bk aQ ?_)));refine LU 0 Y3 (fi m rfl) ?_;refine PS ?_;refine ao ?_ ?_<;>intro h18;refine PS ?_
 iterate 3 refine UT ?_
 refine PS ?_;refine nx J5 (CY (ae ?_))
 iterate 5 refine PS ?_
 refine FA 2 bo bm ?_;refine LZ 1 eX bm an s.view ?_ (hc:=by exact λ_=>c7 _);refine tp (lY MsgT.zero (MsgT.mk 7 0 RowT.zero 0 0 BallotT.zero BallotT.zero ChangeT.zero s.view) [(0,[Value.int .i64 7]),(8,ints s.view.flat)] bk bB (g:=MsgT.sg)) ?_;refine CZ jP (kb V r s from' (jx s.view) (λe=>absurd (hfe e) (by omega))) (SM [1]) λvR=>?_
 refine nx J4 (aj (af (WK [0] (dW rfl ?_))));exact congrArg (λq=>[cQ V r q]) (show(gE V.toDk s ([SaidT.mk from' (jx s.view)]))=eU V.toDk f s from' m by rw[eU,if_pos h15,if_pos (.inl h18)];rfl);refine PS ?_;refine FA 0 bk aQ ?_;refine LU 0 Y3 (fi m rfl) ?_;refine PS ?_;refine ao ?_ ?_<;>intro h22;refine PS ?_;refine nx J5 (CY (ae ?_))
 iterate 5 refine PS ?_
 refine FA 2 bo bm ?_;refine LZ 1 eX bm an s.view ?_ (hc:=by exact λ_=>c7 _);refine tp (lY MsgT.zero (MsgT.mk 7 0 RowT.zero 0 0 BallotT.zero BallotT.zero ChangeT.zero s.view) [(0,[Value.int .i64 7]),(8,ints s.view.flat)] bk bB (g:=MsgT.sg)) ?_;refine CZ jP (kb V r s from' (jx s.view) (λe=>absurd (hfe e) (by omega))) (SM [1]) λvR=>?_
 refine nx J4 (aj (af (WK [0] (dW rfl ?_))));exact congrArg (λq=>[cQ V r q]) (show(gE V.toDk s ([SaidT.mk from' (jx s.view)]))=eU V.toDk f s from' m by rw[eU,if_pos h15,if_pos (.inr h22)];rfl);refine PS ?_;refine nx J5 (CN (qx J4 (aj (af (WK [1] (dW rfl ?_))))));exact congrArg (λq=>[cQ V r q]) (show s=eU V.toDk f s from' m by rw[eU,if_pos h15,if_neg (by omega)]);refine DN (ac J3 (CN (qx J2 (aa λ_ J6=>aa λ_ J7=>DC bp (BL 0) (c9 1 rfl rfl) ?_))));refine FD 0 177 bk aQ ?_;refine LR 1 Y3 (e6 m rfl) ?_;refine PD 2 ?_;refine PD 3 ?_;refine FD 4 2 bo bm ?_;refine FD 5 2 eX aQ ?_;refine ta 6 rfl (dy (v:=(.int .i64 (s.view.epoch))) rfl Y3 rfl rfl (λ_ h=>h.2.2.1) (λa_=>(cn (s.rep a_) 0 rfl (by decide) (aZ _ rfl)))) ?_;refine PD 7 ?_;refine iK ?_ ?_<;>intro h40;refine PD 8 ?_;refine NT 9 ?_;refine NT 10 ?_;refine NT 11 ?_;refine NT 12 ?_;refine NT 13 ?_;refine NT 14 ?_;refine NT 15 ?_;refine NT 16 ?_;refine NT 17 ?_;refine NT 18 ?_;refine PD 19 ?_;refine DN (ac J7 (CY (aj (af (WK [1] (dW rfl ?_))))));exact congrArg (λq=>[cQ V r q]) (show s=eU V.toDk f s from' m by rw[eU,if_neg h15,if_pos (.inl (by omega))]);refine PD 8 ?_;refine PD 9 ?_;refine PD 10 ?_;refine FD 11 2 bo bm ?_;refine tb 12 rfl (gD (vs:=ints s.view.flat) rfl eX rfl bm rfl (λ_ h=>h.2.2.1) (an s.view) (λa_=>(gA (s.rep a_) 0 rfl (by decide) (whole (an ((s.rep a_).view)))))) ?_;refine PD 13 ?_;refine PD 14 ?_;refine FD 15 0 bo aQ ?_
 refine tb 16 rfl (dy (v:=(.int .i64 (s.id))) rfl Y3 rfl rfl (λ_ h=>h.2.2.1) (λa_=>(cN _ rfl))) ?_;refine AL 17 ?_;refine CE qR (dP s.view s.id) ID ?_;refine bf ?_ ?_<;>intro h50;refine EN (PD 18 ?_);refine PD 19 ?_;refine DN (ac J7 (CN (qx J6 (aa λ_ J8=>D1 0 bp ?_))));refine PD 0 ?_;refine PD 1 ?_;refine PD 2 ?_;refine FD 3 1066 bo aQ ?_;refine FD 5 178 bk cI ?_;refine FD 6 178 kW aQ ?_;refine LX 7 Y3 (.int .i64 (m.ballot.round)) ?_ (hc:=by exact MsgT.pt_ballot m 0 rfl (by decide) (fF m.ballot rfl));refine AL 4 ?_;refine LG 1 Y3 (.int .i64 (s.round)) ?_ (hc:=by exact λa_=>(wE _ rfl));refine EN (ta 8 rfl (sS rfl rfl rfl) ?_);refine PD 9 ?_;refine FD 10 1066 bo aQ ?_;refine AL 11 ?_;refine SK 1 aQ (λ_=>c8 _) ?_ (hc:=by exact λa_=>(mH _ rfl _));refine EN (DN (ac J8 (sr λ_ J9=>FA 0 bk aQ ?_)));refine LU 0 Y3 (fi m rfl) ?_;refine nx J9 (aq (sr λ_ J10=>PS ?_));refine ao ?_ ?_<;>intro h67;refine PS ?_;refine nx J10 (CY (ae (P3 ?_)));refine LW 0 bk cj aJ ?_;refine CZ O1 ((h3 (by omega) (by omega))) (SM [1]) λvR=>?_
 refine au (ag (WK [0] (bG rfl ?_)));exact congrArg (λq=>[cQ V r q]) (show(f (dz s (max s.round m.ballot.round)))=eU V.toDk f s from' m by rw[eU,if_neg h15,if_neg (λh=>h.elim (λh=>absurd h (by omega)) (λh=>by rw[h50]at h;cases h))]);refine PS ?_;refine nx J10 (CN (sr λ_ J11=>PS ?_));refine ao ?_ ?_<;>intro h74;refine PS ?_;refine nx J11 (CY (ae (P3 ?_)));refine LW 0 bk cj aJ ?_;refine CZ O0 ((h5 (by omega) (by omega))) (SM [1]) λvR=>?_
 refine au (ag (WK [0] (bG rfl ?_)));exact congrArg (λq=>[cQ V r q]) (show(f (dz s (max s.round m.ballot.round)))=eU V.toDk f s from' m by rw[eU,if_neg h15,if_neg (λh=>h.elim (λh=>absurd h (by omega)) (λh=>by rw[h50]at h;cases h))]);refine PS ?_;refine nx J11 (CN (sr λ_ J12=>PS ?_));refine ao ?_ ?_<;>intro h81;refine cJ (H':=wS V r (dz s (max s.round m.ballot.round)) (.pointer none)::[am b7 (ints m.flat) 178]) (λ_ q=>tO (hv (by omega)) (aD [1] rfl q)) (PS ?_);refine nx J12 (CY (aa λ_ J13=>DC bp (c9 0 rfl rfl) (BL 1) ?_));refine PD 0 ?_;refine PD 1 ?_;refine FD 2 1067 bo jL ?_;refine ta 3 rfl (dy (v:=(.pointer none)) rfl jv rfl rfl (λ_ h=>h.2.1) (λa_=>(bZ _ rfl))) ?_;refine ta 4 rfl (iy rfl jv rfl rfl) ?_;refine PD 5 ?_;refine NT 6 ?_;refine NT 7 ?_;refine NT 8 ?_;refine NT 9 ?_;refine NT 10 ?_;refine NT 11 ?_;refine NT 12 ?_;refine NT 13 ?_;refine NT 14 ?_;refine NT 15 ?_;refine NT 16 ?_;refine NT 17 ?_;refine PD 18 ?_;refine DN (ac J13 (CN (aU (ag (aF (H':=[cQ V r (dz s (max s.round m.ballot.round))]) (dE _) (λ_ q=>pn (hv (by omega)) (ak [0] rfl q)) (bG rfl ?_))))));exact congrArg (λq=>[cQ V r q]) (show(dz s (max s.round m.ballot.round))=eU V.toDk f s from' m by rw[eU,if_neg h15,if_neg (λh=>h.elim (λh=>absurd h (by omega)) (λh=>by rw[h50]at h;cases h)),hn (by omega)]);refine PS ?_;refine nx J12 (CN (sr λ_ J14=>PS ?_));refine ao ?_ ?_<;>intro h105
 refine cJ (H':=wS V r (dz s (max s.round m.ballot.round)) (.pointer none)::[am b7 (ints m.flat) 178]) (λ_ q=>tO (hv (by omega)) (aD [1] rfl q)) (PS ?_);refine nx J14 (CY (aa λ_ J15=>DC bp (c9 0 rfl rfl) (BL 1) ?_));refine PD 0 ?_;refine PD 1 ?_;refine FD 2 1067 bo jL ?_;refine ta 3 rfl (dy (v:=(.pointer none)) rfl jv rfl rfl (λ_ h=>h.2.1) (λa_=>(bZ _ rfl))) ?_;refine ta 4 rfl (iy rfl jv rfl rfl) ?_;refine PD 5 ?_;refine NT 6 ?_;refine NT 7 ?_;refine NT 8 ?_;refine NT 9 ?_;refine NT 10 ?_;refine NT 11 ?_;refine NT 12 ?_;refine NT 13 ?_;refine PD 14 ?_;refine DN (ac J15 (CN (aU (ag (aF (H':=[cQ V r (dz s (max s.round m.ballot.round))]) (dE _) (λ_ q=>pn (hv (by omega)) (ak [0] rfl q)) (bG rfl ?_))))));exact congrArg (λq=>[cQ V r q]) (show(dz s (max s.round m.ballot.round))=eU V.toDk f s from' m by rw[eU,if_neg h15,if_neg (λh=>h.elim (λh=>absurd h (by omega)) (λh=>by rw[h50]at h;cases h)),hn (by omega)]);refine PS ?_;refine nx J14 (CN (aU (ag (WK [1] (bG rfl ?_)))));exact congrArg (λq=>[cQ V r q]) (show(dz s (max s.round m.ballot.round))=eU V.toDk f s from' m by rw[eU,if_neg h15,if_neg (λh=>h.elim (λh=>absurd h (by omega)) (λh=>by rw[h50]at h;cases h)),hn (by omega)]);refine EN (PD 18 ?_);refine PD 19 ?_;refine DN (ac J7 (CY (aj (af (WK [1] (dW rfl ?_))))));exact congrArg (λq=>[cQ V r q]) (show s=eU V.toDk f s from' m by rw[eU,if_neg h15,if_pos (.inr h50)])
theorem A6(v:VoteT)(w:Int)(b:BallotT):(g8 v w b).1.change=v.change:=by unfold g8;split<;>rfl
theorem qE{δ:Type}(V:Env δ)(r:Nat)(s:MS δ)(vt:VoteT)(from':Int)(m:MsgT)[OkR V.toDk s][OkMg m](hfe:from'=s.id→m.epoch=s.view.epoch)(hk:m.kind=4∨m.kind=6)(hv:s.vote=some vt)(hp:m.kind=4→(ff vt from' m.ballot m.had m.change).2=true→DT 113 #[.pointer (some ⟨r,0,none⟩), .iface V.T V.ov] T0 [cQ V r (lp (dz s (max s.round m.ballot.round)) (ff vt from' m.ballot m.had m.change).1)] (dB (λ_ H=>H=[cQ V r (jM V.toDk (lp (dz s (max s.round m.ballot.round)) (ff vt from' m.ballot m.had m.change).1) (ff vt from' m.ballot m.had m.change).1)]))):
    DT 148 #[(.pointer (some ⟨r,0,none⟩)),(.iface V.T V.ov),(.int .i64 (from')),(.agg (ints m.flat).toArray)] T0 [cQ V r s] (dB (λ_ H=>H=[cQ V r (eU V.toDk (λs_=>if m.kind=4 then oJ V.toDk from' m s_ else kC V.toDk from' m s_) s from' m)])):=by
 refine BD 124 Tryz.func148 rfl rfl rfl λw0 F hF=>?_
 have hov:OkVt vt:=OkR.vote vt hv;refine sr λ_ J1=>XY (ints m.flat) λb7=>?_
 refine nx J1 (aa λ_ J2=>aa λ_ J3=>DC bp (BL 0) (c9 1 rfl rfl) ?_);refine FD 0 177 bk aQ ?_;refine LR 1 Y3 (e6 m rfl) ?_;refine PD 2 ?_;refine PD 3 ?_;refine FD 4 2 bo bm ?_;refine FD 5 2 eX aQ ?_;refine ta 6 rfl (dy (v:=(.int .i64 (s.view.epoch))) rfl Y3 rfl rfl (λ_ h=>h.2.2.1) (λa_=>(cn (s.rep a_) 0 rfl (by decide) (aZ _ rfl)))) ?_;refine PD 7 ?_;refine iK ?_ ?_<;>intro h15;refine DN (ac J3 (CY (aa λ_ J4=>sr λ_ J5=>FA 0 bk aQ ?_)));refine LU 0 Y3 (fi m rfl) ?_;refine PS ?_;refine ao ?_ ?_<;>intro h18;refine PS ?_
 iterate 3 refine UT ?_
 refine PS ?_;refine nx J5 (CY (ae ?_))
 iterate 5 refine PS ?_
 refine FA 2 bo bm ?_;refine LZ 1 eX bm an s.view ?_ (hc:=by exact λ_=>c7 _);refine tp (lY MsgT.zero (MsgT.mk 7 0 RowT.zero 0 0 BallotT.zero BallotT.zero ChangeT.zero s.view) [(0,[Value.int .i64 7]),(8,ints s.view.flat)] bk bB (g:=MsgT.sg)) ?_;refine CZ jP (kb V r s from' (jx s.view) (λe=>absurd (hfe e) (by omega))) (SM [1]) λvR=>?_
 refine nx J4 (aj (af (WK [0] (dW rfl ?_))));exact MQ (by rw[eU,if_pos h15,if_pos (.inl h18)];rfl);refine PS ?_;refine FA 0 bk aQ ?_;refine LU 0 Y3 (fi m rfl) ?_;refine PS ?_;refine ao ?_ ?_<;>intro h22;refine PS ?_;refine nx J5 (CY (ae ?_))
 iterate 5 refine PS ?_
 refine FA 2 bo bm ?_;refine LZ 1 eX bm an s.view ?_ (hc:=by exact λ_=>c7 _);refine tp (lY MsgT.zero (MsgT.mk 7 0 RowT.zero 0 0 BallotT.zero BallotT.zero ChangeT.zero s.view) [(0,[Value.int .i64 7]),(8,ints s.view.flat)] bk bB (g:=MsgT.sg)) ?_;refine CZ jP (kb V r s from' (jx s.view) (λe=>absurd (hfe e) (by omega))) (SM [1]) λvR=>?_
 refine nx J4 (aj (af (WK [0] (dW rfl ?_))));exact MQ (by rw[eU,if_pos h15,if_pos (.inr h22)];rfl);refine PS ?_;refine nx J5 (CN (qx J4 (aj (af (WK [1] (dW rfl ?_))))));exact MQ (by rw[eU,if_pos h15,if_neg (by omega)]);refine DN (ac J3 (CN (qx J2 (aa λ_ J6=>aa λ_ J7=>DC bp (BL 0) (c9 1 rfl rfl) ?_))));refine FD 0 177 bk aQ ?_;refine LR 1 Y3 (e6 m rfl) ?_;refine PD 2 ?_;refine PD 3 ?_;refine FD 4 2 bo bm ?_;refine FD 5 2 eX aQ ?_;refine ta 6 rfl (dy (v:=(.int .i64 (s.view.epoch))) rfl Y3 rfl rfl (λ_ h=>h.2.2.1) (λa_=>(cn (s.rep a_) 0 rfl (by decide) (aZ _ rfl)))) ?_;refine PD 7 ?_;refine iK ?_ ?_<;>intro h40;refine PD 8 ?_;refine NT 9 ?_;refine NT 10 ?_;refine NT 11 ?_;refine NT 12 ?_;refine NT 13 ?_;refine NT 14 ?_;refine NT 15 ?_;refine NT 16 ?_;refine NT 17 ?_;refine NT 18 ?_;refine PD 19 ?_;refine DN (ac J7 (CY (aj (af (WK [1] (dW rfl ?_))))));exact MQ (by rw[eU,if_neg h15,if_pos (.inl (by omega))]);refine PD 8 ?_;refine PD 9 ?_;refine PD 10 ?_;refine FD 11 2 bo bm ?_;refine tb 12 rfl (gD (vs:=ints s.view.flat) rfl eX rfl bm rfl (λ_ h=>h.2.2.1) (an s.view) (λa_=>(gA (s.rep a_) 0 rfl (by decide) (whole (an ((s.rep a_).view)))))) ?_;refine PD 13 ?_;refine PD 14 ?_;refine FD 15 0 bo aQ ?_;refine tb 16 rfl (dy (v:=(.int .i64 (s.id))) rfl Y3 rfl rfl (λ_ h=>h.2.2.1) (λa_=>(cN _ rfl))) ?_;refine AL 17 ?_;refine CE qR (dP s.view s.id) ID ?_;refine bf ?_ ?_<;>intro h50;refine EN (PD 18 ?_);refine PD 19 ?_
 refine DN (ac J7 (CN (qx J6 (aa λ_ J8=>D1 0 bp ?_))));refine PD 0 ?_;refine PD 1 ?_;refine PD 2 ?_;refine FD 3 1066 bo aQ ?_;refine FD 5 178 bk cI ?_;refine FD 6 178 kW aQ ?_;refine LX 7 Y3 (.int .i64 (m.ballot.round)) ?_ (hc:=by exact MsgT.pt_ballot m 0 rfl (by decide) (fF m.ballot rfl));refine AL 4 ?_;refine LG 1 Y3 (.int .i64 (s.round)) ?_ (hc:=by exact λa_=>(wE _ rfl));refine EN (ta 8 rfl (sS rfl rfl rfl) ?_);refine PD 9 ?_;refine FD 10 1066 bo aQ ?_;refine AL 11 ?_;refine SK 1 aQ (λ_=>c8 _) ?_ (hc:=by exact λa_=>(mH _ rfl _));refine EN (DN (ac J8 (sr λ_ J9=>FA 0 bk aQ ?_)));refine LU 0 Y3 (fi m rfl) ?_;refine nx J9 (aq (sr λ_ J10=>PS ?_));refine ao ?_ ?_<;>intro h67
 · exact absurd h67 (by omega)
 refine PS ?_;refine nx J10 (CN (sr λ_ J11=>PS ?_));refine ao ?_ ?_<;>intro h74
 · exact absurd h74 (by omega)
 refine PS ?_;refine nx J11 (CN (sr λ_ J12=>PS ?_));refine ao ?_ ?_<;>intro h81;refine Nh (H':=λvb:Nat=>wS V r (dz s (max s.round m.ballot.round)) (.pointer (some ⟨vb,0,none⟩))::am vb (VoteT.cells vt) 227::[am b7 (ints m.flat) 178]) (λ_ q=>nU (s:=(dz s (max s.round m.ballot.round))) hv (aD [1] rfl q)) (λvb=>PS ?_);refine nx J12 (CY (aa λ_ J13=>D1 2 bp ?_));refine PD 0 ?_;refine PD 1 ?_;refine FD 2 1067 bo jL ?_;refine AL 3 ?_;refine LG 0 jv (.pointer (some ⟨vb,0,none⟩)) ?_ (hc:=by exact λa_=>(bZ _ rfl));refine EN (ta 4 rfl (gd rfl jv rfl rfl) ?_);refine PD 5 ?_;refine PD 6 ?_;refine PD 7 ?_;refine FD 8 1067 bo jL ?_;refine PD 10 ?_;refine FD 11 178 bk cI ?_;refine tb 12 rfl (aO (vs:=ints m.ballot.flat) rfl kW rfl cI rfl (λ_ h=>h.2.1) (ap m.ballot) (jF m 0 rfl (by decide) (whole (ap m.ballot)))) ?_;refine FD 13 180 bk cI ?_;refine tb 14 rfl (aO (vs:=ints m.had.flat) rfl kW rfl cI rfl (λ_ h=>h.2.1) (ap m.had) (Rx m 0 rfl (by decide) (whole (ap m.had)))) ?_;refine FD 15 182 bk gg ?_;refine tb 16 rfl (aO (vs:=ints m.change.flat) rfl n9 rfl gg rfl (λ_ h=>h.2.1) (aM m.change) (oe m 0 rfl (by decide) (whole (aM m.change)))) ?_;refine AL 9 ?_;refine LG 0 jv (.pointer (some ⟨vb,0,none⟩)) ?_ (hc:=by exact λa_=>(bZ _ rfl));refine EN (AL 17 ?_);refine CE OY (EO vb vt from' m.ballot m.had m.change (OkMg.ballot) hov.ballot) (SM [1]) ?_;refine bf ?_ ?_<;>intro h99;refine EN (PD 18 ?_)
 refine DN (ac J13 (CY (ae (cJ (H':=cQ V r (lp (dz s (max s.round m.ballot.round)) ((ff vt from' m.ballot m.had m.change).1))::[am b7 (ints m.flat) 178]) (λ_ q=>pj (aD [1,0] rfl q)) (P2 ?_)))));refine CZ GP ((hp (by omega) h99)) ID λvR=>?_
 refine au (ag (WK [0] (bG rfl ?_)))
 exact congrArg (λq=>[cQ V r q]) (show _=eU V.toDk (λs_=>if m.kind=4 then oJ V.toDk from' m s_ else kC V.toDk from' m s_) s from' m by
                              rw[eU,if_neg h15,if_neg (λh=>h.elim (λh=>absurd h (by omega)) (λh=>by rw[h50]at h;cases h)),if_pos (by omega),oJ];simp only[show(dz s (max s.round m.ballot.round)).vote=some vt from hv]
                              rw[if_pos h99])
 refine EN (PD 18 ?_);refine DN (ac J13 (CN (aU (ag (aF (H':=[cQ V r (lp (dz s (max s.round m.ballot.round)) (ff vt from' m.ballot m.had m.change).1)]) (dE _) (λ_ q=>pj (ak [1,0] rfl q)) (bG rfl ?_))))))
 exact congrArg (λq=>[cQ V r q]) (show(lp (dz s (max s.round m.ballot.round)) (ff vt from' m.ballot m.had m.change).1)=eU V.toDk (λs_=>if m.kind=4 then oJ V.toDk from' m s_ else kC V.toDk from' m s_) s from' m by
                              rw[eU,if_neg h15,if_neg (λh=>h.elim (λh=>absurd h (by omega)) (λh=>by rw[h50]at h;cases h)),if_pos (by omega),oJ];simp only[show(dz s (max s.round m.ballot.round)).vote=some vt from hv]
                              rw[if_neg (by rw[h99];decide)])
 refine PS ?_;refine nx J12 (CN (sr λ_ J14=>PS ?_));refine ao ?_ ?_<;>intro h105;refine Nh (H':=λvb:Nat=>wS V r (dz s (max s.round m.ballot.round)) (.pointer (some ⟨vb,0,none⟩))::am vb (VoteT.cells vt) 227::[am b7 (ints m.flat) 178]) (λ_ q=>nU (s:=(dz s (max s.round m.ballot.round))) hv (aD [1] rfl q)) (λvb=>PS ?_);refine nx J14 (CY (aa λ_ J15=>D1 2 bp ?_));refine PD 0 ?_;refine PD 1 ?_;refine FD 2 1067 bo jL ?_;refine AL 3 ?_;refine LG 0 jv (.pointer (some ⟨vb,0,none⟩)) ?_ (hc:=by exact λa_=>(bZ _ rfl));refine EN (ta 4 rfl (gd rfl jv rfl rfl) ?_);refine PD 5 ?_;refine PD 6 ?_;refine PD 7 ?_;refine FD 8 1067 bo jL ?_;refine PD 10 ?_;refine FD 11 178 bk cI ?_;refine tb 12 rfl (aO (vs:=ints m.ballot.flat) rfl kW rfl cI rfl (λ_ h=>h.2.1) (ap m.ballot) (jF m 0 rfl (by decide) (whole (ap m.ballot)))) ?_;refine AL 9 ?_;refine LG 0 jv (.pointer (some ⟨vb,0,none⟩)) ?_ (hc:=by exact λa_=>(bZ _ rfl));refine EN (AL 13 ?_);refine CE OX (EY vb vt from' m.ballot (OkMg.ballot) hov.ballot) (SM [1]) ?_;refine bf ?_ ?_<;>intro h119;refine EN (PD 14 ?_);refine DN (ac J15 (CY (ae (cJ (H':=cQ V r (lp (dz s (max s.round m.ballot.round)) ((g8 vt from' m.ballot).1))::[am b7 (ints m.flat) 178]) (λ_ q=>pj (aD [1,0] rfl q)) (P2 ?_)))));refine CZ OW (B2 V r (lp (dz s (max s.round m.ballot.round)) (g8 vt from' m.ballot).1) (g8 vt from' m.ballot).1 rfl) ID λvR=>?_
 refine au (ag (WK [0] (bG rfl ?_)))
 exact congrArg (λq=>[cQ V r q]) (show _=eU V.toDk (λs_=>if m.kind=4 then oJ V.toDk from' m s_ else kC V.toDk from' m s_) s from' m by
                                rw[eU,if_neg h15,if_neg (λh=>h.elim (λh=>absurd h (by omega)) (λh=>by rw[h50]at h;cases h)),if_neg (by omega),kC];simp only[show(dz s (max s.round m.ballot.round)).vote=some vt from hv]
                                rw[if_pos h119,A6])
 refine EN (PD 14 ?_);refine DN (ac J15 (CN (aU (ag (aF (H':=[cQ V r (lp (dz s (max s.round m.ballot.round)) (g8 vt from' m.ballot).1)]) (dE _) (λ_ q=>pj (ak [1,0] rfl q)) (bG rfl ?_))))))
 exact congrArg (λq=>[cQ V r q]) (show(lp (dz s (max s.round m.ballot.round)) (g8 vt from' m.ballot).1)=eU V.toDk (λs_=>if m.kind=4 then oJ V.toDk from' m s_ else kC V.toDk from' m s_) s from' m by
                                rw[eU,if_neg h15,if_neg (λh=>h.elim (λh=>absurd h (by omega)) (λh=>by rw[h50]at h;cases h)),if_neg (by omega),kC];simp only[show(dz s (max s.round m.ballot.round)).vote=some vt from hv]
                                rw[if_neg (by rw[h119];decide)])
 · exact absurd h105 (by omega)
 refine EN (PD 18 ?_);refine PD 19 ?_;refine DN (ac J7 (CY (aj (af (WK [1] (dW rfl ?_))))));exact MQ (by rw[eU,if_neg h15,if_pos (.inr h50)])
theorem rZ{δ:Type}(V:Env δ)(r:Nat)(s:MS δ)(from':Int)(m:MsgT)[OkR V.toDk s][OkMg m](hfe:from'=s.id→m.epoch=s.view.epoch)(hk:m.kind=6):TK V r 105 s from' m (pH V.toDk s from' m):=pF (.inr (.inr (.inr hk))) (by
 cases hv:s.vote with
 |none=>exact lq V r s (kC V.toDk from' m) from' m hfe (λe=>by omega) (λe=>by omega) (λ_=>by rw[kC,show(dz s (max s.round m.ballot.round)).vote=none from hv]) (λ_=>hv)
 |some vt=>
  have h:=qE V r s vt from' m hfe (.inr hk) hv (λe=>by omega)
  rwa [show(λs_:MS δ=>if m.kind=4 then oJ V.toDk from' m s_ else kC V.toDk from' m s_)=kC V.toDk from' m from funext λ_=>if_neg (by omega)]at h)
theorem yZ{δ:Type}(V:Env δ)(r:Nat)(s:MS δ)(from':Int)(m:MsgT)[OkR V.toDk s][OkMg m](hep:m.epoch=s.view.epoch):
 DT 171 #[(.pointer (some ⟨r,0,none⟩)),(.iface V.T V.ov),(.int .i64 (from')),(.agg (ints m.flat).toArray)] T0 [cQ V r s] (dB (λ_ H=>H=[cQ V r (m5 V.toDk from' m s)])):=by
 refine BD 69 Tryz.func171 rfl rfl rfl λw0 F hF=>sr λ_ J1=>XY (ints m.flat) λb7=>?_
 refine nx J1 (aa λ_ J2=>aa λ_ J3=>fC (α:=Unit) (λ_u=>True) (λ_u=>[(0,(.pointer (some ⟨r,0,none⟩))),(1,(.iface V.T V.ov)),(2,(.int .i64 (from'))),(7,(.pointer (some ⟨b7,0,none⟩))),(9,(.int .i64 ((ej s.view m.change).2)))]) (λ_u=>[cQ V r s,am b7 (ints m.flat) 178]) (λ_u hinv=>?_) (λtl3=>?_));have _:=hinv;refine ac J3 (sr λ_ J4=>P2 ?_);refine ao ?_ ?_<;>intro h23;refine nx J4 (CY (aj (af (WK [0] (dW rfl ?_)))));exact MQ (by rw[m5,if_pos h23]);refine nx J4 (CN (qx J2 (aa λ_ J5=>fC (α:=(Nat)) (λb10=>True) (λb10=>[(0,(.pointer (some ⟨r,0,none⟩))),(1,(.iface V.T V.ov)),(2,(.int .i64 (from'))),(7,(.pointer (some ⟨b7,0,none⟩))),(10,(.pointer (some ⟨b10,0,none⟩))),(11,(.bool ((g9 s.acc m.epoch m.ballot m.change).2)))]) (λb10=>[cQ V r s,am b7 (ints m.flat) 178,am b10 (ints ((g9 s.acc m.epoch m.ballot m.change).1).flat) 118]) (λb10 hinv=>?_) (λtl5=>?_))));have _:=hinv;refine ac J5 (aa λ_ J6=>sr λ_ J7=>PS ?_);refine bf ?_ ?_<;>intro h38;refine PS ?_;refine nx J7 (CN (qx J6 (aa λ_ J8=>aa λ_ J9=>DC bp (BL 2) (c9 0 rfl rfl) ?_)));refine LY 0 jB dM bi ?_;refine PD 1 ?_;refine PD 2 ?_;refine FD 3 1058 bo dM ?_;refine ta 4 rfl (gD (vs:=ints s.acc.flat) rfl jB rfl dM rfl (λ_ h=>h.2.2.1) (bi s.acc) (λa_=>(zv (s.rep a_) 0 rfl (by decide) (whole (bi ((s.rep a_).acc)))))) ?_
 refine ta 5 rfl (EE (a:=((g9 s.acc m.epoch m.ballot m.change).1).flat) (b:=s.acc.flat) (m:=6) (c:=8) Ox Ow rfl Pw (dA (bi ((g9 s.acc m.epoch m.ballot m.change).1))) (dA (bi s.acc)) ⟨gx Nc Nd (dA (bi ((g9 s.acc m.epoch m.ballot m.change).1))),gx Nc Nd (dA (bi s.acc))⟩ (OkAc.wf) (OkAc.wf) rfl rfl rfl) ?_;refine iK ?_ ?_<;>intro h45;refine DN (ac J9 (CY (aa λ_ J10=>sr λ_ J11=>PS ?_)));refine FA 177 bk aQ ?_;refine LU 1 Y3 (e6 m rfl) ?_;refine FA 178 bk cI ?_;refine LV 1 kW cI ap py (y:=m.ballot) ?_;refine FA 182 bk gg ?_;refine LV 1 n9 gg aM MsgT.sp_change (y:=m.change) ?_;refine tp (lY RecT.zero (RecT.mk 4 0 RowT.zero m.epoch m.ballot m.change ViewT.zero) [(0,[Value.int .i64 4]),(3,[Value.int .i64 m.epoch]),(4,ints m.ballot.flat),(5,ints m.change.flat)] jD fD (g:=RecT.sg)) ?_;refine CE xT (l6 V r s (lr m.epoch m.ballot m.change)) ID ?_;refine PS ?_;refine ao ?_ ?_<;>intro h55;refine nx J11 (CY (aj (af (af (WK [0] (dW rfl ?_))))));exact MQ (by rw[m5,if_neg h23,if_neg (by rw[h38];decide),if_pos h45,if_pos h55]);refine nx J11 (CN (qx J10 (ae (PS ?_))));refine LW 2 jB dM bi ?_;refine PS ?_;refine FA 1058 bo dM ?_
 refine iw (vs:=ints ((g9 s.acc m.epoch m.ballot m.change).1).flat) (i:=0) (ab rfl) rfl rfl rfl rfl rfl (by rw[(bi ((g9 s.acc m.epoch m.ballot m.change).1))];exact dM) (bF _) rfl rfl (λ_=>LC (c8 _) (bi _)) (λa_=>(li ((dw V.toDk s (lr m.epoch m.ballot m.change)).rep a_) 0 rfl (by have h1:=(bi ((g9 s.acc m.epoch m.ballot m.change).1));omega) (cy ((bi (((dw V.toDk s (lr m.epoch m.ballot m.change)).rep a_).acc)).trans (bi ((g9 s.acc m.epoch m.ballot m.change).1)).symm)))) (nx J8 (ae (P3 ?_)));refine FA 177 bk aQ ?_;refine LU 1 Y3 (e6 m rfl) ?_;refine FA 178 bk cI ?_;refine LV 1 kW cI ap py (y:=m.ballot) ?_;refine tp (lY MsgT.zero (MsgT.mk 6 0 RowT.zero 0 m.epoch m.ballot BallotT.zero ChangeT.zero ViewT.zero) [(0,[Value.int .i64 6]),(4,[Value.int .i64 m.epoch]),(5,ints m.ballot.flat)] bk bB (g:=MsgT.sg)) ?_;refine CZ jP (gL V r (vu (dw V.toDk s (lr m.epoch m.ballot m.change)) (g9 s.acc m.epoch m.ballot m.change).1) from' (ja m.epoch m.ballot) (λs_=>pH V.toDk s_ s_.id (ja m.epoch m.ballot)) (λ_=>rZ V r (vu (dw V.toDk s (lr m.epoch m.ballot m.change)) (g9 s.acc m.epoch m.ballot m.change).1) (vu (dw V.toDk s (lr m.epoch m.ballot m.change)) (g9 s.acc m.epoch m.ballot m.change).1).id (ja m.epoch m.ballot) (λ_=>hep) rfl)) ID λvR=>?_
 refine au (WK [0] (bG rfl ?_));exact MQ (by rw[m5,if_neg h23,if_neg (by rw[h38];decide),if_pos h45,if_neg h55];rfl);refine DN (ac J9 (CN (qx J8 (ae (P3 ?_)))));refine FA 177 bk aQ ?_;refine LU 1 Y3 (e6 m rfl) ?_;refine FA 178 bk cI ?_;refine LV 1 kW cI ap py (y:=m.ballot) ?_;refine tp (lY MsgT.zero (MsgT.mk 6 0 RowT.zero 0 m.epoch m.ballot BallotT.zero ChangeT.zero ViewT.zero) [(0,[Value.int .i64 6]),(4,[Value.int .i64 m.epoch]),(5,ints m.ballot.flat)] bk bB (g:=MsgT.sg)) ?_;refine CZ jP (gL V r s from' (ja m.epoch m.ballot) (λs_=>pH V.toDk s_ s_.id (ja m.epoch m.ballot)) (λ_=>rZ V r s s.id (ja m.epoch m.ballot) (λ_=>hep) rfl)) ID λvR=>?_
 refine au (WK [0] (bG rfl ?_));exact MQ (by rw[m5,if_neg h23,if_neg (by rw[h38];decide),if_neg h45];rfl);refine PS ?_;refine nx J7 (CY (aj (af (WK [0] (dW rfl ?_)))));exact MQ (by rw[m5,if_neg h23,if_pos h38]);refine DC bp (c9 0 rfl rfl) (BL 1) ?_;refine PD 0 ?_;refine PD 1 ?_;refine FD 2 1058 bo dM ?_;refine ta 3 rfl (gD (vs:=ints s.acc.flat) rfl jB rfl dM rfl (λ_ h=>h.2.1) (bi s.acc) (λa_=>(zv (s.rep a_) 0 rfl (by decide) (whole (bi ((s.rep a_).acc)))))) ?_;refine FD 4 177 bk aQ ?_;refine LR 5 Y3 (e6 m rfl) ?_;refine FD 6 178 bk cI ?_;refine ta 7 rfl (aO (vs:=ints m.ballot.flat) rfl kW rfl cI rfl (λ_ h=>h.2.2.1) (ap m.ballot) (jF m 0 rfl (by decide) (whole (ap m.ballot)))) ?_;refine FD 8 182 bk gg ?_;refine ta 9 rfl (aO (vs:=ints m.change.flat) rfl n9 rfl gg rfl (λ_ h=>h.2.2.1) (aM m.change) (oe m 0 rfl (by decide) (whole (aM m.change)))) ?_;refine cX [10,14] (by kernel_rfl) rfl (aH rfl ?_ ?_);refine CE ML (wn s.acc m.epoch m.ballot m.change) ID ?_;refine EN (PD 11 ?_);refine PD 12 ?_;refine PD 13 ?_;refine oc ?_ ?_<;>intro h37;refine AL 14 ?_;refine XZ wV (ints AccT.zero.flat) λb10=>?_
 refine EN (AL 15 ?_);refine SW 0 dM bi ?_;refine EN (PD 16 ?_);refine DN ?_
 exact aF
  (aS (aS (aS (aS (aS (bv rfl (by rw[h37]) SB))))))
  (λ_ s=>ak [1,1,0] rfl s)
  (tl5 ((b10):(Nat)) trivial)
 refine AL 14 ?_;refine XZ wV (ints AccT.zero.flat) λb10=>?_
 refine EN (AL 15 ?_);refine SW 0 dM bi ?_;refine EN (PD 16 ?_);refine DN ?_
 exact aF
  (aS (aS (aS (aS (aS (bv rfl (by rw[h37]) SB))))))
  (λ_ s=>ak [1,1,0] rfl s)
  (tl5 ((b10):(Nat)) trivial)
 refine aH rfl ?_ ?_;refine XZ wV (ints AccT.zero.flat) λb10=>?_
 refine EN (AL 10 ?_);refine CE ML (wn s.acc m.epoch m.ballot m.change) ID ?_;refine EN (PD 11 ?_);refine PD 12 ?_;refine PD 13 ?_;refine oc ?_ ?_<;>intro h37;refine AL 15 ?_;refine SW 0 dM bi ?_;refine EN (PD 16 ?_);refine DN ?_
 exact aF
  (aS (aS (aS (aS (aS (bv rfl (by rw[h37]) SB))))))
  (λ_ s=>ak [1,1,0] rfl s)
  (tl5 ((b10):(Nat)) trivial)
 refine AL 15 ?_;refine SW 0 dM bi ?_;refine EN (PD 16 ?_);refine DN ?_
 exact aF
  (aS (aS (aS (aS (aS (bv rfl (by rw[h37]) SB))))))
  (λ_ s=>ak [1,1,0] rfl s)
  (tl5 ((b10):(Nat)) trivial)
 exact bM;refine DC bp (c9 1 rfl rfl) (BL 0) ?_;refine PD 0 ?_;refine PD 1 ?_;refine FD 2 2 bo bm ?_;refine ta 3 rfl (gD (vs:=ints s.view.flat) rfl eX rfl bm rfl (λ_ h=>h.2.1) (an s.view) (λa_=>(gA (s.rep a_) 0 rfl (by decide) (whole (an ((s.rep a_).view)))))) ?_;refine FD 4 182 bk gg ?_;refine ta 5 rfl (aO (vs:=ints m.change.flat) rfl n9 rfl gg rfl (λ_ h=>h.2.2.1) (aM m.change) (oe m 0 rfl (by decide) (whole (aM m.change)))) ?_;refine cX [6,10] (by kernel_rfl) rfl (aH rfl ?_ ?_);refine CE nT (dD s.view m.change OkVw.rng) ID ?_;refine EN (PD 7 ?_);refine PD 8 ?_;refine PD 9 ?_;refine AL 10 ?_;refine XZ sY (ints ViewT.zero.flat) λb8=>?_
 refine EN (AL 11 ?_);refine SW 0 bm an ?_;refine EN (PD 12 ?_);refine DN ?_
 exact aF
  SB
  (λ_ s=>ak [2,1] rfl s)
  (tl3 (():Unit) trivial)
 refine aH rfl ?_ ?_;refine XZ sY (ints ViewT.zero.flat) λb8=>?_
 refine EN (AL 6 ?_);refine CE nT (dD s.view m.change OkVw.rng) ID ?_;refine EN (PD 7 ?_);refine PD 8 ?_;refine PD 9 ?_;refine AL 11 ?_;refine SW 0 bm an ?_;refine EN (PD 12 ?_);refine DN ?_
 exact aF
  SB
  (λ_ s=>ak [2,1] rfl s)
  (tl3 (():Unit) trivial)
 exact bM
theorem xe{δ:Type}(V:Env δ)(r:Nat)(s:MS δ)(from':Int)(m:MsgT)[OkR V.toDk s][OkMg m](hfe:from'=s.id→m.epoch=s.view.epoch)(hk:m.kind=5):TK V r 105 s from' m (qG V.toDk s from' m):=pF (by omega) (lq V r s (m5 V.toDk from' m) from' m hfe (λe _=>by omega) (λ_ hep=>yZ V r (dz s (max s.round m.ballot.round)) from' m hep) (λe=>by omega) (λe=>by omega))
theorem y6{δ:Type}(V:Env δ)(r vb:Nat)(s:MS δ)(vt:VoteT)(hv:s.vote=some vt)(hpt:vt.putting=true)[OkR V.toDk s][OkVt vt]:
 DT 113 #[(.pointer (some ⟨r,0,none⟩)),(.iface V.T V.ov)] T0 [wS V r s (.pointer (some ⟨vb,0,none⟩)),am vb (VoteT.cells vt) 227] (dB (λ_ H=>H=[cQ V r (jM V.toDk s vt)])):=by
 refine BD 68 Tryz.func113 rfl rfl rfl λw0 F hF=>aa λ_ J1=>fC (α:=(Nat)) (λb4=>True) (λb4=>[(0,(.pointer (some ⟨r,0,none⟩))),(1,(.iface V.T V.ov)),(4,(.pointer (some ⟨b4,0,none⟩)))]) (λb4=>[wS V r s (.pointer (some ⟨vb,0,none⟩)),am vb (VoteT.cells vt) 227,am b4 (ints (fJ s.view.epoch vt.ballot).flat) 178]) (λb4 hinv=>?_) (λtl1=>?_)
 have _:=hinv;refine ac J1 (aa λ_ J2=>sr λ_ J3=>P2 ?_);refine FA 1067 bo jL ?_;refine LG 0 jv (.pointer (some ⟨vb,0,none⟩)) ?_ (hc:=by exact λa_=>(bZ _ rfl));refine CE MW (oY vb vt) (SM [1]) ?_;refine bf ?_ ?_<;>intro h22;refine nx J3 (CY (ae (P2 ?_)));refine FA 1067 bo jL ?_;refine LG 1 jv (.pointer (some ⟨vb,0,none⟩)) ?_ (hc:=by exact λa_=>(bZ _ rfl));refine CE pi (du vb vt) ID ?_;refine FA 0 bk aQ ?_;refine SS 2 aQ (aJ _) (MsgT.set_kind _ rfl _) ?_;refine FA 182 bk gg ?_;refine SP 2 gg aM aJ PO ?_;refine nx J2 (sr λ_ J4=>cJ (H':=cQ V r s::[am b4 (ints (MsgT.mk 5 ((fJ s.view.epoch vt.ballot).whose) ((fJ s.view.epoch vt.ballot).row) ((fJ s.view.epoch vt.ballot).version) ((fJ s.view.epoch vt.ballot).epoch) ((fJ s.view.epoch vt.ballot).ballot) ((fJ s.view.epoch vt.ballot).had) vt.change ((fJ s.view.epoch vt.ballot).view)).flat) 178]) (λ_ q=>pm hv (aD [1,0] rfl q)) (P2 ?_));refine FA 2 bo bm ?_;refine LZ 0 eX bm an s.view ?_ (hc:=by exact λ_=>c7 _);refine XZ sY (ints ViewT.zero.flat) λb5=>?_
 refine SW 0 bm an ?_;refine nx J4 (aa λ_ J5=>sr λ_ J6=>PS ?_);refine nx J6 (aq ?_)
 refine bA (α:=(Nat)) (λk=>k≤5) (λk=>[(0,(.pointer (some ⟨r,0,none⟩))),(1,(.iface V.T V.ov)),(4,(.pointer (some ⟨b4,0,none⟩))),(5,(.pointer (some ⟨b5,0,none⟩))),(34,(.int .i64 (((k:Nat):Int))))]) (λk=>[am b5 (ints s.view.flat) 44,am b4 (ints (iT s.view.epoch vt.ballot vt.change).flat) 178,cQ V r (gE V.toDk s (nj s.id (iT s.view.epoch vt.ballot vt.change) (λi=>ju s.view ((i:Nat):Int)) k))]) (λk=>5-k) 0
  (aN _) SB
  (λ_ q=>by
  rw[show nj s.id (iT s.view.epoch vt.ballot vt.change) (λi=>ju s.view ((i:Nat):Int)) 0=[]from rfl,qN]
  exact ak [0,1,0] rfl q) (λk hinv=>?_)
 obtain hk:=hinv;refine sr λ_ J7=>PS ?_
 refine ao ?_ ?_<;>intro h35;refine nx J7 (aa λ_ J8=>CY (qx J8 (aa λ_ J9=>aq (sr λ_ J10=>P2 ?_))));refine nx J10 (sr λ_ J11=>P3 ?_);refine FA 0 bo aQ ?_;refine LG 2 Y3 (.int .i64 (s.id)) ?_ (hc:=by exact λa_=>(cN _ rfl));refine PS ?_;refine ao ?_ ?_<;>intro h42;refine PS ?_;refine LW 0 eX bm an ?_;refine PS ?_;refine CE qR (dP s.view ((k:Nat):Int)) ID ?_;refine bf ?_ ?_<;>intro h46;refine PS ?_;refine nx J11 (CY (ae (P3 ?_)));refine LW 1 bk cj aJ ?_;refine CZ jP (pc V r s (nj s.id (iT s.view.epoch vt.ballot vt.change) (λi=>ju s.view ((i:Nat):Int)) k) ((k:Nat):Int) (iT s.view.epoch vt.ballot vt.change) h42) (SM [2]) λvR=>?_
 refine au (ag (ac J9 (ae (AD ?_))));refine PS ?_;refine au ?_
 exact aK ((k+1):(Nat)) (by omega) (by show 5- (k+1)<5-k;omega)
  SB
  (λ_ q=>by
   rw[jp,if_pos ⟨h42,h46⟩]
   exact ak [1,1,0] rfl q)
 refine PS ?_;refine nx J11 (CN (aU (ag (ac J9 (ae (AD ?_))))));refine PS ?_;refine au ?_
 exact aK ((k+1):(Nat)) (by omega) (by show 5- (k+1)<5-k;omega)
  SB
  (λ_ q=>by
   rw[jp,if_neg (λh=>by have:=h.2;rw[h46]at this;cases this)];rw[aR]
   exact ak [0,0,0] rfl q)
 refine PS ?_
 iterate 3 refine UF ?_
 refine PS ?_;refine nx J11 (CN (aU (ag (ac J9 (ae (AD ?_))))));refine PS ?_;refine au ?_
 exact aK ((k+1):(Nat)) (by omega) (by show 5- (k+1)<5-k;omega)
  SB
  (λ_ q=>by
   rw[jp,if_neg (λh=>h42 h.1)];rw[aR]
   exact ak [0,0,0] rfl q)
 obtain rfl:k=5:=by omega
 refine nx J7 (aa λ_ J12=>CN (aX (aA (aA (bu (ac J5 (aa λ_ J13=>DC bp (BL 0) (c9 2 rfl rfl) ?_)))))));refine LY 0 eX bm an ?_;refine PD 1 ?_;refine PD 2 ?_;refine FD 3 0 bo aQ ?_;refine ta 4 rfl (dy (v:=(.int .i64 ((jt V.toDk s (iT s.view.epoch vt.ballot vt.change)).id))) rfl Y3 rfl rfl (λ_ h=>h.2.2.1) (λa_=>(cN _ rfl))) ?_;refine AL 5 ?_;refine CE qR (dP s.view ((jt V.toDk s (iT s.view.epoch vt.ballot vt.change)).id)) ID ?_;refine bf ?_ ?_<;>intro h59;refine EN (DN (ac J13 (CY (D1 1 bp ?_))));refine PD 0 ?_;refine PD 1 ?_;refine PD 2 ?_;refine PD 3 ?_;refine FD 4 0 bo aQ ?_;refine LY 6 bk cj aJ ?_;refine AL 5 ?_;refine LG 2 Y3 (.int .i64 ((jt V.toDk s (iT s.view.epoch vt.ballot vt.change)).id)) ?_ (hc:=by exact λa_=>(cN _ rfl));refine EN (AL 7 ?_);refine CZ jP (gL V r (jt V.toDk s (iT s.view.epoch vt.ballot vt.change)) s.id (iT s.view.epoch vt.ballot vt.change) (λs_=>qG V.toDk s_ s_.id (iT s.view.epoch vt.ballot vt.change)) (λ_=>xe V r (jt V.toDk s (iT s.view.epoch vt.ballot vt.change)) s.id (iT s.view.epoch vt.ballot vt.change) (λ_=>rfl) rfl)) (SM [2]) λvR=>?_
 refine EN (DN (WK [0] (bG rfl ?_)));exact MQ (by rw[jM,jc,if_pos (show ju s.view s.id=true from h59),mZ,if_pos (show s.id=(jt V.toDk s (iT s.view.epoch vt.ballot vt.change)).id from rfl)]<;>rfl);refine EN (DN (ac J13 (CN (aU (WK [2] (bG rfl ?_))))));exact MQ (by rw[jM,jc,if_neg (by rw[show ju s.view s.id=false from h59];decide)]<;>rfl)
 · rw[hpt]at h22;cases h22
 refine D1 1 bp ?_;refine PD 0 ?_;refine PD 1 ?_;refine FD 2 2 bo bm ?_;refine FD 3 2 eX aQ ?_;refine PD 5 ?_;refine PD 6 ?_;refine FD 7 1067 bo jL ?_;refine cX [4,8,11] (by kernel_rfl) rfl (aH rfl ?_ ?_);refine LG 0 Y3 (.int .i64 (s.view.epoch)) ?_ (hc:=by exact λa_=>(cn (s.rep ⟨(a_:Nat×Value).1,(.pointer (some ⟨vb,0,none⟩)),a_.2⟩) 0 rfl (by decide) (aZ _ rfl)));refine EN (cX [8,11] (by kernel_rfl) rfl (aH rfl ?_ ?_));refine LG 0 jv (.pointer (some ⟨vb,0,none⟩)) ?_ (hc:=by exact λa_=>(bZ _ rfl));refine EN (cX [9,11] (by kernel_rfl) rfl (aH rfl ?_ ?_));refine CE ko (bK vb vt) (SM [1]) ?_;refine EN (ta 10 rfl (lY MsgT.zero (MsgT.mk 3 0 RowT.zero 0 s.view.epoch vt.ballot BallotT.zero ChangeT.zero ViewT.zero) [(0,[Value.int .i64 3]),(4,[Value.int .i64 s.view.epoch]),(5,ints vt.ballot.flat)] bk bB (g:=MsgT.sg)) ?_);refine AL 11 ?_;refine XZ m9 (ints MsgT.zero.flat) λb4=>?_
 refine EN (AL 12 ?_);refine SW 0 cj aJ ?_;refine EN (DN ?_)
 exact aF
  SB
  (λ_ s=>ak [2,1,0] rfl s)
  (tl1 ((b4):(Nat)) trivial)
 refine aH rfl ?_ ?_;refine XZ m9 (ints MsgT.zero.flat) λb4=>?_
 refine EN (AL 9 ?_);refine CE ko (bK vb vt) (SM [2]) ?_;refine EN (ta 10 rfl (lY MsgT.zero (MsgT.mk 3 0 RowT.zero 0 s.view.epoch vt.ballot BallotT.zero ChangeT.zero ViewT.zero) [(0,[Value.int .i64 3]),(4,[Value.int .i64 s.view.epoch]),(5,ints vt.ballot.flat)] bk bB (g:=MsgT.sg)) ?_);refine AL 12 ?_;refine SW 1 cj aJ ?_;refine EN (DN ?_)
 exact aF
  SB
  (λ_ s=>ak [2,0,0] rfl s)
  (tl1 ((b4):(Nat)) trivial)
 exact bM;refine aH rfl ?_ ?_;refine XZ m9 (ints MsgT.zero.flat) λb4=>?_
 refine EN (AL 8 ?_);refine LG 1 jv (.pointer (some ⟨vb,0,none⟩)) ?_ (hc:=by exact λa_=>(bZ _ rfl));refine EN (AL 9 ?_);refine CE ko (bK vb vt) (SM [2]) ?_;refine EN (ta 10 rfl (lY MsgT.zero (MsgT.mk 3 0 RowT.zero 0 s.view.epoch vt.ballot BallotT.zero ChangeT.zero ViewT.zero) [(0,[Value.int .i64 3]),(4,[Value.int .i64 s.view.epoch]),(5,ints vt.ballot.flat)] bk bB (g:=MsgT.sg)) ?_);refine AL 12 ?_;refine SW 1 cj aJ ?_;refine EN (DN ?_)
 exact aF
  SB
  (λ_ s=>ak [2,0,0] rfl s)
  (tl1 ((b4):(Nat)) trivial)
 exact bM;refine aH rfl ?_ ?_;refine LG 0 jv (.pointer (some ⟨vb,0,none⟩)) ?_ (hc:=by exact λa_=>(bZ _ rfl));refine EN (cX [4,9,11] (by kernel_rfl) rfl (aH rfl ?_ ?_));refine LG 0 Y3 (.int .i64 (s.view.epoch)) ?_ (hc:=by exact λa_=>(cn (s.rep ⟨(a_:Nat×Value).1,(.pointer (some ⟨vb,0,none⟩)),a_.2⟩) 0 rfl (by decide) (aZ _ rfl)));refine EN (cX [9,11] (by kernel_rfl) rfl (aH rfl ?_ ?_));refine CE ko (bK vb vt) (SM [1]) ?_;refine EN (ta 10 rfl (lY MsgT.zero (MsgT.mk 3 0 RowT.zero 0 s.view.epoch vt.ballot BallotT.zero ChangeT.zero ViewT.zero) [(0,[Value.int .i64 3]),(4,[Value.int .i64 s.view.epoch]),(5,ints vt.ballot.flat)] bk bB (g:=MsgT.sg)) ?_);refine AL 11 ?_;refine XZ m9 (ints MsgT.zero.flat) λb4=>?_
 refine EN (AL 12 ?_);refine SW 0 cj aJ ?_;refine EN (DN ?_)
 exact aF
  SB
  (λ_ s=>ak [2,1,0] rfl s)
  (tl1 ((b4):(Nat)) trivial)
 refine aH rfl ?_ ?_;refine XZ m9 (ints MsgT.zero.flat) λb4=>?_
 refine EN (AL 9 ?_);refine CE ko (bK vb vt) (SM [2]) ?_;refine EN (ta 10 rfl (lY MsgT.zero (MsgT.mk 3 0 RowT.zero 0 s.view.epoch vt.ballot BallotT.zero ChangeT.zero ViewT.zero) [(0,[Value.int .i64 3]),(4,[Value.int .i64 s.view.epoch]),(5,ints vt.ballot.flat)] bk bB (g:=MsgT.sg)) ?_);refine AL 12 ?_;refine SW 1 cj aJ ?_;refine EN (DN ?_)
 exact aF
  SB
  (λ_ s=>ak [2,0,0] rfl s)
  (tl1 ((b4):(Nat)) trivial)
 exact bM;refine aH rfl ?_ ?_;refine CE ko (bK vb vt) (SM [1]) ?_;refine EN (cX [4,11] (by kernel_rfl) rfl (aH rfl ?_ ?_));refine LG 1 Y3 (.int .i64 (s.view.epoch)) ?_ (hc:=by exact λa_=>(cn (s.rep ⟨(a_:Nat×Value).1,(.pointer (some ⟨vb,0,none⟩)),a_.2⟩) 0 rfl (by decide) (aZ _ rfl)));refine EN (ta 10 rfl (lY MsgT.zero (MsgT.mk 3 0 RowT.zero 0 s.view.epoch vt.ballot BallotT.zero ChangeT.zero ViewT.zero) [(0,[Value.int .i64 3]),(4,[Value.int .i64 s.view.epoch]),(5,ints vt.ballot.flat)] bk bB (g:=MsgT.sg)) ?_);refine AL 11 ?_;refine XZ m9 (ints MsgT.zero.flat) λb4=>?_
 refine EN (AL 12 ?_);refine SW 0 cj aJ ?_;refine EN (DN ?_)
 exact aF
  SB
  (λ_ s=>ak [2,1,0] rfl s)
  (tl1 ((b4):(Nat)) trivial)
 refine aH rfl ?_ ?_;refine XZ m9 (ints MsgT.zero.flat) λb4=>?_
 refine EN (AL 4 ?_);refine LG 2 Y3 (.int .i64 (s.view.epoch)) ?_ (hc:=by exact λa_=>(cn (s.rep ⟨(a_:Nat×Value).1,(.pointer (some ⟨vb,0,none⟩)),a_.2⟩) 0 rfl (by decide) (aZ _ rfl)));refine EN (ta 10 rfl (lY MsgT.zero (MsgT.mk 3 0 RowT.zero 0 s.view.epoch vt.ballot BallotT.zero ChangeT.zero ViewT.zero) [(0,[Value.int .i64 3]),(4,[Value.int .i64 s.view.epoch]),(5,ints vt.ballot.flat)] bk bB (g:=MsgT.sg)) ?_);refine AL 12 ?_;refine SW 0 cj aJ ?_;refine EN (DN ?_)
 exact aF
  SB
  (λ_ s=>ak [2,1,0] rfl s)
  (tl1 ((b4):(Nat)) trivial)
 exact bM;refine aH rfl ?_ ?_;refine XZ m9 (ints MsgT.zero.flat) λb4=>?_
 refine EN (cX [4,9] (by kernel_rfl) rfl (aH rfl ?_ ?_));refine LG 1 Y3 (.int .i64 (s.view.epoch)) ?_ (hc:=by exact λa_=>(cn (s.rep ⟨(a_:Nat×Value).1,(.pointer (some ⟨vb,0,none⟩)),a_.2⟩) 0 rfl (by decide) (aZ _ rfl)));refine EN (AL 9 ?_);refine CE ko (bK vb vt) (SM [2]) ?_;refine EN (ta 10 rfl (lY MsgT.zero (MsgT.mk 3 0 RowT.zero 0 s.view.epoch vt.ballot BallotT.zero ChangeT.zero ViewT.zero) [(0,[Value.int .i64 3]),(4,[Value.int .i64 s.view.epoch]),(5,ints vt.ballot.flat)] bk bB (g:=MsgT.sg)) ?_);refine AL 12 ?_;refine SW 1 cj aJ ?_;refine EN (DN ?_)
 exact aF
  SB
  (λ_ s=>ak [2,0,0] rfl s)
  (tl1 ((b4):(Nat)) trivial)
 refine aH rfl ?_ ?_;refine CE ko (bK vb vt) (SM [2]) ?_;refine EN (AL 4 ?_);refine LG 2 Y3 (.int .i64 (s.view.epoch)) ?_ (hc:=by exact λa_=>(cn (s.rep ⟨(a_:Nat×Value).1,(.pointer (some ⟨vb,0,none⟩)),a_.2⟩) 0 rfl (by decide) (aZ _ rfl)));refine EN (ta 10 rfl (lY MsgT.zero (MsgT.mk 3 0 RowT.zero 0 s.view.epoch vt.ballot BallotT.zero ChangeT.zero ViewT.zero) [(0,[Value.int .i64 3]),(4,[Value.int .i64 s.view.epoch]),(5,ints vt.ballot.flat)] bk bB (g:=MsgT.sg)) ?_);refine AL 12 ?_;refine SW 1 cj aJ ?_;refine EN (DN ?_)
 exact aF
  SB
  (λ_ s=>ak [2,0,0] rfl s)
  (tl1 ((b4):(Nat)) trivial)
 exact bM;exact bM;refine aH rfl ?_ ?_;refine XZ m9 (ints MsgT.zero.flat) λb4=>?_
 refine EN (cX [4,8] (by kernel_rfl) rfl (aH rfl ?_ ?_));refine LG 1 Y3 (.int .i64 (s.view.epoch)) ?_ (hc:=by exact λa_=>(cn (s.rep ⟨(a_:Nat×Value).1,(.pointer (some ⟨vb,0,none⟩)),a_.2⟩) 0 rfl (by decide) (aZ _ rfl)));refine EN (AL 8 ?_);refine LG 1 jv (.pointer (some ⟨vb,0,none⟩)) ?_ (hc:=by exact λa_=>(bZ _ rfl));refine EN (AL 9 ?_);refine CE ko (bK vb vt) (SM [2]) ?_;refine EN (ta 10 rfl (lY MsgT.zero (MsgT.mk 3 0 RowT.zero 0 s.view.epoch vt.ballot BallotT.zero ChangeT.zero ViewT.zero) [(0,[Value.int .i64 3]),(4,[Value.int .i64 s.view.epoch]),(5,ints vt.ballot.flat)] bk bB (g:=MsgT.sg)) ?_);refine AL 12 ?_;refine SW 1 cj aJ ?_;refine EN (DN ?_)
 exact aF
  SB
  (λ_ s=>ak [2,0,0] rfl s)
  (tl1 ((b4):(Nat)) trivial)
 refine aH rfl ?_ ?_;refine LG 1 jv (.pointer (some ⟨vb,0,none⟩)) ?_ (hc:=by exact λa_=>(bZ _ rfl));refine EN (cX [4,9] (by kernel_rfl) rfl (aH rfl ?_ ?_));refine LG 1 Y3 (.int .i64 (s.view.epoch)) ?_ (hc:=by exact λa_=>(cn (s.rep ⟨(a_:Nat×Value).1,(.pointer (some ⟨vb,0,none⟩)),a_.2⟩) 0 rfl (by decide) (aZ _ rfl)));refine EN (AL 9 ?_);refine CE ko (bK vb vt) (SM [2]) ?_;refine EN (ta 10 rfl (lY MsgT.zero (MsgT.mk 3 0 RowT.zero 0 s.view.epoch vt.ballot BallotT.zero ChangeT.zero ViewT.zero) [(0,[Value.int .i64 3]),(4,[Value.int .i64 s.view.epoch]),(5,ints vt.ballot.flat)] bk bB (g:=MsgT.sg)) ?_);refine AL 12 ?_;refine SW 1 cj aJ ?_;refine EN (DN ?_)
 exact aF
  SB
  (λ_ s=>ak [2,0,0] rfl s)
  (tl1 ((b4):(Nat)) trivial)
 refine aH rfl ?_ ?_;refine CE ko (bK vb vt) (SM [2]) ?_;refine EN (AL 4 ?_);refine LG 2 Y3 (.int .i64 (s.view.epoch)) ?_ (hc:=by exact λa_=>(cn (s.rep ⟨(a_:Nat×Value).1,(.pointer (some ⟨vb,0,none⟩)),a_.2⟩) 0 rfl (by decide) (aZ _ rfl)));refine EN (ta 10 rfl (lY MsgT.zero (MsgT.mk 3 0 RowT.zero 0 s.view.epoch vt.ballot BallotT.zero ChangeT.zero ViewT.zero) [(0,[Value.int .i64 3]),(4,[Value.int .i64 s.view.epoch]),(5,ints vt.ballot.flat)] bk bB (g:=MsgT.sg)) ?_);refine AL 12 ?_;refine SW 1 cj aJ ?_;refine EN (DN ?_)
 exact aF
  SB
  (λ_ s=>ak [2,0,0] rfl s)
  (tl1 ((b4):(Nat)) trivial)
 exact bM;exact bM;exact bM
theorem tL{δ:Type}(V:Env δ)(r:Nat)(s:MS δ)(vt:VoteT)(hv:s.vote=some vt)(hpt:vt.putting=true)[OkR V.toDk s]:DT 113 #[.pointer (some ⟨r,0,none⟩), .iface V.T V.ov] T0 [cQ V r s] (dB (λ_ H=>H=[cQ V r (jM V.toDk s vt)])):=
 have:OkVt vt:=OkR.vote vt hv
 Leg.Does.ex (λ_ q=>nU hv q) λvb=>y6 V r vb s vt hv hpt
theorem r9{δ:Type}(V:Env δ)(r:Nat)(s:MS δ)(from':Int)(m:MsgT)[OkR V.toDk s][OkMg m](hfe:from'=s.id→m.epoch=s.view.epoch)(hk:m.kind=4):TK V r 105 s from' m (pI V.toDk s from' m):=pF (by omega) (by
 cases hv:s.vote with
 |none=>exact lq V r s (oJ V.toDk from' m) from' m hfe (λe=>by omega) (λe=>by omega) (λ_=>by rw[oJ,show(dz s (max s.round m.ballot.round)).vote=none from hv]) (λ_=>hv)
 |some vt=>
  have hov:OkVt vt:=OkR.vote vt hv;have h:=qE V r s vt from' m hfe (.inl hk) hv (λ_ h2=>tL V r (lp (dz s (max s.round m.ballot.round)) (ff vt from' m.ballot m.had m.change).1) (ff vt from' m.ballot m.had m.change).1 rfl (EM h2))
  rwa [show(λs_:MS δ=>if m.kind=4 then oJ V.toDk from' m s_ else kC V.toDk from' m s_)=oJ V.toDk from' m from funext λ_=>if_pos hk]at h)
theorem y1{δ:Type}(V:Env δ)(r:Nat)(s:MS δ)(from':Int)(m:MsgT)[OkR V.toDk s][OkMg m](hep:m.epoch=s.view.epoch):
 DT 170 #[(.pointer (some ⟨r,0,none⟩)),(.iface V.T V.ov),(.int .i64 (from')),(.agg (ints m.flat).toArray)] T0 [cQ V r s] (dB (λ_ H=>H=[cQ V r (n4 V.toDk from' m s)])):=by
 refine BD 57 Tryz.func170 rfl rfl rfl λw0 F hF=>?_
 have hpm:OkMg (kd m.epoch m.ballot (bY s.acc m.epoch m.ballot).1.had (bY s.acc m.epoch m.ballot).1.change):=OkMg.promM m.epoch inferInstance;refine sr λ_ J1=>XY (ints m.flat) λb7=>?_
 refine nx J1 (aa λ_ J2=>fC (α:=(Nat)) (λb8=>True) (λb8=>[(0,(.pointer (some ⟨r,0,none⟩))),(1,(.iface V.T V.ov)),(2,(.int .i64 (from'))),(7,(.pointer (some ⟨b7,0,none⟩))),(8,(.pointer (some ⟨b8,0,none⟩))),(9,(.bool ((bY s.acc m.epoch m.ballot).2)))]) (λb8=>[cQ V r s,am b7 (ints m.flat) 178,am b8 (ints ((bY s.acc m.epoch m.ballot).1).flat) 118]) (λb8 hinv=>?_) (λtl2=>?_));have _:=hinv;refine ac J2 (aa λ_ J3=>sr λ_ J4=>PS ?_);refine bf ?_ ?_<;>intro h22;refine PS ?_;refine nx J4 (CN (qx J3 (aa λ_ J5=>aa λ_ J6=>DC bp (BL 2) (c9 0 rfl rfl) ?_)));refine FD 0 1 jB cI ?_;refine ta 1 rfl (aO (vs:=ints (((bY s.acc m.epoch m.ballot).1).vow).flat) rfl kW rfl cI rfl (λ_ h=>h.2.1) (ap (((bY s.acc m.epoch m.ballot).1).vow)) (RB ((bY s.acc m.epoch m.ballot).1) 0 rfl (by decide) (whole (ap (((bY s.acc m.epoch m.ballot).1).vow))))) ?_;refine PD 2 ?_;refine PD 3 ?_;refine FD 4 1058 bo dM ?_;refine FD 5 1059 jB cI ?_;refine ta 6 rfl (gD (vs:=ints s.acc.vow.flat) rfl kW rfl cI rfl (λ_ h=>h.2.2.1) (ap s.acc.vow) (λa_=>(zv (s.rep a_) 1 rfl (by decide) (RB ((s.rep a_).acc) 0 rfl (by decide) (whole (ap (((s.rep a_).acc).vow))))))) ?_
 refine ta 7 rfl (EE (a:=(((bY s.acc m.epoch m.ballot).1).vow).flat) (b:=s.acc.vow.flat) (m:=6) (c:=2) Nt Nr rfl N0 (dA (ap (((bY s.acc m.epoch m.ballot).1).vow))) (dA (ap s.acc.vow)) ⟨gx IM IU (dA (ap (((bY s.acc m.epoch m.ballot).1).vow))),gx IM IU (dA (ap s.acc.vow))⟩ (OkAc.vow inferInstance) (OkAc.vow inferInstance) rfl rfl rfl) ?_;refine iK ?_ ?_<;>intro h31;refine DN (ac J6 (CY (aa λ_ J7=>sr λ_ J8=>PS ?_)));refine FA 177 bk aQ ?_;refine LU 1 Y3 (e6 m rfl) ?_;refine FA 178 bk cI ?_;refine LV 1 kW cI ap py (y:=m.ballot) ?_;refine tp (lY RecT.zero (RecT.mk 3 0 RowT.zero m.epoch m.ballot ChangeT.zero ViewT.zero) [(0,[Value.int .i64 3]),(3,[Value.int .i64 m.epoch]),(4,ints m.ballot.flat)] jD fD (g:=RecT.sg)) ?_;refine CE xT (l6 V r s (gZ m.epoch m.ballot)) ID ?_;refine PS ?_;refine ao ?_ ?_<;>intro h39;refine nx J8 (CY (aj (af (af (WK [0] (dW rfl ?_))))));exact MQ (by rw[n4,if_neg (by rw[h22];decide),if_pos h31,if_pos h39]);refine nx J8 (CN (qx J7 (ae (PS ?_))));refine LW 2 jB dM bi ?_;refine PS ?_;refine FA 1058 bo dM ?_
 refine iw (vs:=ints ((bY s.acc m.epoch m.ballot).1).flat) (i:=0) (ab rfl) rfl rfl rfl rfl rfl (by rw[(bi ((bY s.acc m.epoch m.ballot).1))];exact dM) (bF _) rfl rfl (λ_=>LC (c8 _) (bi _)) (λa_=>(li ((dw V.toDk s (gZ m.epoch m.ballot)).rep a_) 0 rfl (by have h1:=(bi ((bY s.acc m.epoch m.ballot).1));omega) (cy ((bi (((dw V.toDk s (gZ m.epoch m.ballot)).rep a_).acc)).trans (bi ((bY s.acc m.epoch m.ballot).1)).symm)))) (nx J5 (ae (P3 ?_)));refine FA 177 bk aQ ?_;refine LU 1 Y3 (e6 m rfl) ?_;refine FA 178 bk cI ?_;refine LV 1 kW cI ap py (y:=m.ballot) ?_;refine FA 3 jB cI ?_;refine LV 2 kW cI ap AccT.sp_had (y:=(((bY s.acc m.epoch m.ballot).1).had)) ?_;refine FA 5 jB gg ?_;refine LV 2 n9 gg aM AccT.sp_change (y:=(((bY s.acc m.epoch m.ballot).1).change)) ?_;refine tp (lY MsgT.zero (MsgT.mk 4 0 RowT.zero 0 m.epoch m.ballot (((bY s.acc m.epoch m.ballot).1).had) (((bY s.acc m.epoch m.ballot).1).change) ViewT.zero) [(0,[Value.int .i64 4]),(4,[Value.int .i64 m.epoch]),(5,ints m.ballot.flat),(6,ints (((bY s.acc m.epoch m.ballot).1).had).flat),(7,ints (((bY s.acc m.epoch m.ballot).1).change).flat)] bk bB (g:=MsgT.sg)) ?_
 refine CZ jP (gL V r (vu (dw V.toDk s (gZ m.epoch m.ballot)) (bY s.acc m.epoch m.ballot).1) from' (kd m.epoch m.ballot (bY s.acc m.epoch m.ballot).1.had (bY s.acc m.epoch m.ballot).1.change) (λs_=>pI V.toDk s_ s_.id (kd m.epoch m.ballot (bY s.acc m.epoch m.ballot).1.had (bY s.acc m.epoch m.ballot).1.change)) (λ_=>r9 V r (vu (dw V.toDk s (gZ m.epoch m.ballot)) (bY s.acc m.epoch m.ballot).1) (vu (dw V.toDk s (gZ m.epoch m.ballot)) (bY s.acc m.epoch m.ballot).1).id (kd m.epoch m.ballot (bY s.acc m.epoch m.ballot).1.had (bY s.acc m.epoch m.ballot).1.change) (λ_=>hep) rfl)) ID λvR=>?_
 refine au (WK [0] (bG rfl ?_));exact MQ (by rw[n4,if_neg (by rw[h22];decide),if_pos h31,if_neg h39];rfl);refine DN (ac J6 (CN (qx J5 (ae (P3 ?_)))));refine FA 177 bk aQ ?_;refine LU 1 Y3 (e6 m rfl) ?_;refine FA 178 bk cI ?_;refine LV 1 kW cI ap py (y:=m.ballot) ?_;refine FA 3 jB cI ?_;refine LV 2 kW cI ap AccT.sp_had (y:=(((bY s.acc m.epoch m.ballot).1).had)) ?_;refine FA 5 jB gg ?_;refine LV 2 n9 gg aM AccT.sp_change (y:=(((bY s.acc m.epoch m.ballot).1).change)) ?_;refine tp (lY MsgT.zero (MsgT.mk 4 0 RowT.zero 0 m.epoch m.ballot (((bY s.acc m.epoch m.ballot).1).had) (((bY s.acc m.epoch m.ballot).1).change) ViewT.zero) [(0,[Value.int .i64 4]),(4,[Value.int .i64 m.epoch]),(5,ints m.ballot.flat),(6,ints (((bY s.acc m.epoch m.ballot).1).had).flat),(7,ints (((bY s.acc m.epoch m.ballot).1).change).flat)] bk bB (g:=MsgT.sg)) ?_;refine CZ jP (gL V r s from' (kd m.epoch m.ballot (bY s.acc m.epoch m.ballot).1.had (bY s.acc m.epoch m.ballot).1.change) (λs_=>pI V.toDk s_ s_.id (kd m.epoch m.ballot (bY s.acc m.epoch m.ballot).1.had (bY s.acc m.epoch m.ballot).1.change)) (λ_=>r9 V r s s.id (kd m.epoch m.ballot (bY s.acc m.epoch m.ballot).1.had (bY s.acc m.epoch m.ballot).1.change) (λ_=>hep) rfl)) ID λvR=>?_
 refine au (WK [0] (bG rfl ?_));exact MQ (by rw[n4,if_neg (by rw[h22];decide),if_neg h31];rfl);refine PS ?_;refine nx J4 (CY (aj (af (WK [0] (dW rfl ?_)))));exact MQ (by rw[n4,if_pos h22]);refine DC bp (c9 1 rfl rfl) (BL 0) ?_;refine PD 0 ?_;refine PD 1 ?_;refine FD 2 1058 bo dM ?_;refine ta 3 rfl (gD (vs:=ints s.acc.flat) rfl jB rfl dM rfl (λ_ h=>h.2.1) (bi s.acc) (λa_=>(zv (s.rep a_) 0 rfl (by decide) (whole (bi ((s.rep a_).acc)))))) ?_;refine FD 4 177 bk aQ ?_;refine LR 5 Y3 (e6 m rfl) ?_;refine FD 6 178 bk cI ?_;refine ta 7 rfl (aO (vs:=ints m.ballot.flat) rfl kW rfl cI rfl (λ_ h=>h.2.2.1) (ap m.ballot) (jF m 0 rfl (by decide) (whole (ap m.ballot)))) ?_;refine cX [8,12] (by kernel_rfl) rfl (aH rfl ?_ ?_);refine CE GJ (oF s.acc m.epoch m.ballot) ID ?_;refine EN (PD 9 ?_);refine PD 10 ?_;refine PD 11 ?_;refine oc ?_ ?_<;>intro h21;refine AL 12 ?_;refine XZ wV (ints AccT.zero.flat) λb8=>?_
 refine EN (AL 13 ?_);refine SW 0 dM bi ?_;refine EN (PD 14 ?_);refine DN ?_
 exact aF
  (aS (aS (aS (aS (aS (bv rfl (by rw[h21]) SB))))))
  (λ_ s=>ak [2,1,0] rfl s)
  (tl2 ((b8):(Nat)) trivial)
 refine AL 12 ?_;refine XZ wV (ints AccT.zero.flat) λb8=>?_
 refine EN (AL 13 ?_);refine SW 0 dM bi ?_;refine EN (PD 14 ?_);refine DN ?_
 exact aF
  (aS (aS (aS (aS (aS (bv rfl (by rw[h21]) SB))))))
  (λ_ s=>ak [2,1,0] rfl s)
  (tl2 ((b8):(Nat)) trivial)
 refine aH rfl ?_ ?_;refine XZ wV (ints AccT.zero.flat) λb8=>?_
 refine EN (AL 8 ?_);refine CE GJ (oF s.acc m.epoch m.ballot) ID ?_;refine EN (PD 9 ?_);refine PD 10 ?_;refine PD 11 ?_;refine oc ?_ ?_<;>intro h21;refine AL 13 ?_;refine SW 0 dM bi ?_;refine EN (PD 14 ?_);refine DN ?_
 exact aF
  (aS (aS (aS (aS (aS (bv rfl (by rw[h21]) SB))))))
  (λ_ s=>ak [2,1,0] rfl s)
  (tl2 ((b8):(Nat)) trivial)
 refine AL 13 ?_;refine SW 0 dM bi ?_;refine EN (PD 14 ?_);refine DN ?_
 exact aF
  (aS (aS (aS (aS (aS (bv rfl (by rw[h21]) SB))))))
  (λ_ s=>ak [2,1,0] rfl s)
  (tl2 ((b8):(Nat)) trivial)
 exact bM
theorem xf{δ:Type}(V:Env δ)(r:Nat)(s:MS δ)(from':Int)(m:MsgT)[OkR V.toDk s][OkMg m](hfe:from'=s.id→m.epoch=s.view.epoch)(hk:m.kind=3):TK V r 105 s from' m (qH V.toDk s from' m):=pF (by omega) (lq V r s (n4 V.toDk from' m) from' m hfe (λ_ hep=>y1 V r (dz s (max s.round m.ballot.round)) from' m hep) (λe _=>by omega) (λe=>by omega) (λe=>by omega))
theorem y7{δ:Type}(V:Env δ)(r vb:Nat)(s:MS δ)(vt:VoteT)(hv:s.vote=some vt)(hpt:vt.putting=false)[OkR V.toDk s][OkVt vt]:
 DT 113 #[(.pointer (some ⟨r,0,none⟩)),(.iface V.T V.ov)] T0 [wS V r s (.pointer (some ⟨vb,0,none⟩)),am vb (VoteT.cells vt) 227] (dB (λ_ H=>H=[cQ V r (lC V.toDk s vt)])):=by
 refine BD 68 Tryz.func113 rfl rfl rfl λw0 F hF=>aa λ_ J1=>fC (α:=(Nat)) (λb4=>True) (λb4=>[(0,(.pointer (some ⟨r,0,none⟩))),(1,(.iface V.T V.ov)),(4,(.pointer (some ⟨b4,0,none⟩)))]) (λb4=>[wS V r s (.pointer (some ⟨vb,0,none⟩)),am vb (VoteT.cells vt) 227,am b4 (ints (fJ s.view.epoch vt.ballot).flat) 178]) (λb4 hinv=>?_) (λtl1=>?_)
 have _:=hinv;refine ac J1 (aa λ_ J2=>sr λ_ J3=>P2 ?_);refine FA 1067 bo jL ?_;refine LG 0 jv (.pointer (some ⟨vb,0,none⟩)) ?_ (hc:=by exact λa_=>(bZ _ rfl));refine CE MW (oY vb vt) (SM [1]) ?_;refine bf ?_ ?_<;>intro h22
 · rw[hpt]at h22;cases h22
 refine nx J3 (CN (qx J2 (sr λ_ J4=>cJ (H':=cQ V r s::[am b4 (ints (fJ s.view.epoch vt.ballot).flat) 178]) (λ_ q=>pm hv (aD [1,0] rfl q)) (P2 ?_))));refine FA 2 bo bm ?_;refine LZ 0 eX bm an s.view ?_ (hc:=by exact λ_=>c7 _);refine XZ sY (ints ViewT.zero.flat) λb5=>?_
 refine SW 0 bm an ?_;refine nx J4 (aa λ_ J5=>sr λ_ J6=>PS ?_);refine nx J6 (aq ?_)
 refine bA (α:=(Nat)) (λk=>k≤5) (λk=>[(0,(.pointer (some ⟨r,0,none⟩))),(1,(.iface V.T V.ov)),(4,(.pointer (some ⟨b4,0,none⟩))),(5,(.pointer (some ⟨b5,0,none⟩))),(34,(.int .i64 (((k:Nat):Int))))]) (λk=>[am b5 (ints s.view.flat) 44,am b4 (ints (fJ s.view.epoch vt.ballot).flat) 178,cQ V r (gE V.toDk s (nj s.id (fJ s.view.epoch vt.ballot) (λi=>ju s.view ((i:Nat):Int)) k))]) (λk=>5-k) 0
  (aN _) SB
  (λ_ q=>by
  rw[show nj s.id (fJ s.view.epoch vt.ballot) (λi=>ju s.view ((i:Nat):Int)) 0=[]from rfl,qN]
  exact ak [0,1,0] rfl q) (λk hinv=>?_)
 obtain hk:=hinv;refine sr λ_ J7=>PS ?_
 refine ao ?_ ?_<;>intro h35;refine nx J7 (aa λ_ J8=>CY (qx J8 (aa λ_ J9=>aq (sr λ_ J10=>P2 ?_))));refine nx J10 (sr λ_ J11=>P3 ?_);refine FA 0 bo aQ ?_;refine LG 2 Y3 (.int .i64 (s.id)) ?_ (hc:=by exact λa_=>(cN _ rfl));refine PS ?_;refine ao ?_ ?_<;>intro h42;refine PS ?_;refine LW 0 eX bm an ?_;refine PS ?_;refine CE qR (dP s.view ((k:Nat):Int)) ID ?_;refine bf ?_ ?_<;>intro h46;refine PS ?_;refine nx J11 (CY (ae (P3 ?_)));refine LW 1 bk cj aJ ?_;refine CZ jP (pc V r s (nj s.id (fJ s.view.epoch vt.ballot) (λi=>ju s.view ((i:Nat):Int)) k) ((k:Nat):Int) (fJ s.view.epoch vt.ballot) h42) (SM [2]) λvR=>?_
 refine au (ag (ac J9 (ae (AD ?_))));refine PS ?_;refine au ?_
 exact aK ((k+1):(Nat)) (by omega) (by show 5- (k+1)<5-k;omega)
  SB
  (λ_ q=>by
   rw[jp,if_pos ⟨h42,h46⟩]
   exact ak [1,1,0] rfl q)
 refine PS ?_;refine nx J11 (CN (aU (ag (ac J9 (ae (AD ?_))))));refine PS ?_;refine au ?_
 exact aK ((k+1):(Nat)) (by omega) (by show 5- (k+1)<5-k;omega)
  SB
  (λ_ q=>by
   rw[jp,if_neg (λh=>by have:=h.2;rw[h46]at this;cases this)];rw[aR]
   exact ak [0,0,0] rfl q)
 refine PS ?_
 iterate 3 refine UF ?_
 refine PS ?_;refine nx J11 (CN (aU (ag (ac J9 (ae (AD ?_))))));refine PS ?_;refine au ?_
 exact aK ((k+1):(Nat)) (by omega) (by show 5- (k+1)<5-k;omega)
  SB
  (λ_ q=>by
   rw[jp,if_neg (λh=>h42 h.1)];rw[aR]
   exact ak [0,0,0] rfl q)
 obtain rfl:k=5:=by omega
 refine nx J7 (aa λ_ J12=>CN (aX (aA (aA (bu (ac J5 (aa λ_ J13=>DC bp (BL 0) (c9 2 rfl rfl) ?_)))))));refine LY 0 eX bm an ?_;refine PD 1 ?_;refine PD 2 ?_;refine FD 3 0 bo aQ ?_;refine ta 4 rfl (dy (v:=(.int .i64 ((jt V.toDk s (fJ s.view.epoch vt.ballot)).id))) rfl Y3 rfl rfl (λ_ h=>h.2.2.1) (λa_=>(cN _ rfl))) ?_;refine AL 5 ?_;refine CE qR (dP s.view ((jt V.toDk s (fJ s.view.epoch vt.ballot)).id)) ID ?_;refine bf ?_ ?_<;>intro h59;refine EN (DN (ac J13 (CY (D1 1 bp ?_))));refine PD 0 ?_;refine PD 1 ?_;refine PD 2 ?_;refine PD 3 ?_;refine FD 4 0 bo aQ ?_;refine LY 6 bk cj aJ ?_;refine AL 5 ?_;refine LG 2 Y3 (.int .i64 ((jt V.toDk s (fJ s.view.epoch vt.ballot)).id)) ?_ (hc:=by exact λa_=>(cN _ rfl));refine EN (AL 7 ?_);refine CZ jP (gL V r (jt V.toDk s (fJ s.view.epoch vt.ballot)) s.id (fJ s.view.epoch vt.ballot) (λs_=>qH V.toDk s_ s_.id (fJ s.view.epoch vt.ballot)) (λ_=>xf V r (jt V.toDk s (fJ s.view.epoch vt.ballot)) s.id (fJ s.view.epoch vt.ballot) (λ_=>rfl) rfl)) (SM [2]) λvR=>?_
 refine EN (DN (WK [0] (bG rfl ?_)));exact MQ (by rw[lC,jc,if_pos (show ju s.view s.id=true from h59),mZ,if_pos (show s.id=(jt V.toDk s (fJ s.view.epoch vt.ballot)).id from rfl)]<;>rfl);refine EN (DN (ac J13 (CN (aU (WK [2] (bG rfl ?_))))));exact MQ (by rw[lC,jc,if_neg (by rw[show ju s.view s.id=false from h59];decide)]<;>rfl);refine D1 1 bp ?_;refine PD 0 ?_;refine PD 1 ?_;refine FD 2 2 bo bm ?_;refine FD 3 2 eX aQ ?_;refine PD 5 ?_;refine PD 6 ?_;refine FD 7 1067 bo jL ?_;refine cX [4,8,11] (by kernel_rfl) rfl (aH rfl ?_ ?_);refine LG 0 Y3 (.int .i64 (s.view.epoch)) ?_ (hc:=by exact λa_=>(cn (s.rep ⟨(a_:Nat×Value).1,(.pointer (some ⟨vb,0,none⟩)),a_.2⟩) 0 rfl (by decide) (aZ _ rfl)));refine EN (cX [8,11] (by kernel_rfl) rfl (aH rfl ?_ ?_));refine LG 0 jv (.pointer (some ⟨vb,0,none⟩)) ?_ (hc:=by exact λa_=>(bZ _ rfl));refine EN (cX [9,11] (by kernel_rfl) rfl (aH rfl ?_ ?_));refine CE ko (bK vb vt) (SM [1]) ?_;refine EN (ta 10 rfl (lY MsgT.zero (MsgT.mk 3 0 RowT.zero 0 s.view.epoch vt.ballot BallotT.zero ChangeT.zero ViewT.zero) [(0,[Value.int .i64 3]),(4,[Value.int .i64 s.view.epoch]),(5,ints vt.ballot.flat)] bk bB (g:=MsgT.sg)) ?_);refine AL 11 ?_;refine XZ m9 (ints MsgT.zero.flat) λb4=>?_
 refine EN (AL 12 ?_);refine SW 0 cj aJ ?_;refine EN (DN ?_)
 exact aF
  SB
  (λ_ s=>ak [2,1,0] rfl s)
  (tl1 ((b4):(Nat)) trivial)
 refine aH rfl ?_ ?_;refine XZ m9 (ints MsgT.zero.flat) λb4=>?_
 refine EN (AL 9 ?_);refine CE ko (bK vb vt) (SM [2]) ?_;refine EN (ta 10 rfl (lY MsgT.zero (MsgT.mk 3 0 RowT.zero 0 s.view.epoch vt.ballot BallotT.zero ChangeT.zero ViewT.zero) [(0,[Value.int .i64 3]),(4,[Value.int .i64 s.view.epoch]),(5,ints vt.ballot.flat)] bk bB (g:=MsgT.sg)) ?_);refine AL 12 ?_;refine SW 1 cj aJ ?_;refine EN (DN ?_)
 exact aF
  SB
  (λ_ s=>ak [2,0,0] rfl s)
  (tl1 ((b4):(Nat)) trivial)
 exact bM;refine aH rfl ?_ ?_;refine XZ m9 (ints MsgT.zero.flat) λb4=>?_
 refine EN (AL 8 ?_);refine LG 1 jv (.pointer (some ⟨vb,0,none⟩)) ?_ (hc:=by exact λa_=>(bZ _ rfl));refine EN (AL 9 ?_);refine CE ko (bK vb vt) (SM [2]) ?_;refine EN (ta 10 rfl (lY MsgT.zero (MsgT.mk 3 0 RowT.zero 0 s.view.epoch vt.ballot BallotT.zero ChangeT.zero ViewT.zero) [(0,[Value.int .i64 3]),(4,[Value.int .i64 s.view.epoch]),(5,ints vt.ballot.flat)] bk bB (g:=MsgT.sg)) ?_);refine AL 12 ?_;refine SW 1 cj aJ ?_;refine EN (DN ?_)
 exact aF
  SB
  (λ_ s=>ak [2,0,0] rfl s)
  (tl1 ((b4):(Nat)) trivial)
 exact bM;refine aH rfl ?_ ?_;refine LG 0 jv (.pointer (some ⟨vb,0,none⟩)) ?_ (hc:=by exact λa_=>(bZ _ rfl));refine EN (cX [4,9,11] (by kernel_rfl) rfl (aH rfl ?_ ?_));refine LG 0 Y3 (.int .i64 (s.view.epoch)) ?_ (hc:=by exact λa_=>(cn (s.rep ⟨(a_:Nat×Value).1,(.pointer (some ⟨vb,0,none⟩)),a_.2⟩) 0 rfl (by decide) (aZ _ rfl)));refine EN (cX [9,11] (by kernel_rfl) rfl (aH rfl ?_ ?_));refine CE ko (bK vb vt) (SM [1]) ?_;refine EN (ta 10 rfl (lY MsgT.zero (MsgT.mk 3 0 RowT.zero 0 s.view.epoch vt.ballot BallotT.zero ChangeT.zero ViewT.zero) [(0,[Value.int .i64 3]),(4,[Value.int .i64 s.view.epoch]),(5,ints vt.ballot.flat)] bk bB (g:=MsgT.sg)) ?_);refine AL 11 ?_;refine XZ m9 (ints MsgT.zero.flat) λb4=>?_
 refine EN (AL 12 ?_);refine SW 0 cj aJ ?_;refine EN (DN ?_)
 exact aF
  SB
  (λ_ s=>ak [2,1,0] rfl s)
  (tl1 ((b4):(Nat)) trivial)
 refine aH rfl ?_ ?_;refine XZ m9 (ints MsgT.zero.flat) λb4=>?_
 refine EN (AL 9 ?_);refine CE ko (bK vb vt) (SM [2]) ?_;refine EN (ta 10 rfl (lY MsgT.zero (MsgT.mk 3 0 RowT.zero 0 s.view.epoch vt.ballot BallotT.zero ChangeT.zero ViewT.zero) [(0,[Value.int .i64 3]),(4,[Value.int .i64 s.view.epoch]),(5,ints vt.ballot.flat)] bk bB (g:=MsgT.sg)) ?_);refine AL 12 ?_;refine SW 1 cj aJ ?_;refine EN (DN ?_)
 exact aF
  SB
  (λ_ s=>ak [2,0,0] rfl s)
  (tl1 ((b4):(Nat)) trivial)
 exact bM;refine aH rfl ?_ ?_;refine CE ko (bK vb vt) (SM [1]) ?_;refine EN (cX [4,11] (by kernel_rfl) rfl (aH rfl ?_ ?_));refine LG 1 Y3 (.int .i64 (s.view.epoch)) ?_ (hc:=by exact λa_=>(cn (s.rep ⟨(a_:Nat×Value).1,(.pointer (some ⟨vb,0,none⟩)),a_.2⟩) 0 rfl (by decide) (aZ _ rfl)));refine EN (ta 10 rfl (lY MsgT.zero (MsgT.mk 3 0 RowT.zero 0 s.view.epoch vt.ballot BallotT.zero ChangeT.zero ViewT.zero) [(0,[Value.int .i64 3]),(4,[Value.int .i64 s.view.epoch]),(5,ints vt.ballot.flat)] bk bB (g:=MsgT.sg)) ?_);refine AL 11 ?_;refine XZ m9 (ints MsgT.zero.flat) λb4=>?_
 refine EN (AL 12 ?_);refine SW 0 cj aJ ?_;refine EN (DN ?_)
 exact aF
  SB
  (λ_ s=>ak [2,1,0] rfl s)
  (tl1 ((b4):(Nat)) trivial)
 refine aH rfl ?_ ?_;refine XZ m9 (ints MsgT.zero.flat) λb4=>?_
 refine EN (AL 4 ?_);refine LG 2 Y3 (.int .i64 (s.view.epoch)) ?_ (hc:=by exact λa_=>(cn (s.rep ⟨(a_:Nat×Value).1,(.pointer (some ⟨vb,0,none⟩)),a_.2⟩) 0 rfl (by decide) (aZ _ rfl)));refine EN (ta 10 rfl (lY MsgT.zero (MsgT.mk 3 0 RowT.zero 0 s.view.epoch vt.ballot BallotT.zero ChangeT.zero ViewT.zero) [(0,[Value.int .i64 3]),(4,[Value.int .i64 s.view.epoch]),(5,ints vt.ballot.flat)] bk bB (g:=MsgT.sg)) ?_);refine AL 12 ?_;refine SW 0 cj aJ ?_;refine EN (DN ?_)
 exact aF
  SB
  (λ_ s=>ak [2,1,0] rfl s)
  (tl1 ((b4):(Nat)) trivial)
 exact bM;refine aH rfl ?_ ?_;refine XZ m9 (ints MsgT.zero.flat) λb4=>?_
 refine EN (cX [4,9] (by kernel_rfl) rfl (aH rfl ?_ ?_));refine LG 1 Y3 (.int .i64 (s.view.epoch)) ?_ (hc:=by exact λa_=>(cn (s.rep ⟨(a_:Nat×Value).1,(.pointer (some ⟨vb,0,none⟩)),a_.2⟩) 0 rfl (by decide) (aZ _ rfl)));refine EN (AL 9 ?_);refine CE ko (bK vb vt) (SM [2]) ?_;refine EN (ta 10 rfl (lY MsgT.zero (MsgT.mk 3 0 RowT.zero 0 s.view.epoch vt.ballot BallotT.zero ChangeT.zero ViewT.zero) [(0,[Value.int .i64 3]),(4,[Value.int .i64 s.view.epoch]),(5,ints vt.ballot.flat)] bk bB (g:=MsgT.sg)) ?_);refine AL 12 ?_;refine SW 1 cj aJ ?_;refine EN (DN ?_)
 exact aF
  SB
  (λ_ s=>ak [2,0,0] rfl s)
  (tl1 ((b4):(Nat)) trivial)
 refine aH rfl ?_ ?_;refine CE ko (bK vb vt) (SM [2]) ?_;refine EN (AL 4 ?_);refine LG 2 Y3 (.int .i64 (s.view.epoch)) ?_ (hc:=by exact λa_=>(cn (s.rep ⟨(a_:Nat×Value).1,(.pointer (some ⟨vb,0,none⟩)),a_.2⟩) 0 rfl (by decide) (aZ _ rfl)));refine EN (ta 10 rfl (lY MsgT.zero (MsgT.mk 3 0 RowT.zero 0 s.view.epoch vt.ballot BallotT.zero ChangeT.zero ViewT.zero) [(0,[Value.int .i64 3]),(4,[Value.int .i64 s.view.epoch]),(5,ints vt.ballot.flat)] bk bB (g:=MsgT.sg)) ?_);refine AL 12 ?_;refine SW 1 cj aJ ?_;refine EN (DN ?_)
 exact aF
  SB
  (λ_ s=>ak [2,0,0] rfl s)
  (tl1 ((b4):(Nat)) trivial)
 exact bM;exact bM;refine aH rfl ?_ ?_;refine XZ m9 (ints MsgT.zero.flat) λb4=>?_
 refine EN (cX [4,8] (by kernel_rfl) rfl (aH rfl ?_ ?_));refine LG 1 Y3 (.int .i64 (s.view.epoch)) ?_ (hc:=by exact λa_=>(cn (s.rep ⟨(a_:Nat×Value).1,(.pointer (some ⟨vb,0,none⟩)),a_.2⟩) 0 rfl (by decide) (aZ _ rfl)));refine EN (AL 8 ?_);refine LG 1 jv (.pointer (some ⟨vb,0,none⟩)) ?_ (hc:=by exact λa_=>(bZ _ rfl));refine EN (AL 9 ?_);refine CE ko (bK vb vt) (SM [2]) ?_;refine EN (ta 10 rfl (lY MsgT.zero (MsgT.mk 3 0 RowT.zero 0 s.view.epoch vt.ballot BallotT.zero ChangeT.zero ViewT.zero) [(0,[Value.int .i64 3]),(4,[Value.int .i64 s.view.epoch]),(5,ints vt.ballot.flat)] bk bB (g:=MsgT.sg)) ?_);refine AL 12 ?_;refine SW 1 cj aJ ?_;refine EN (DN ?_)
 exact aF
  SB
  (λ_ s=>ak [2,0,0] rfl s)
  (tl1 ((b4):(Nat)) trivial)
 refine aH rfl ?_ ?_;refine LG 1 jv (.pointer (some ⟨vb,0,none⟩)) ?_ (hc:=by exact λa_=>(bZ _ rfl));refine EN (cX [4,9] (by kernel_rfl) rfl (aH rfl ?_ ?_));refine LG 1 Y3 (.int .i64 (s.view.epoch)) ?_ (hc:=by exact λa_=>(cn (s.rep ⟨(a_:Nat×Value).1,(.pointer (some ⟨vb,0,none⟩)),a_.2⟩) 0 rfl (by decide) (aZ _ rfl)));refine EN (AL 9 ?_);refine CE ko (bK vb vt) (SM [2]) ?_;refine EN (ta 10 rfl (lY MsgT.zero (MsgT.mk 3 0 RowT.zero 0 s.view.epoch vt.ballot BallotT.zero ChangeT.zero ViewT.zero) [(0,[Value.int .i64 3]),(4,[Value.int .i64 s.view.epoch]),(5,ints vt.ballot.flat)] bk bB (g:=MsgT.sg)) ?_);refine AL 12 ?_;refine SW 1 cj aJ ?_;refine EN (DN ?_)
 exact aF
  SB
  (λ_ s=>ak [2,0,0] rfl s)
  (tl1 ((b4):(Nat)) trivial)
 refine aH rfl ?_ ?_;refine CE ko (bK vb vt) (SM [2]) ?_;refine EN (AL 4 ?_);refine LG 2 Y3 (.int .i64 (s.view.epoch)) ?_ (hc:=by exact λa_=>(cn (s.rep ⟨(a_:Nat×Value).1,(.pointer (some ⟨vb,0,none⟩)),a_.2⟩) 0 rfl (by decide) (aZ _ rfl)));refine EN (ta 10 rfl (lY MsgT.zero (MsgT.mk 3 0 RowT.zero 0 s.view.epoch vt.ballot BallotT.zero ChangeT.zero ViewT.zero) [(0,[Value.int .i64 3]),(4,[Value.int .i64 s.view.epoch]),(5,ints vt.ballot.flat)] bk bB (g:=MsgT.sg)) ?_);refine AL 12 ?_;refine SW 1 cj aJ ?_;refine EN (DN ?_)
 exact aF
  SB
  (λ_ s=>ak [2,0,0] rfl s)
  (tl1 ((b4):(Nat)) trivial)
 exact bM;exact bM;exact bM
theorem Br{δ:Type}(V:Env δ)(r:Nat)(s:MS δ)(vt:VoteT)(hv:s.vote=some vt)(hpt:vt.putting=false)[OkR V.toDk s]:DT 113 #[.pointer (some ⟨r,0,none⟩), .iface V.T V.ov] T0 [cQ V r s] (dB (λ_ H=>H=[cQ V r (lC V.toDk s vt)])):=
 have:OkVt vt:=OkR.vote vt hv
 Leg.Does.ex (λ_ q=>nU hv q) λvb=>y7 V r vb s vt hv hpt
theorem sj{δ:Type}(V:Env δ)(r:Nat)(s:MS δ)(vt:VoteT)(hv:s.vote=some vt)[OkR V.toDk s]:DT 113 #[.pointer (some ⟨r,0,none⟩), .iface V.T V.ov] T0 [cQ V r s] (dB (λ_ H=>H=[cQ V r (m6 V.toDk s vt)])):=by
 cases hp:vt.putting with
 |true=>rw[m6,if_pos hp];exact tL V r s vt hv hp
 |false=>rw[m6,if_neg (by rw[hp];decide)];exact Br V r s vt hv hp
theorem A7{δ:Type}(V:Env δ)(r:Nat)(s:MS δ)(from':Int)(m:MsgT)[OkR V.toDk s][OkMg m](hto:from'≠s.id)(hrs:s.replies.length≤1000000):TK V r 105 s from' m (gk V.toDk s from' m):=by
 have hfe:from'=s.id→m.epoch=s.view.epoch:=λe=>absurd e hto
 by_cases h3:m.kind=3
 · rw[gk];simp only[h3];exact xf V r s from' m hfe h3
 by_cases h4:m.kind=4
 · rw[gk];simp only[h4];exact r9 V r s from' m hfe h4
 by_cases h5:m.kind=5
 · rw[gk];simp only[h5];exact xe V r s from' m hfe h5
 by_cases h6:m.kind=6
 · rw[gk];simp only[h6];exact rZ V r s from' m hfe h6
 refine pG V r s _ from' m (λh=>?_) (λh=>?_) (λh=>?_) (λh=>?_) (λh=>?_) (λh=>?_) (λh=>by omega) (λh=>?_)
 · rw[gk,if_pos h];exact yY V r s from' m hto
 · rw[gk,if_neg (by omega),if_pos h];exact xd V r s from' m hrs
 · rw[gk,if_neg (by omega),if_neg (by omega),if_pos h]
 · rw[gk,if_neg (by omega),if_neg (by omega),if_neg (by omega),if_pos h];exact vZ V r s m.view
 · rw[gk,if_neg (by omega),if_neg (by omega),if_neg (by omega),if_neg (by omega),if_pos h];exact xc V r s from' m
 · rw[gk,if_neg (by omega),if_neg (by omega),if_neg (by omega),if_neg (by omega),if_neg (by omega),if_pos h];exact o8 V r s from' m
 · rw[gk,if_neg h.1,if_neg h.2.1,if_neg h.2.2.1,if_neg h.2.2.2.1,if_neg h.2.2.2.2.1,if_neg h.2.2.2.2.2.1,if_neg h3,if_neg h4,if_neg h5,if_neg h6]
end Go.Proofs.YtjblgopghhgflaaGreat
end
