/-
  Joined texts:what a statement's proof reaches.
-/
import Derived.Test.YtmcjhkbcmmddgaaGreatPCZ5
set_option maxHeartbeats 8000000
set_option maxRecDepth 100000
set_option linter.unusedSimpArgs false
set_option linter.unusedVariables false
section
namespace Go.Proofs.YtmcjhkbcmmddgaaGreat
open Go Leg Codec Api Dsk Wal
theorem H0{δ:Type}(V:Env δ)(r lg:Nat)(x:RepT)(m:RecT)(e:δ)(l:List SaidT)(hlog:x.log= .pointer (some ⟨lg,0,none⟩))(hok:V.ok e):
 DT 91 #[(.pointer (some ⟨r,0,none⟩)),(.agg (ints m.flat).toArray)] T0 [ah r (RepT.cells x) 94,V.lg lg e,V.E e l] (RI (.int .i64 (V.pt e (eO m)).2) [ah r (RepT.cells x) 94,V.lg lg (V.pt e (eO m)).1,V.E (V.pt e (eO m)).1 l]):=by
 refine BD 12 Tryz.func91 rfl rfl rfl λw0 F hF=>sr λ_ J1=>XY (ints m.flat) λb3=>?_
 refine PS ?_;refine nx J1 (aa λ_ J2=>D2 1 0 bl ?_);refine PD 0 ?_;refine PD 1 ?_;refine FD 2 1 dq Qg ?_;refine LX 3 Tryz.underlying82 (.pointer (some ⟨lg,0,none⟩)) ?_ (hc:=by exact(RepT.at_log x rfl).trans (congrArg some hlog));refine LY 4 eC gh bp ?_;refine AL 5 ?_;refine CR Pe (De m) ID λvR HR hR=>?_
 obtain⟨_,rfl,rfl⟩:=hR;revert vR;intro ue;refine EN (AL 6 ?_);refine CF Pf (V.put lg ue (eO m) e l hok (xN m)) (SM [3,3]) (λg d s=>KQ (wm 0 rfl rfl g d s)) ?_;refine EN (PD 7 ?_);exact DN (ac J2 (aj (WK [4,0,0] (av rfl rfl ⟨rfl,rfl⟩))))
theorem lM{δ:Type}(V:Env δ)(r:Nat)(s:MS δ)(m:RecT)[hs:OkR V.toDk s]:DT 91 #[.pointer (some ⟨r,0,none⟩), .agg (ints m.flat).toArray] T0 [cJ V r s] (RI (.int .i64 (l7 V.toDk s m)) [cJ V r (dL V.toDk s m)]):=
 Leg.Does.pack λa=>Leg.Does.withinR (H0 V r a.lg (s.rep a) m s.e s.o rfl hs.e) (λ_ _ _ _=>trivial) (λ_ q=>az [0,0,2] rfl q) λv H hp=>by
  obtain⟨h1,rfl⟩:=hp;exact⟨_,λ_ q=>bn (p:=λa:Adr=>[ah r (RepT.cells ((dL V.toDk s m).rep a)) 94,V.lg a.lg (dL V.toDk s m).e,own a.rs (dL V.toDk s m).replies.length (ints ((dL V.toDk s m).replies.flatMap ReplyT.flat)) 175 3,Gg a.vo (dL V.toDk s m).vote,V.E (dL V.toDk s m).e (dL V.toDk s m).o]) a (az [0,0,1,1,0] rfl q),h1,rfl⟩
theorem fq{δ:Type}(V:Env δ)(r:Nat)(s:MS δ)(op err val:Int)(hrs:s.replies.length≤1000000):DT 54 #[.pointer (some ⟨r,0,none⟩), .int .i64 op, .int .i64 err, .int .i64 val] T0 [cJ V r s] (dH (λ_ H=>H=[cJ V r (dp s op err val)])):=
 Leg.Does.pack λa=>Leg.Does.withinR (Ff r (s.rep a) op err val s.replies hrs) (λ_ _ _ _=>trivial) (λ_ q=>az [0,1] rfl q) λv H hp=>by
  obtain⟨v',_,rfl⟩:=hp;exact⟨_,λ_ q=>bn (p:=λa:Adr=>[ah r (RepT.cells ((dp s op err val).rep a)) 94,V.lg a.lg (dp s op err val).e,own a.rs (dp s op err val).replies.length (ints ((dp s op err val).replies.flatMap ReplyT.flat)) 175 3,Gg a.vo (dp s op err val).vote,V.E (dp s op err val).e (dp s op err val).o]) {a with rs:=v'} (az [0,1,0,0,0] rfl q),rfl⟩
theorem st{δ:Type}(V:Env δ)(r:Nat)(s:MS δ)(y:RowT)(op:Int)[OkR V.toDk s][OkRow y]:
 DT 55 #[(.pointer (some ⟨r,0,none⟩)),(.iface V.T V.ov),(.agg (ints y.flat).toArray),(.int .i64 (op))] T0 [cJ V r s] (RI (.int .i64 (dD V.toDk s y op).2) [cJ V r (dD V.toDk s y op).1]):=by
 refine BD 34 Tryz.func55 rfl rfl rfl λw0 F hF=>sr λ_ J1=>XY (ints y.flat) λb6=>?_
 refine PS ?_;refine nx J1 (aa λ_ J2=>sr λ_ J3=>PS ?_);refine LW 0 dT aX ag ?_;refine tp (kJ RecT.zero (RecT.mk 0 0 y 0 BallotT.zero ChangeT.zero ViewT.zero) [(0,[Value.int .i64 0]),(2,ints y.flat)] eC fC (g:=RecT.sg)) ?_;refine CE Fq (lM V r s (e8 y)) (SM [1]) ?_;refine PS ?_;refine nx J3 (sr λ_ J4=>P2 ?_);refine ap ?_ ?_<;>intro h15;refine nx J4 (CY (sr λ_ J5=>P2 ?_));refine nx J5 (aj (ae (WK [0] (av rfl rfl ?_))));have e:dD V.toDk s y op=(dL V.toDk s (e8 y),l7 V.toDk s (e8 y)):=if_pos h15;exact kf e;refine nx J4 (CN (qx J2 (sr λ_ J6=>P4 ?_)));refine LW 1 dT aX ag ?_;refine P2 ?_;refine FA 9 dq aX ?_;refine iw (vs:=ints y.flat) (i:=0) (ab rfl) rfl rfl rfl rfl rfl (by rw[(ag y)];exact aX) (bA _) rfl rfl (λ_=>LC (cX _) (ag _)) (λa_=>(Rs ((dL V.toDk s (e8 y)).rep a_) 0 rfl (by have h1:=(ag y);omega) (ct ((ag (((dL V.toDk s (e8 y)).rep a_).own)).trans (ag y).symm)))) (PS ?_);refine FA 1938 dq lE ?_;refine SK 0 lE (λ_=>cX _) ?_ (hc:=by exact λa_=>(Q8 _ rfl _));refine PS ?_;refine FA 1939 dq aP ?_;refine SK 0 aP (λ_=>cX _) ?_ (hc:=by exact λa_=>(Q7 _ rfl _));refine PS ?_;refine FA 1940 dq aP ?_;refine SK 0 aP (λ_=>cX _) ?_ (hc:=by exact λa_=>(RepT.set_waits _ rfl _));refine nx J6 (sr λ_ J7=>P2 ?_);refine CZ NB (ou V r (pS (dL V.toDk s (e8 y)) y op)) ID λvR=>?_
 refine nx J7 (sr λ_ J8=>PS ?_);refine nx J8 (aj (WK [0] (av rfl rfl ?_)));have e:dD V.toDk s y op=(eV V.toDk (pS (dL V.toDk s (e8 y)) y op),0):=if_neg h15;exact kf e
theorem pO(x:RowT)(who:Int)(d:RowT):
 DT 108 #[(.agg (ints x.flat).toArray),(.int .i64 (who)),(.agg (ints d.flat).toArray)] T0 [] (RI (.tuple #[.agg (ints (cC x who d).1.flat).toArray, .int .i64 (cC x who d).2]) []):=by
 refine BD 68 Tryz.func108 rfl rfl rfl λw0 F hF=>sr λ_ J1=>XY (ints x.flat) λb3=>?_
 refine XY (ints d.flat) λb5=>?_
 refine XZ u6 (ints RowT.zero.flat) λb6=>?_
 refine PS ?_;refine nx J1 (aa λ_ J2=>sr λ_ J3=>PS ?_);refine CE GK (kM who) ID ?_;refine bb ?_ ?_<;>intro h11;have hw:cI who=true:=by simpa using h11
 have hw2:0≤who∧who<5:=of_decide_eq_true hw;refine PS ?_;refine nx J3 (CN (qx J2 (aa λ_ J4=>sr λ_ J5=>PS ?_)));refine FA 29 dT gM ?_;refine IX (29+who.toNat) mS aP ?_;refine LT 2 Y3 (.int .i64 ((x.heir[who.toNat]'(by omega)))) ?_ (hc:=by exact sB x (who.toNat) (by omega) (by omega) (kp x.heir (by omega)));refine PS ?_;refine ap ?_ ?_<;>intro h18;refine nx J5 (CY (sr λ_ J6=>BV ((ints RowT.zero.flat).toArray) ?_));refine SW 0 aX ag ?_;refine PS ?_;refine nx J6 (aj (ae (RT 0 [] dT aX (ag _) ?_)));have e:cC x who d=(.zero,8):=by rw[cC,hw,heirAt,dif_pos hw,if_neg (by decide),if_pos h18]
 exact⟨by rw[e],rfl⟩;refine nx J5 (CN (qx J4 (aa λ_ J7=>D1 1 bl ?_)));refine PD 0 ?_;refine PD 1 ?_;refine FD 2 0 dT aP ?_;refine LR 3 Y3 (cf d rfl) ?_;refine ta 4 rfl (cB (r:=(fx (d.version+1))) rfl rfl rfl rfl) ?_;refine FD 5 1 dT lX ?_;refine ta 6 rfl (aM (vs:=ints (bI d.cells.toList)) rfl B1 rfl lX rfl (λ_ h=>h.2.1) (eD d.cells) (Es d 0 rfl (by decide) (bo (eD d.cells)))) ?_;refine FD 7 29 dT gM ?_;refine IY 8 (29+who.toNat) mS aP ?_;refine FD 10 34 dT Cl ?_;refine AL 9 ?_;refine bO (i:=2) (ab rfl) rfl rfl rfl rfl rfl aP rfl rfl (LB (ag _)) (RowT.st_heir x (who.toNat) (by omega) (by omega) (za x.heir (by omega) _)) rfl (EN (IY 11 (34+who.toNat*28) MX lX ?_));refine AL 12 ?_;refine bL (vs:=ints (bI d.cells.toList)) (i:=2) (ab rfl) rfl rfl rfl rfl rfl (by rw[(eD d.cells)];exact lX) (bA _) rfl rfl (LC (ag _) (eD _)) (RowT.wr_left_ (RowT.mk x.version x.cells (x.heir.set who.toNat (fx (d.version+1)) (by omega)) x.left) (who.toNat*28) (by omega) (by have h1:=(eD d.cells);omega) (u9 uh x.left (i:=who.toNat) 0 (by omega) (by omega) (by have h1:=(eD d.cells);omega) (ct ((eD (x.left[who.toNat]'(by omega))).trans (eD d.cells).symm)))) rfl (EN (DN (ac J7 (aa λ_ J8=>sr λ_ J9=>FA 29 dT gM ?_))));refine tp (aM (vs:=ints d.heir.toList) rfl mS rfl gM rfl (RO 1) (jq d.heir) (Hc d 0 rfl (by decide) (bo (jq d.heir)))) ?_;refine PS ?_;refine nx J9 (aq ?_)
 refine bD (α:=(Nat)×(RowT)) (λ⟨k,y⟩=>k≤5∧y=inhTo x who d k) (λ⟨k,y⟩=>[(1,(.int .i64 (who))),(3,(.pointer (some ⟨b3,0,none⟩))),(5,(.pointer (some ⟨b5,0,none⟩))),(6,(.pointer (some ⟨b6,0,none⟩))),(7,(.int .i64 0)),(32,(.agg (ints d.heir.toList).toArray)),(33,(.int .i64 (((k:Nat):Int))))]) (λ⟨k,y⟩=>[ah b6 (ints RowT.zero.flat) 51,ah b5 (ints d.flat) 51,ah b3 (ints y.flat) 51]) (λ⟨k,y⟩=>5-k) (0,(RowT.mk x.version x.cells (x.heir.set who.toNat (fx (d.version+1)) (by omega)) (x.left.set who.toNat d.cells (by omega))))
  ⟨aO _,by rw[inhTo,setHeir,dif_pos hw];rfl⟩ SB
  (λ_ s=>ak [0,0,0] rfl s) (λ⟨k,y⟩ hinv=>?_)
 obtain⟨hk,hy⟩:=hinv;refine sr λ_ J10=>PS ?_
 refine ap ?_ ?_<;>intro h34;refine nx J10 (aa λ_ J11=>CY (qx J11 (aa λ_ J12=>aq (sr λ_ J13=>PS ?_))));refine tp (p9 (cs:=ints d.heir.toList) (v:=Value.int .i64 (d.heir[k]'(by omega))) (r:=k) rfl mS Y3 rfl aP rfl rfl (by omega) (by omega) (by omega) (kp d.heir (by omega))) ?_;refine P2 ?_;refine nx J13 (sr λ_ J14=>P3 ?_);refine ap ?_ ?_<;>intro h39;refine P3 ?_;refine ap ?_ ?_<;>intro h42;refine P3 ?_;refine FA 29 dT gM ?_;refine IX (29+k) mS aP ?_;refine LT 2 Y3 (.int .i64 ((y.heir[k]'(by omega)))) ?_ (hc:=by exact sB y k (by omega) (by omega) (kp y.heir (by omega)));refine PS ?_;refine ap ?_ ?_<;>intro h49;refine PS ?_;refine nx J14 (CY (D1 1 bl ?_));refine PD 0 ?_;refine PD 1 ?_;refine PD 2 ?_;refine PD 3 ?_;refine FD 4 34 dT Cl ?_;refine IY 5 (34+k*28) MX lX ?_;refine ta 6 rfl (aM (vs:=ints (bI (d.left[k]'(by omega)).toList)) rfl B1 rfl lX rfl (λ_ h=>h.2.1) (eD (d.left[k]'(by omega))) (Hb d (k*28) (by omega) (by omega) (ki uh d.left (i:=k) 0 (by omega) (by omega) (by decide) (bo (eD (d.left[k]'(by omega))))))) ?_;refine FD 7 29 dT gM ?_;refine IY 8 (29+k) mS aP ?_;refine FD 10 34 dT Cl ?_;refine AL 9 ?_;refine bO (i:=2) (ab rfl) rfl rfl rfl rfl rfl aP rfl rfl (LB (ag _)) (RowT.st_heir y k (by omega) (by omega) (za y.heir (by omega) _)) rfl (EN (IY 11 (34+k*28) MX lX ?_));refine AL 12 ?_
 refine bL (vs:=ints (bI (d.left[k]'(by omega)).toList)) (i:=2) (ab rfl) rfl rfl rfl rfl rfl (by rw[(eD (d.left[k]'(by omega)))];exact lX) (bA _) rfl rfl (LC (ag _) (eD _)) (RowT.wr_left_ (RowT.mk y.version y.cells (y.heir.set k (d.heir[k]'(by omega)) (by omega)) y.left) (k*28) (by omega) (by have h1:=(eD (d.left[k]'(by omega)));omega) (u9 uh y.left (i:=k) 0 (by omega) (by omega) (by have h1:=(eD (d.left[k]'(by omega)));omega) (ct ((eD (y.left[k]'(by omega))).trans (eD (d.left[k]'(by omega))).symm)))) rfl (EN (DN (af (ac J12 (ad (AD ?_))))));refine PS ?_;refine aw ?_
 exact aL ((k+1,(RowT.mk y.version y.cells (y.heir.set k (d.heir[k]'(by omega)) (by omega)) (y.left.set k (d.left[k]'(by omega)) (by omega)))):(Nat)×(RowT)) ⟨by omega,by rw[lN,←hy,m6,hY _ (by omega),hY _ (by omega),if_pos ⟨by omega,by omega,by omega⟩,E6 _ (by omega),Io _ (by omega)]⟩ (by show 5- (k+1)<5-k;omega)
  SB
  (λ_ s=>ak [0,0,0] rfl s)
 refine PS ?_;refine nx J14 (CN (aS (af (ac J12 (ad (AD ?_))))));refine PS ?_;refine aw ?_
 exact aL ((k+1,y):(Nat)×(RowT)) ⟨by omega,by rw[lN,←hy,m6,hY _ (by omega),hY _ (by omega),if_neg (by omega)]⟩ (by show 5- (k+1)<5-k;omega)
  SB
  (λ_ s=>ak [0,0,0] rfl s)
 refine P2 ?_
 iterate 5 refine UF ?_
 refine PS ?_;refine nx J14 (CN (aS (af (ac J12 (ad (AD ?_))))));refine PS ?_;refine aw ?_
 exact aL ((k+1,y):(Nat)×(RowT)) ⟨by omega,by rw[lN,←hy,m6,hY _ (by omega),hY _ (by omega),if_neg (by omega)]⟩ (by show 5- (k+1)<5-k;omega)
  SB
  (λ_ s=>ak [0,0,0] rfl s)
 refine PS ?_;refine UF ?_;refine UF ?_;refine P2 ?_
 iterate 5 refine UF ?_
 refine PS ?_;refine nx J14 (CN (aS (af (ac J12 (ad (AD ?_))))));refine PS ?_;refine aw ?_
 exact aL ((k+1,y):(Nat)×(RowT)) ⟨by omega,by rw[lN,←hy,m6,hY _ (by omega),hY _ (by omega),if_neg (by omega)]⟩ (by show 5- (k+1)<5-k;omega)
  SB
  (λ_ s=>ak [0,0,0] rfl s)
 refine nx J10 (aa λ_ J15=>CN (bh (aC (aC (bC (ac J8 (sr λ_ J16=>FA 0 dT aP ?_)))))));refine LU 2 Y3 (cf y rfl) ?_;refine tp (cB (r:=(fx (y.version+1))) rfl rfl rfl rfl) ?_;refine FA 0 dT aP ?_;refine bO (i:=2) (ab rfl) rfl rfl rfl rfl rfl aP rfl rfl (LB (ag _)) (yf y rfl _) rfl (nx J16 (sr λ_ J17=>LW 2 dT aX ag ?_));refine SW 0 aX ag ?_;refine PS ?_;refine nx J17 (aj (RT 0 [] dT aX (ag _) ?_));obtain rfl:k=5:=by omega
 subst hy;have e:cC x who d=({inhTo x who d 5 with version:=fx ((inhTo x who d 5).version+1)},0):=by rw[cC,hw,heirAt,dif_pos hw,if_neg (by decide),if_neg h18]
 exact⟨by rw[e],rfl⟩;refine PS ?_;refine nx J3 (CY (sr λ_ J18=>BV ((ints RowT.zero.flat).toArray) ?_));refine SW 0 aX ag ?_;refine PS ?_;refine nx J18 (aj (ae (RT 0 [] dT aX (ag _) ?_)));have hw:cI who=false:=by simpa using h11
 have e:cC x who d=(.zero,5):=by rw[cC,hw];rfl
 exact⟨by rw[e],rfl⟩
theorem Ai{δ:Type}(V:Env δ)(r:Nat)(s:MS δ)[OkR V.toDk s]:
 DT 106 #[(.pointer (some ⟨r,0,none⟩))] T0 [cJ V r s] (dH (λr' H=>∃u,r'=u∧H=[own u (bu s).length (ints (bu s)) 3 1,cJ V r s])):=by
 refine BD 44 Tryz.func106 rfl rfl rfl λw0 F hF=>sr λ_ J1=>PS ?_
 refine nx J1 (sr λ_ J2=>PS ?_);refine nx J2 (aa λ_ J3=>sr λ_ J4=>PS ?_);refine nx J4 (aq ?_)
 refine bD (α:=(Nat)×(Value)) (λ⟨k,u⟩=>k≤5∧u.oneCell'=true) (λ⟨k,u⟩=>[(0,(.pointer (some ⟨r,0,none⟩))),(2,(.slice none 0 0)),(3,u),(7,(.int .i64 (((k:Nat):Int))))]) (λ⟨k,u⟩=>[own u ((iu s k).length) (ints (iu s k)) 3 1,cJ V r s]) (λ⟨k,u⟩=>5-k) (0,(.slice none 0 0))
  ⟨aO _,rfl⟩ SB
  (λ_ s=>ik 3 1 (ak [0] rfl s)) (λ⟨k,u⟩ hinv=>?_)
 obtain⟨hk,hu⟩:=hinv;have hol:=Ah s k;refine sr λ_ J5=>PS ?_
 refine ap ?_ ?_<;>intro h8;refine nx J5 (aa λ_ J6=>CY (qx J6 (aa λ_ J7=>aq (sr λ_ J8=>P2 ?_))));refine nx J8 (sr λ_ J9=>P2 ?_);refine FA 2 dq bi ?_;refine LZ 1 e6 bi am s.view ?_ (hc:=by exact λ_=>cW _);refine PS ?_;refine CE Nv (uS s.view ((k:Nat):Int) OkVw.rng) ID ?_;refine P3 ?_;refine bb ?_ ?_<;>intro h18;refine P2 ?_;refine nx J9 (sr λ_ J10=>?_)
 iterate 5 refine PS ?_
 refine FA 0 dq aP ?_;refine LG 1 Y3 (.int .i64 (s.id)) ?_ (hc:=by exact λa_=>(cH _ rfl));refine PS ?_;refine ap ?_ ?_<;>intro h26
 iterate 5 refine PS ?_
 refine FA 9 dq aX ?_;refine FA 38 dT gM ?_;refine IX (38+k) mS aP ?_;refine LG 1 Y3 (.int .i64 ((s.own.heir[k]'(by omega)))) ?_ (hc:=by exact λa_=>(RepT.pt_own (s.rep a_) (29+k) (by omega) (by omega) (sB ((s.rep a_).own) k (by omega) (by omega) (kp (((s.rep a_).own).heir) (by omega)))));refine PS ?_;refine ap ?_ ?_<;>intro h36;refine PS ?_;refine nx J10 (CY (ad (P2 ?_)));refine aV (cells:=#[(.int .i64 (((k:Nat):Int)))]) (ab rfl) rfl rfl rfl km sn rfl rfl rfl (by as_aux_lemma=>kernel_rfl) (λb40=>cL (k:=1) (news:=[(.int .i64 (((k:Nat):Int)))]) (nn':=(iu s k).length+1) (xs':=ints (iu s k)++[(.int .i64 (((k:Nat):Int)))]) (ab rfl) rfl rfl rfl km sn rfl rfl rfl rfl rfl rfl (λ_ _=>j7 rfl (RO 0) rfl) (by simp[Value.oneCell']) (by simp only[maxLen];omega) (by omega) (by simp) (by simp) (λv41 ov41=>PS ?_));refine aw (af (ac J7 (ad (AD ?_))));refine PS ?_;refine aw ?_
 exact aL ((k+1,v41):(Nat)×(Value)) ⟨by omega,ov41⟩ (by show 5- (k+1)<5-k;omega)
  SB
  (λ_ q=>by
   show bz [own v41 (iu s (k+1)).length (ints (iu s (k+1))) 3 1,cJ V r s] _;rw[show iu s (k+1)=iu s k++[((k:Nat):Int)]by rw[pE,if_pos (NR h18 h26 (by rw[hY _ (by omega)];exact h36))],ai,eI]
   exact ak [1,1] rfl q)
 refine PS ?_;refine nx J10 (CN (aS (af (ac J7 (ad (AD ?_))))));refine PS ?_;refine aw ?_
 exact aL ((k+1,u):(Nat)×(Value)) ⟨by omega,hu⟩ (by show 5- (k+1)<5-k;omega)
  SB
  (λ_ q=>by
   show bz [own u (iu s (k+1)).length (ints (iu s (k+1))) 3 1,cJ V r s] _;rw[show iu s (k+1)=iu s k by rw[pE,if_neg (by intro hq;have h2:=Bw hq;rw[hY _ (by omega)]at h2;first|omega| (simp_all;done)| (simp_all;omega)),aW]]
   exact ak [0,0] rfl q)
 refine P2 ?_
 iterate 8 refine UF ?_
 refine PS ?_;refine nx J10 (CN (aS (af (ac J7 (ad (AD ?_))))));refine PS ?_;refine aw ?_
 exact aL ((k+1,u):(Nat)×(Value)) ⟨by omega,hu⟩ (by show 5- (k+1)<5-k;omega)
  SB
  (λ_ q=>by
   show bz [own u (iu s (k+1)).length (ints (iu s (k+1))) 3 1,cJ V r s] _;rw[show iu s (k+1)=iu s k by rw[pE,if_neg (by intro hq;have h2:=Bw hq;rw[hY _ (by omega)]at h2;first|omega| (simp_all;done)| (simp_all;omega)),aW]]
   exact ak [0,0] rfl q)
 refine P2 ?_;refine nx J9 (sr λ_ J11=>P2 ?_)
 iterate 6 refine UF ?_
 refine P2 ?_
 iterate 8 refine UF ?_
 refine PS ?_;refine nx J11 (CN (aS (af (ac J7 (ad (AD ?_))))));refine PS ?_;refine aw ?_
 exact aL ((k+1,u):(Nat)×(Value)) ⟨by omega,hu⟩ (by show 5- (k+1)<5-k;omega)
  SB
  (λ_ q=>by
   show bz [own u (iu s (k+1)).length (ints (iu s (k+1))) 3 1,cJ V r s] _;rw[show iu s (k+1)=iu s k by rw[pE,if_neg (by intro hq;have h2:=Bw hq;rw[hY _ (by omega)]at h2;first|omega| (simp_all;done)| (simp_all;omega)),aW]]
   exact ak [0,0] rfl q)
 refine nx J5 (aa λ_ J12=>CN (bh (aC (aC (bC (ac J3 (sr λ_ J13=>P2 ?_)))))));refine nx J13 (aj (WK [0,0] (av rfl rfl ?_)));obtain rfl:k=5:=by omega
 exact⟨u,rfl,rfl⟩
theorem n9{δ:Type}(V:Env δ)(r:Nat)(s:MS δ)(who w:Int)(hm:cI who=true)(hw:0≤w∧w<5):
 DT 107 #[(.pointer (some ⟨r,0,none⟩)),(.int .i64 (who)),(.int .i64 (w))] T0 [cJ V r s] (RI (.bool (qo s who w)) [cJ V r s]):=by
 refine BD 17 Tryz.func107 rfl rfl rfl λw0 F hF=>?_
 have hm2:0≤who∧who<5:=of_decide_eq_true hm;refine sr λ_ J1=>PS ?_
 refine nx J1 (sr λ_ J2=>P3 ?_);refine FA 1943 dq gM ?_;refine IX (1943+who.toNat) mS aP ?_;refine LG 0 Y3 (.int .i64 ((s.told[who.toNat]'(by omega)))) ?_ (hc:=by exact λa_=>(Rt (s.rep a_) (who.toNat) (by omega) (by omega) (kp ((s.rep a_).told) (by omega))));refine PS ?_;refine tp (mp (r:=((s.told[who.toNat]'(by omega)).fdiv (2^min w.toNat IntKind.i64.bits))) rfl rfl rfl (by omega) rfl) ?_;refine tp (o5 (r:=(((s.told[who.toNat]'(by omega)).fdiv (2^min w.toNat IntKind.i64.bits))%2)) rfl rfl rfl (mask (k:=1) (by decide) _)) ?_;refine P2 ?_;refine nx J2 (aj (WK [0] (av rfl rfl ?_)));exact⟨by rw[qo,kj,dif_pos hm],rfl⟩
theorem pH{δ:Type}(V:Env δ)(r:Nat)(s:MS δ)[OkR V.toDk s]:
    DT 64 #[(.pointer (some ⟨r,0,none⟩)),(.iface V.T V.ov)] T0 [cJ V r s] (dH (λ_ H=>H=[cJ V r (kW V.toDk s)])):=by
 refine BD 80 Tryz.func64 rfl rfl rfl λw0 F hF=>sr λ_ J1=>PS ?_
 refine CR MT (Ai V r s) ID λvR HR hR=>?_
 obtain⟨_,rfl,rfl⟩:=hR;revert vR;intro ud;refine iZ 0 rfl rfl (λhlud houd=>PS ?_);refine nx J1 (aa λ_ J2=>sr λ_ J3=>P2 ?_);refine FA 1938 dq lE ?_;refine LG 1 Y4 (.bool (s.busy)) ?_ (hc:=by exact λa_=>(yT _ rfl));refine bb ?_ ?_<;>intro h19;refine PS ?_
 iterate 3 refine UT ?_
 refine PS ?_;refine nx J3 (CY (aj (ae (WK [1] (dU rfl ?_)))));exact congrArg (λq=>[cJ V r q]) (show s=kW V.toDk s from(if_pos (by rw[h19];rfl)).symm);refine P2 ?_;refine tq (eA rfl km rfl hlud) ?_;refine PS ?_;refine ap ?_ ?_<;>intro h23;refine PS ?_;refine nx J3 (CY (aj (ae (WK [1] (dU rfl ?_)))));exact congrArg (λq=>[cJ V r q]) (show s=kW V.toDk s from(if_pos (by rw[h19,decide_eq_true (by omega)];rfl)).symm);refine PS ?_;refine nx J3 (CN (qx J2 (aa λ_ J4=>sr λ_ J5=>PS ?_)));refine tp (eA rfl km rfl hlud) ?_;refine PS ?_;refine nx J5 (aq ?_)
 refine bD (α:=(Nat)) (λk=>k≤(bu s).length∧∀j,j<k→∀w∈ix ((bu s).getD j 0),qo s ((bu s).getD j 0) w=true) (λk=>[(0,(.pointer (some ⟨r,0,none⟩))),(1,(.iface V.T V.ov)),(4,ud),(25,ud),(26,(.int .i64 ((((bu s).length:Nat):Int)))),(27,(.int .i64 (((k:Nat):Int))))]) (λk=>[own ud ((bu s).length) (ints (bu s)) 3 1,cJ V r s]) (λk=>(bu s).length-k) 0
     ⟨aO _,λj h=>absurd h (by omega)⟩ SB
     (λ_ s=>s) (λk hinv=>?_)
 obtain⟨hk,hal⟩:=hinv;refine sr λ_ J6=>PS ?_
 refine ap ?_ ?_<;>intro h28;refine nx J6 (aa λ_ J7=>CY (qx J7 (aa λ_ J8=>aq (sr λ_ J9=>?_))));have hmm1:(bu s).getD k 0∈bu s:=by rw[List.getD_eq_getElem?_getD,List.getElem?_eq_getElem (by omega)];exact fc _
 have hm1:cI ((bu s).getD k 0)=true:=(tL hmm1).1;have hn1:0≤(bu s).getD k 0∧(bu s).getD k 0<5:=of_decide_eq_true hm1;refine jh 0 rfl rfl (by omega) (λge1 ce1 he1 _=>tp (bT (r:=k) he1 rfl km aP rfl rfl (by omega) (by omega) (by omega)) ?_);refine tp (cZ (v:=(.int .i64 (((bu s).getD k 0)))) rfl Y3 rfl rfl (gq 0 rfl he1 rfl) (xG (by omega))) ?_;refine PS ?_;refine nx J9 (sr λ_ J10=>PS ?_);refine CR Ft (nd ((bu s).getD k 0) hm1) ID λvR HR hR=>?_
 obtain⟨_,rfl,rfl⟩:=hR;revert vR;intro uw;refine iZ 0 rfl rfl (λhluw _=>jh 0 rfl rfl (by omega) (λgw capw hvw hcapw=>tp (eA rfl km rfl hluw) ?_));refine PS ?_;refine nx J10 (aq (sE 2 (sr λ_ J11=>PS ?_)));refine nx J11 (aa λ_ J12=>CY (qx J12 (aa λ_ J13=>aq (sr λ_ J14=>tp (bT (r:=0) hvw rfl km aP rfl rfl (by omega) (by omega) rfl) ?_))));refine tp (cZ (v:=(.int .i64 (((((bu s).getD k 0)+1)%5)))) rfl Y3 rfl rfl (gq 0 rfl hvw rfl) rfl) ?_;refine PS ?_;refine nx J14 (sr λ_ J15=>P3 ?_);refine CE GN (n9 V r s ((bu s).getD k 0) ((((bu s).getD k 0)+1)%5) hm1 (by omega)) (SM [2]) ?_;refine bb ?_ ?_<;>intro h41;refine PS ?_;refine nx J15 (CN (aS (af (ac J13 (ad (tp (cB (r:=1) rfl rfl rfl (by decide)) ?_))))));refine PS ?_;refine aw (eJ (sr λ_ J16=>PS ?_));refine nx J16 (aa λ_ J17=>CY (qx J17 (aa λ_ J18=>aq (sr λ_ J19=>tp (bT (r:=1) hvw rfl km aP rfl rfl (by omega) (by omega) rfl) ?_))));refine tp (cZ (v:=(.int .i64 (((((bu s).getD k 0)+2)%5)))) rfl Y3 rfl rfl (gq 1 rfl hvw rfl) rfl) ?_;refine PS ?_;refine nx J19 (sr λ_ J20=>P3 ?_);refine CE GN (n9 V r s ((bu s).getD k 0) ((((bu s).getD k 0)+2)%5) hm1 (by omega)) ID ?_;refine bb ?_ ?_<;>intro h41;refine PS ?_;refine nx J20 (CN (aS (af (ac J18 (ad (tp (cB (r:=2) rfl rfl rfl (by decide)) ?_))))));refine PS ?_;refine aw (eJ (sr λ_ J21=>PS ?_));refine nx J21 (aa λ_ J22=>CN (bh (aC (aC (bC (af (ac J8 (ad (AD ?_)))))))));refine PS ?_
 refine aw ?_
 exact aL ((k+1):(Nat)) ⟨by omega,λj hj=>by
        by_cases q:j=k
        · subst q
          intro w hw;rw[ix,if_pos hm1]at hw;simp only[cn,List.not_mem_nil,or_false]at hw;rcases hw with rfl|rfl<;>assumption
        · exact hal j (by omega)⟩ (by show(bu s).length- (k+1)< (bu s).length-k;omega)
   SB
   (λ_ s=>ak [2,0] rfl s)
 refine PS ?_;refine nx J20 (CY (aj (aJ (ae (ae (aJ (aJ (ae (ae (aJ (ae ?_)))))))))));refine WK [0] (dU rfl ?_)
 have hb: ¬toldAll s=true:=λh=>by
   have h2:=List.all_eq_true.1 (List.all_eq_true.1 h _ hmm1) (((bu s).getD k 0+2)%5) (by rw[ix,if_pos hm1];simp);rw[h41]at h2;cases h2
 exact MQ (by rw[kW,if_neg (by rw[h19,decide_eq_false (by omega)];decide),if_neg hb]);refine PS ?_;refine nx J15 (CY (aj (aJ (ae (ae (aJ (aJ (ae (ae (aJ (ae ?_)))))))))));refine WK [0] (dU rfl ?_)
 have hb: ¬toldAll s=true:=λh=>by
   have h2:=List.all_eq_true.1 (List.all_eq_true.1 h _ hmm1) (((bu s).getD k 0+1)%5) (by rw[ix,if_pos hm1];simp);rw[h41]at h2;cases h2
 exact MQ (by rw[kW,if_neg (by rw[h19,decide_eq_false (by omega)];decide),if_neg hb]);refine nx J6 (aa λ_ J23=>CN (bh (aC (aC (bC (ac J4 (sr λ_ J24=>P2 ?_)))))));refine FA 9 dq aX ?_;refine LZ 1 dT aX ag s.own ?_ (hc:=by exact λ_=>Et _);refine XZ u6 (ints RowT.zero.flat) λb9=>?_
 refine SW 0 aX ag ?_;refine nx J24 (aa λ_ J25=>sr λ_ J26=>PS ?_);refine tp (eA rfl km rfl hlud) ?_;refine PS ?_;refine nx J26 (aq ?_)
 refine bD (α:=(Nat)×(RowT)) (λ⟨q,y⟩=>q≤(bu s).length∧y=mE s ((bu s).take q)) (λ⟨q,y⟩=>[(0,(.pointer (some ⟨r,0,none⟩))),(1,(.iface V.T V.ov)),(4,ud),(9,(.pointer (some ⟨b9,0,none⟩))),(49,ud),(50,(.int .i64 ((((bu s).length:Nat):Int)))),(51,(.int .i64 (((q:Nat):Int))))]) (λ⟨q,y⟩=>[ah b9 (ints y.flat) 51,own ud ((bu s).length) (ints (bu s)) 3 1,cJ V r s]) (λ⟨q,y⟩=>(bu s).length-q) (0,s.own)
     ⟨aO _,rfl⟩ SB
     (λ_ s=>ak [0,0,0] rfl s) (λ⟨q,y⟩ hinv=>?_)
 obtain⟨hq,hy⟩:=hinv;refine sr λ_ J27=>PS ?_
 refine ap ?_ ?_<;>intro h52;refine nx J27 (aa λ_ J28=>CY (qx J28 (aa λ_ J29=>aq (sr λ_ J30=>?_))));have hmm2:(bu s).getD q 0∈bu s:=by rw[List.getD_eq_getElem?_getD,List.getElem?_eq_getElem (by omega)];exact fc _
 have hm2:cI ((bu s).getD q 0)=true:=(tL hmm2).1;have hn2:0≤(bu s).getD q 0∧(bu s).getD q 0<5:=of_decide_eq_true hm2;refine jh 1 rfl rfl (by omega) (λge1 ce1 he1 _=>tp (bT (r:=q) he1 rfl km aP rfl rfl (by omega) (by omega) (by omega)) ?_);refine tp (cZ (v:=(.int .i64 (((bu s).getD q 0)))) rfl Y3 rfl rfl (gq 1 rfl he1 rfl) (xG (by omega))) ?_;refine PS ?_;refine nx J30 (aa λ_ J31=>sr λ_ J32=>PS ?_);refine FA 29 dT gM ?_;refine IX (29+(((bu s).getD q 0)).toNat) mS aP ?_;refine LT 0 Y3 (.int .i64 ((y.heir[(((bu s).getD q 0)).toNat]'(by omega)))) ?_ (hc:=by exact sB y ((((bu s).getD q 0)).toNat) (by omega) (by omega) (kp y.heir (by omega)));refine PS ?_;refine ap ?_ ?_<;>intro h59;refine nx J32 (CY (bh (aC (bC (ac J29 (ad (AD ?_)))))));refine PS ?_;refine aw ?_
 exact aL ((q+1,y):(Nat)×(RowT)) ⟨by omega,by rw[vz s (by omega),←hy,if_pos (by rw[heirAt,dif_pos hm2];exact h59)]⟩ (by show(bu s).length- (q+1)< (bu s).length-q;omega)
   SB
   (λ_ s=>ak [0,0,0] rfl s)
 refine nx J32 (CN (qx J31 (aa λ_ J33=>fB (α:=(Nat)) (λ_=>True) (λb12=>[(0,(.pointer (some ⟨r,0,none⟩))),(1,(.iface V.T V.ov)),(4,ud),(9,(.pointer (some ⟨b9,0,none⟩))),(12,(.pointer (some ⟨b12,0,none⟩))),(13,(.int .i64 ((cC y ((bu s).getD q 0) (s.last[(((bu s).getD q 0)).toNat]'(by omega))).2))),(49,ud),(50,(.int .i64 ((((bu s).length:Nat):Int)))),(51,(.int .i64 (((q:Nat):Int))))]) (λb12=>[ah b12 (ints ((cC y ((bu s).getD q 0) (s.last[(((bu s).getD q 0)).toNat]'(by omega))).1).flat) 51,ah b9 (ints y.flat) 51,own ud ((bu s).length) (ints (bu s)) 3 1,cJ V r s]) (λb12 _=>?_) (λtl33=>?_))));refine ac J33 (aa λ_ J34=>sr λ_ J35=>P2 ?_);refine ap ?_ ?_<;>intro h73
 · exact absurd (NN hm2 (by rw[heirAt,dif_pos hm2];exact h59)) h73
 refine nx J35 (CN (qx J34 (ad (LW 0 dT aX ag ?_))));refine SW 1 aX ag ?_;refine aw (af (ac J29 (ad (AD ?_))));refine PS ?_;refine aw ?_
 exact aL ((q+1,(cC y ((bu s).getD q 0) (s.last[(((bu s).getD q 0)).toNat]'(by omega))).1):(Nat)×(RowT)) ⟨by omega,by rw[vz s (by omega),←hy,if_neg (by rw[heirAt,dif_pos hm2];exact h59),lastAt,dif_pos hm2]⟩ (by show(bu s).length- (q+1)< (bu s).length-q;omega)
   SB
   (λ_ s=>ak [1,1,1] rfl s)
 refine DC bl (BL 0) (cY 2 rfl rfl) ?_;refine LY 0 dT aX ag ?_;refine PD 1 ?_;refine PD 2 ?_;refine PD 3 ?_;refine PD 4 ?_;refine FD 5 1948 dq pX ?_;refine IY 6 (1948+((((bu s).getD q 0)).toNat)*174) Av aX ?_;refine ta 7 rfl (gI (vs:=ints (s.last[(((bu s).getD q 0)).toNat]'(by omega)).flat) rfl dT rfl aX rfl (λ_ h=>h.2.2.1) (ag (s.last[(((bu s).getD q 0)).toNat]'(by omega))) (λa_=>(RepT.sub_last (s.rep a_) (((((bu s).getD q 0)).toNat)*174) (by omega) (by omega) (ki co ((s.rep a_).last) (i:=(((bu s).getD q 0)).toNat) 0 (by omega) (by omega) (by decide) (bo (ag (((s.rep a_).last)[(((bu s).getD q 0)).toNat]'(by omega)))))))) ?_;refine cT [8,12] (by kernel_rfl) rfl (aG rfl ?_ ?_);refine CE MR (pO y ((bu s).getD q 0) (s.last[(((bu s).getD q 0)).toNat]'(by omega))) ID ?_;refine EN (PD 9 ?_);refine PD 10 ?_;refine PD 11 ?_;refine AL 12 ?_;refine XZ u6 (ints RowT.zero.flat) λb12=>?_
 refine EN (AL 13 ?_);refine SW 0 aX ag ?_;refine EN (PD 14 ?_);refine DN ?_
 exact aF
   SB
   (λ_ s=>s)
   (tl33 ((b12):(Nat)) trivial)
 refine aG rfl ?_ ?_;refine XZ u6 (ints RowT.zero.flat) λb12=>?_
 refine EN (AL 8 ?_);refine CE MR (pO y ((bu s).getD q 0) (s.last[(((bu s).getD q 0)).toNat]'(by omega))) ID ?_;refine EN (PD 9 ?_);refine PD 10 ?_;refine PD 11 ?_;refine AL 13 ?_;refine SW 0 aX ag ?_;refine EN (PD 14 ?_);refine DN ?_
 exact aF
   SB
   (λ_ s=>s)
   (tl33 ((b12):(Nat)) trivial)
 exact bJ;refine nx J27 (aa λ_ J36=>CN (bh (aC (aC (bC (ac J25 (ad ?_)))))));have hoy:OkRow y:=by rw[hy];exact inferInstance
 refine P2 ?_;refine LW 0 dT aX ag ?_;refine CE NC (st V r s y 0) (SM [2]) ?_;refine aw (WK [0] (bw rfl ?_));obtain rfl:k=(bu s).length:=by omega
 obtain rfl:q=(bu s).length:=by omega
 have hb:toldAll s=true:=List.all_eq_true.2 λi hi=>List.all_eq_true.2 λw hw=>by
   obtain⟨j,hj,rfl⟩:=gJ hi;have h2:=hal j (by omega) w;rw[List.getD_eq_getElem?_getD,List.getElem?_eq_getElem hj]at h2;exact h2 hw
 rw[kG]at hy;subst hy;exact MQ (by rw[kW,if_neg (by rw[h19,decide_eq_false (by omega)];decide),if_pos hb])
theorem yJ{δ:Type}(V:Env δ)(r:Nat)(s:MS δ)[OkR V.toDk s](hrs:s.replies.length≤1000000):
 DT 135 #[(.pointer (some ⟨r,0,none⟩)),(.iface V.T V.ov)] T0 [cJ V r s] (dH (λ_ H=>H=[cJ V r (kC V.toDk s)])):=by
 refine BD 43 Tryz.func135 rfl rfl rfl λw0 F hF=>sr λ_ J1=>P2 ?_
 refine FA 1938 dq lE ?_;refine SK 0 lE (λ_=>cX _) ?_ (hc:=by exact λa_=>(Q8 _ rfl _));refine nx J1 (aa λ_ J2=>fB (α:=Unit) (λ_u=>True) (λ_u=>[(0,(.pointer (some ⟨r,0,none⟩))),(1,(.iface V.T V.ov))]) (λ_u=>[cJ V r (gO s)]) (λ_u hinv=>?_) (λtl2=>?_));have _:=hinv;refine ac J2 (aa λ_ J3=>fB (α:=Unit) (λ_u=>True) (λ_u=>[(0,(.pointer (some ⟨r,0,none⟩))),(1,(.iface V.T V.ov))]) (λ_u=>[cJ V r (li (gO s))]) (λ_u hinv=>?_) (λtl3=>?_));have _:=hinv;refine ac J3 (sr λ_ J4=>P4 ?_);refine FA 9 dq aX ?_;refine LZ 0 dT aX ag ((li (gO s)).own) ?_ (hc:=by exact λ_=>Et _);refine CZ Ny (nr V r (li (gO s)) ((li (gO s)).own)) ID λvR=>?_
 refine nx J4 (ad (P2 ?_));refine CZ LP (pH V r (jW V.toDk (li (gO s)) ((li (gO s)).own))) ID λvR=>?_
 exact aw (WK [0] (bw rfl rfl));refine sr λ_ J5=>P2 ?_
 refine FA 1940 dq aP ?_;refine LG 0 Y3 (.int .i64 ((gO s).waits)) ?_ (hc:=by exact λa_=>(RepT.at_waits _ rfl));refine PS ?_;refine ap ?_ ?_<;>intro h23;refine nx J5 (CY (sr λ_ J6=>P3 ?_));refine FA 1940 dq aP ?_;refine LG 0 Y3 (.int .i64 ((gO s).waits)) ?_ (hc:=by exact λa_=>(RepT.at_waits _ rfl));refine CZ uI (fq V r (gO s) ((gO s).waits) 0 0 hrs) ID λvR=>?_
 refine nx J6 (ad (P2 ?_));refine FA 1940 dq aP ?_;refine SK 0 aP (λ_=>cX _) ?_ (hc:=by exact λa_=>(RepT.set_waits _ rfl _));refine aw ?_
 exact aF
  SB
  (λ_ q=>by
   rw[y7 h23]
   exact ak [0] rfl q)
  (tl3 (():Unit) trivial)
 refine nx J5 (CN (aS ?_))
 exact aF
  SB
  (λ_ q=>by
   rw[y8 h23]
   exact ak [0] rfl q)
  (tl3 (():Unit) trivial)
 refine D0 bl ?_;refine PD 0 ?_;refine PD 1 ?_;refine FD 2 1068 dq AR ?_;refine PD 3 ?_;refine PD 4 ?_;refine FD 5 0 dq aP ?_;refine PD 7 ?_;refine PD 8 ?_;refine FD 9 9 dq aX ?_;refine cT [6,10] (by kernel_rfl) rfl (aG rfl ?_ ?_);refine LG 0 Y3 (.int .i64 (s.id)) ?_ (hc:=by exact λa_=>(cH _ rfl));refine EN (AL 10 ?_);refine LZ 0 dT aX ag s.own ?_ (hc:=by exact λ_=>Et _);refine EN (AL 11 ?_);refine CE JW (Leg.Does.hid (λa_=>nO r 1068 94 _ (fV ((MS.setBusy s false).rep a_)) (MS.setBusy s false).book s.id s.own (Eu inferInstance))) ID ?_;refine EN (DN ?_)
 exact aF
  SB
  (λ_ s=>ak [0] rfl s)
  (tl2 (():Unit) trivial)
 refine aG rfl ?_ ?_;refine LZ 0 dT aX ag s.own ?_ (hc:=by exact λ_=>Et _);refine EN (AL 6 ?_);refine LG 0 Y3 (.int .i64 (s.id)) ?_ (hc:=by exact λa_=>(cH _ rfl));refine EN (AL 11 ?_);refine CE JW (Leg.Does.hid (λa_=>nO r 1068 94 _ (fV ((MS.setBusy s false).rep a_)) (MS.setBusy s false).book s.id s.own (Eu inferInstance))) ID ?_;refine EN (DN ?_)
 exact aF
  SB
  (λ_ s=>ak [0] rfl s)
  (tl2 (():Unit) trivial)
 exact bJ
theorem wK{δ:Type}(V:Env δ)(r:Nat)(s:MS δ)(from':Int)(m:MsgT)[OkR V.toDk s](hrs:s.replies.length≤1000000):
 DT 99 #[(.pointer (some ⟨r,0,none⟩)),(.iface V.T V.ov),(.int .i64 (from')),(.agg (ints m.flat).toArray)] T0 [cJ V r s] (dH (λ_ H=>H=[cJ V r (dh V.toDk s from' m)])):=by
 refine BD 64 Tryz.func99 rfl rfl rfl λw0 F hF=>?_
 have hid:cI s.id=true:=OkR.id;have hid2:0≤s.id∧s.id<5:=of_decide_eq_true hid;refine sr λ_ J1=>XY (ints m.flat) λb7=>?_
 refine nx J1 (sr λ_ J2=>P2 ?_);refine FA 0 dq aP ?_;refine LG 1 Y3 (.int .i64 (s.id)) ?_ (hc:=by exact λa_=>(cH _ rfl));refine CR Ft (nd s.id hid) ID λvR HR hR=>?_
 obtain⟨_,rfl,rfl⟩:=hR;revert vR;intro uw;refine iZ 0 rfl rfl (λhluw _=>jh 0 rfl rfl (by omega) (λgw capw hvw hcapw=>PS ?_));refine nx J2 (aa λ_ J3=>aa λ_ J4=>DC bl (cY 2 rfl rfl) (BL 1) ?_);refine PD 0 ?_;refine PD 1 ?_;refine FD 2 1938 dq lE ?_;refine ta 3 rfl (dz (v:=(.bool (s.busy))) rfl Y4 rfl rfl (λ_ h=>h.2.1) (λa_=>(yT _ rfl))) ?_;refine sA ?_ ?_<;>intro h19;refine PD 4 ?_;refine PD 5 ?_;refine FD 6 176 bg aP ?_;refine LR 7 Y3 (MsgT.at_version m rfl) ?_;refine PD 8 ?_;refine PD 9 ?_;refine FD 10 9 dq aX ?_;refine FD 11 9 dT aP ?_;refine tb 12 rfl (dz (v:=(.int .i64 (s.own.version))) rfl Y3 rfl rfl (λ_ h=>h.2.1) (λa_=>(RepT.pt_own (s.rep a_) 0 rfl (by decide) (cf _ rfl)))) ?_;refine PD 13 ?_;refine gS ?_ ?_<;>intro h29;refine PD 14 ?_;refine PD 15 ?_;refine NT 16 ?_;refine NT 17 ?_;refine NT 18 ?_;refine NT 19 ?_;refine PD 20 ?_;refine DN (ac J4 (CY (aj (ae (WK [2] (dU rfl ?_))))));have ew:ix s.id=[(s.id+1)%5,(s.id+2)%5]:=by rw[ix,if_pos hid]
 have e:kl s from' m.version=false:=by rw[kl,ew,decide_eq_false h29,ij,mx]
 exact congrArg (λq=>[cJ V r q]) (show s=dh V.toDk s from' m by rw[dh,e];rfl);refine PD 14 ?_;refine PD 15 ?_;refine PD 16 ?_;refine PD 17 ?_;refine AL 18 ?_;refine CF ML (rH uw [(s.id+1)%5,(s.id+2)%5] from' (by decide:2≤1000000)) ID (GV (l:=[(s.id+1)%5,(s.id+2)%5]) 0 rfl rfl) ?_;refine ap ?_ ?_<;>intro h34;have hmem:=h34;simp only[cn,List.not_mem_nil,or_false]at hmem;have hfr:0≤from'∧from'<5:=by omega
 refine EN (PD 19 ?_);refine PD 20 ?_;refine DN (ac J4 (CN (qx J3 (aa λ_ J5=>D0 bl ?_))));refine PD 0 ?_;refine PD 1 ?_;refine FD 2 1939 dq aP ?_;refine PD 4 ?_;refine ta 5 rfl (yU (r:=(cN from')) rfl rfl rfl (by omega) rfl) ?_;refine AL 3 ?_;refine LG 2 Y3 (.int .i64 (s.kept)) ?_ (hc:=by exact λa_=>(sC _ rfl));refine EN (ta 6 rfl (KM (r:=(iP .i64 s.kept (cN from'))) rfl rfl rfl rfl) ?_);refine PD 7 ?_;refine FD 8 1939 dq aP ?_;refine AL 9 ?_;refine SK 2 aP (λ_=>cX _) ?_ (hc:=by exact λa_=>(Q7 _ rfl _));refine EN (DN (ac J5 (aa λ_ J6=>sr λ_ J7=>PS ?_)));refine tp (eA rfl km rfl hluw) ?_;refine PS ?_;refine nx J7 (aq (sE 2 (sr λ_ J8=>PS ?_)));refine nx J8 (aa λ_ J9=>CY (qx J9 (aa λ_ J10=>aq (sr λ_ J11=>tp (bT (r:=0) hvw rfl km aP rfl rfl (by omega) (by omega) rfl) ?_))));refine tp (cZ (v:=(.int .i64 (((s.id+1)%5)))) rfl Y3 rfl rfl (gq 0 rfl hvw rfl) rfl) ?_;refine PS ?_;refine nx J11 (sr λ_ J12=>P2 ?_);refine FA 1939 dq aP ?_;refine LG 2 Y3 (.int .i64 ((iP .i64 s.kept (cN from')))) ?_ (hc:=by exact λa_=>(sC _ rfl));refine PS ?_;refine tp (mp (r:=((iP .i64 s.kept (cN from')).fdiv (2^min (((s.id+1)%5)).toNat IntKind.i64.bits))) rfl rfl rfl (by omega) rfl) ?_;refine tp (o5 (r:=(((iP .i64 s.kept (cN from')).fdiv (2^min (((s.id+1)%5)).toNat IntKind.i64.bits))%2)) rfl rfl rfl (mask (k:=1) (by decide) _)) ?_;refine PS ?_;refine ap ?_ ?_<;>intro h59
 refine nx J12 (CY (aj (aJ (ae (ae (aJ (ae (WK [2] (dU rfl ?_)))))))));have ew:ix s.id=[(s.id+1)%5,(s.id+2)%5]:=by rw[ix,if_pos hid]
 have e:kl s from' m.version=true:=by rw[kl,h19,ew,decide_eq_true (show m.version=s.own.version by omega),decide_eq_true h34];rfl
 have e2:rD (keptM s from')=false:=by rw[rD,show ix (keptM s from').id=[(s.id+1)%5,(s.id+2)%5]from ew];simp only[List.all_cons,List.all_nil,uY,keptM, *,decide_true,decide_false,Rf,PO,Rg,nS,ij,mx]
 exact congrArg (λq=>[cJ V r q]) (show(MS.setKept s (iP .i64 s.kept (cN from')))=dh V.toDk s from' m by rw[dh,e,e2];rfl);refine nx J12 (CN (aS (af (ac J10 (ad (tp (cB (r:=1) rfl rfl rfl (by decide)) ?_))))));refine PS ?_;refine aw (eJ (sr λ_ J13=>PS ?_));refine nx J13 (aa λ_ J14=>CY (qx J14 (aa λ_ J15=>aq (sr λ_ J16=>tp (bT (r:=1) hvw rfl km aP rfl rfl (by omega) (by omega) rfl) ?_))));refine tp (cZ (v:=(.int .i64 (((s.id+2)%5)))) rfl Y3 rfl rfl (gq 0 rfl hvw rfl) rfl) ?_;refine PS ?_;refine nx J16 (sr λ_ J17=>P2 ?_);refine FA 1939 dq aP ?_;refine LG 2 Y3 (.int .i64 ((iP .i64 s.kept (cN from')))) ?_ (hc:=by exact λa_=>(sC _ rfl));refine PS ?_;refine tp (mp (r:=((iP .i64 s.kept (cN from')).fdiv (2^min (((s.id+2)%5)).toNat IntKind.i64.bits))) rfl rfl rfl (by omega) rfl) ?_;refine tp (o5 (r:=(((iP .i64 s.kept (cN from')).fdiv (2^min (((s.id+2)%5)).toNat IntKind.i64.bits))%2)) rfl rfl rfl (mask (k:=1) (by decide) _)) ?_;refine PS ?_;refine ap ?_ ?_<;>intro h59;refine nx J17 (CY (aj (aJ (ae (ae (aJ (ae (WK [2] (dU rfl ?_)))))))));have ew:ix s.id=[(s.id+1)%5,(s.id+2)%5]:=by rw[ix,if_pos hid]
 have e:kl s from' m.version=true:=by rw[kl,h19,ew,decide_eq_true (show m.version=s.own.version by omega),decide_eq_true h34];rfl
 have e2:rD (keptM s from')=false:=by rw[rD,show ix (keptM s from').id=[(s.id+1)%5,(s.id+2)%5]from ew];simp only[List.all_cons,List.all_nil,uY,keptM, *,decide_true,decide_false,Rf,PO,Rg,nS,ij,mx]
 exact congrArg (λq=>[cJ V r q]) (show(MS.setKept s (iP .i64 s.kept (cN from')))=dh V.toDk s from' m by rw[dh,e,e2];rfl);refine nx J17 (CN (aS (af (ac J15 (ad (tp (cB (r:=2) rfl rfl rfl (by decide)) ?_))))));refine PS ?_;refine aw (eJ (sr λ_ J18=>PS ?_));refine nx J18 (aa λ_ J19=>CN (bh (aC (aC (bC (ac J6 (ad (P2 ?_))))))));refine CZ Pd (yJ V r (keptM s from') hrs) (SM [2]) λvR=>?_
 refine aw (WK [0] (bw rfl ?_));have ew:ix s.id=[(s.id+1)%5,(s.id+2)%5]:=by rw[ix,if_pos hid]
 have e:kl s from' m.version=true:=by rw[kl,h19,ew,decide_eq_true (show m.version=s.own.version by omega),decide_eq_true h34];rfl
 have e2:rD (keptM s from')=true:=by rw[rD,show ix (keptM s from').id=[(s.id+1)%5,(s.id+2)%5]from ew];simp only[List.all_cons,List.all_nil,uY,keptM, *,decide_true,decide_false,Rf,PO,Rg,nS,ij,mx]
 exact congrArg (λq=>[cJ V r q]) (show(kC V.toDk (keptM s from'))=dh V.toDk s from' m by rw[dh,e,e2];rfl);refine EN (PD 19 ?_);refine PD 20 ?_;refine DN (ac J4 (CY (aj (ae (WK [2] (dU rfl ?_))))));have ew:ix s.id=[(s.id+1)%5,(s.id+2)%5]:=by rw[ix,if_pos hid]
 have e:kl s from' m.version=false:=by rw[kl,ew,decide_eq_false h34];simp
 exact congrArg (λq=>[cJ V r q]) (show s=dh V.toDk s from' m by rw[dh,e];rfl);refine PD 4 ?_;refine PD 5 ?_;refine NT 6 ?_;refine NT 7 ?_;refine NT 8 ?_;refine NT 9 ?_;refine NT 10 ?_;refine NT 11 ?_;refine NT 12 ?_;refine NT 13 ?_;refine PD 14 ?_;refine PD 15 ?_;refine NT 16 ?_;refine NT 17 ?_;refine NT 18 ?_;refine NT 19 ?_;refine PD 20 ?_;refine DN (ac J4 (CY (aj (ae (WK [2] (dU rfl ?_))))));have ew:ix s.id=[(s.id+1)%5,(s.id+2)%5]:=by rw[ix,if_pos hid]
 have e:kl s from' m.version=false:=by rw[kl,ew,h19];simp
 exact congrArg (λq=>[cJ V r q]) (show s=dh V.toDk s from' m by rw[dh,e];rfl)
theorem yo{δ:Type}(V:Env δ)(r:Nat)(s:MS δ)(from':Int)(m:MsgT)[OkR V.toDk s][OkMg m](hto:from'≠s.id):
 DT 98 #[(.pointer (some ⟨r,0,none⟩)),(.iface V.T V.ov),(.int .i64 (from')),(.agg (ints m.flat).toArray)] T0 [cJ V r s] (dH (λ_ H=>H=[cJ V r (gD V.toDk s from' m)])):=by
 refine BD 56 Tryz.func98 rfl rfl rfl λw0 F hF=>sr λ_ J1=>XY (ints m.flat) λb7=>?_
 refine nx J1 (aa λ_ J2=>aa λ_ J3=>D1 0 bl ?_);refine FD 0 1 bg aP ?_;refine LR 1 Y3 (cm m rfl) ?_;refine PD 2 ?_;refine PD 3 ?_;refine gS ?_ ?_<;>intro h11;refine PD 4 ?_;refine NT 5 ?_;refine NT 6 ?_;refine NT 7 ?_;refine NT 8 ?_;refine NT 9 ?_;refine NT 10 ?_;refine PD 11 ?_;refine DN (ac J3 (CY (aj (ae (WK [1] (dU rfl ?_))))));exact congrArg (λq=>[cJ V r q]) (show _=gD V.toDk s from' m from(if_pos (.inl (by omega))).symm);refine PD 4 ?_;refine PD 5 ?_;refine PD 6 ?_;refine FD 7 183 dq uj ?_;refine FD 8 1 bg aP ?_;refine LR 9 Y3 (cm m rfl) ?_;refine AL 10 ?_;refine CE Nu (Leg.Does.hid (λa_=>nJ r 183 94 _ (ei (s.rep a_)) s.mirror m.whose)) (SM [1]) ?_;refine bb ?_ ?_<;>intro h18;refine EN (PD 11 ?_);refine DN (ac J3 (CY (aj (ae (WK [0] (dU rfl ?_))))));exact congrArg (λq=>[cJ V r q]) (show _=gD V.toDk s from' m from(if_pos (.inr h18)).symm);refine EN (PD 11 ?_);refine DN (ac J3 (CN (qx J2 (aa λ_ J4=>aa λ_ J5=>D1 1 bl ?_))));refine PD 0 ?_;refine PD 1 ?_;refine FD 2 183 dq uj ?_;refine FD 3 1 bg aP ?_;refine LR 4 Y3 (cm m rfl) ?_;refine FD 5 2 bg aX ?_;refine ta 6 rfl (aM (vs:=ints m.row.flat) rfl dT rfl aX rfl (λ_ h=>h.2.1) (ag m.row) (mM m 0 rfl (by decide) (bo (ag m.row)))) ?_;refine AL 7 ?_;refine CE MN (Leg.Does.hid (λa_=>rB r 183 94 _ (ei (s.rep a_)) s.mirror m.whose m.row (Eu inferInstance))) ID ?_;refine bb ?_ ?_<;>intro h27;refine EN (DN (ac J5 (CY (aa λ_ J6=>sr λ_ J7=>PS ?_))))
 refine FA 1 bg aP ?_;refine LU 1 Y3 (cm m rfl) ?_;refine FA 2 bg aX ?_;refine LV 1 dT aX ag MsgT.sp_row (y:=m.row) ?_;refine tp (kJ RecT.zero (RecT.mk 1 m.whose m.row 0 BallotT.zero ChangeT.zero ViewT.zero) [(0,[Value.int .i64 1]),(1,[Value.int .i64 m.whose]),(2,ints m.row.flat)] eC fC (g:=RecT.sg)) ?_;refine CE Fq (lM V r s (gz m.whose m.row)) ID ?_;refine PS ?_;refine ap ?_ ?_<;>intro h35;refine nx J7 (CY (aj (ae (ae (WK [0] (dU rfl ?_))))));have hn: ¬(m.whose≠from'∨eS s.mirror m.whose=true):=λh=>h.elim (λh=>by omega) (λh=>by rw[h18]at h;cases h)
 exact MQ (by rw[gD,if_neg hn,if_pos h27,if_pos h35]<;>rfl);refine nx J7 (CN (qx J6 (D1 1 bl ?_)));refine PD 0 ?_;refine PD 1 ?_;refine FD 2 183 dq uj ?_;refine FD 3 1 bg aP ?_;refine LR 4 Y3 (cm m rfl) ?_;refine FD 5 2 bg aX ?_;refine ta 6 rfl (aM (vs:=ints m.row.flat) rfl dT rfl aX rfl (λ_ h=>h.2.1) (ag m.row) (mM m 0 rfl (by decide) (bo (ag m.row)))) ?_;refine AL 7 ?_;refine CE OG (Leg.Does.hid (λa_=>tB r 183 94 _ (ei ((dL V.toDk s (gz m.whose m.row)).rep a_)) (dL V.toDk s (gz m.whose m.row)).mirror m.whose m.row (Eu inferInstance))) ID ?_;refine EN (DN (ac J4 (D1 1 bl ?_)));refine PD 0 ?_;refine PD 1 ?_;refine PD 2 ?_;refine PD 3 ?_;refine PD 4 ?_;refine FD 5 183 dq uj ?_;refine FD 6 1 bg aP ?_;refine LR 7 Y3 (cm m rfl) ?_;refine AL 8 ?_;refine CE JK (Leg.Does.hid (λa_=>l9 r 183 94 _ (ei ((gN (dL V.toDk s (gz m.whose m.row)) m.whose m.row).rep a_)) (gN (dL V.toDk s (gz m.whose m.row)) m.whose m.row).mirror m.whose)) ID ?_;refine EN (ta 9 rfl (Rm (cs:=ints (mirRow (gN (dL V.toDk s (gz m.whose m.row)) m.whose m.row).mirror m.whose).flat) (v:=Value.int .i64 ((mirRow (gN (dL V.toDk s (gz m.whose m.row)) m.whose m.row).mirror m.whose).version)) rfl dT rfl Y3 rfl rfl (cf _ rfl)) ?_)
 refine ta 10 rfl (kJ MsgT.zero (MsgT.mk 1 0 RowT.zero ((mirRow (gN (dL V.toDk s (gz m.whose m.row)) m.whose m.row).mirror m.whose).version) 0 BallotT.zero BallotT.zero ChangeT.zero ViewT.zero) [(0,[Value.int .i64 1]),(3,[Value.int .i64 ((mirRow (gN (dL V.toDk s (gz m.whose m.row)) m.whose m.row).mirror m.whose).version)])] bg br (g:=MsgT.sg)) ?_;refine AL 11 ?_;refine CZ jI (jY V r (gN (dL V.toDk s (gz m.whose m.row)) m.whose m.row) from' (pB (mirRow (gN (dL V.toDk s (gz m.whose m.row)) m.whose m.row).mirror m.whose).version) hto) ID λvR=>?_
 refine EN (DN (WK [0] (bw rfl ?_)));have hn: ¬(m.whose≠from'∨eS s.mirror m.whose=true):=λh=>h.elim (λh=>by omega) (λh=>by rw[h18]at h;cases h)
 exact MQ (by rw[gD,if_neg hn,if_pos h27,if_neg h35]<;>rfl);refine EN (DN (ac J5 (CN (qx J4 (D1 1 bl ?_)))));refine PD 0 ?_;refine PD 1 ?_;refine PD 2 ?_;refine PD 3 ?_;refine PD 4 ?_;refine FD 5 183 dq uj ?_;refine FD 6 1 bg aP ?_;refine LR 7 Y3 (cm m rfl) ?_;refine AL 8 ?_;refine CE JK (Leg.Does.hid (λa_=>l9 r 183 94 _ (ei (s.rep a_)) s.mirror m.whose)) ID ?_;refine EN (ta 9 rfl (Rm (cs:=ints (mirRow s.mirror m.whose).flat) (v:=Value.int .i64 ((mirRow s.mirror m.whose).version)) rfl dT rfl Y3 rfl rfl (cf _ rfl)) ?_);refine ta 10 rfl (kJ MsgT.zero (MsgT.mk 1 0 RowT.zero ((mirRow s.mirror m.whose).version) 0 BallotT.zero BallotT.zero ChangeT.zero ViewT.zero) [(0,[Value.int .i64 1]),(3,[Value.int .i64 ((mirRow s.mirror m.whose).version)])] bg br (g:=MsgT.sg)) ?_;refine AL 11 ?_;refine CZ jI (jY V r s from' (pB (mirRow s.mirror m.whose).version) hto) ID λvR=>?_
 refine EN (DN (WK [0] (bw rfl ?_)));have hn: ¬(m.whose≠from'∨eS s.mirror m.whose=true):=λh=>h.elim (λh=>by omega) (λh=>by rw[h18]at h;cases h)
 exact MQ (by rw[gD,if_neg hn,if_neg (by rw[h27];decide)]<;>rfl)
theorem oH{δ:Type}(V:Env δ)(r:Nat)(s:MS δ)(from':Int)(m:MsgT)[OkR V.toDk s][OkMg m]:
 DT 103 #[(.pointer (some ⟨r,0,none⟩)),(.iface V.T V.ov),(.int .i64 (from')),(.agg (ints m.flat).toArray)] T0 [cJ V r s] (dH (λ_ H=>H=[cJ V r (dw V.toDk s from' m)])):=by
 refine BD 59 Tryz.func103 rfl rfl rfl λw0 F hF=>sr λ_ J1=>XY (ints m.flat) λb7=>?_
 refine nx J1 (aa λ_ J2=>fB (α:=Unit) (λ_u=>True) (λ_u=>[(0,(.pointer (some ⟨r,0,none⟩))),(1,(.iface V.T V.ov))]) (λ_u=>[cJ V r (if from'∈ix m.whose then toldS s from' m.whose m.row else s)]) (λ_u hinv=>?_) (λtl2=>?_));have _:=hinv;refine ac J2 (ad (P2 ?_));refine CZ LP (pH V r (if from'∈ix m.whose then toldS s from' m.whose m.row else s)) ID λvR=>?_
 exact aw (WK [0] (bw rfl rfl));refine sr λ_ J3=>FA 1 bg aP ?_
 refine LU 0 Y3 (cm m rfl) ?_;refine CR Ft (qh m.whose) ID λvR HR hR=>?_
 obtain⟨_,rfl,rfl⟩:=hR;revert vR;intro uw;refine PS ?_;refine CF ML (rH uw (ix m.whose) from' (I8 m.whose)) ID (GV (l:=(ix m.whose)) 0 rfl rfl) ?_;refine ap ?_ ?_<;>intro h12
 have hm:cI m.whose=true:=by
  unfold ix at h12;split at h12
  · assumption
  · cases h12
 have hm2:0≤m.whose∧m.whose<5:=of_decide_eq_true hm;have hta:kj s m.whose=s.told[m.whose.toNat]'(by omega):=by rw[kj,dif_pos hm]
 have hla:lastAt s m.whose=s.last[m.whose.toNat]'(by omega):=by rw[lastAt,dif_pos hm]
 have hf:0≤from'∧from'<5:=by
  rw[ix,if_pos hm]at h12;simp only[cn,List.not_mem_nil,or_false]at h12;omega
 refine nx J3 (CY (aa λ_ J4=>fB (α:=Unit) (λ_u=>True) (λ_u=>[(0,(.pointer (some ⟨r,0,none⟩))),(1,(.iface V.T V.ov)),(2,(.int .i64 (from'))),(7,(.pointer (some ⟨b7,0,none⟩)))]) (λ_u=>[cJ V r (mf s m.whose m.row),ah b7 (ints m.flat) 136]) (λ_u hinv=>?_) (λtl4=>?_)));have _:=hinv;refine ac J4 (D1 1 bl ?_);refine PD 0 ?_;refine FD 1 1 bg aP ?_;refine LR 2 Y3 (cm m rfl) ?_;refine PD 3 ?_;refine FD 4 1943 dq gM ?_;refine IY 5 (1943+(m.whose).toNat) mS aP ?_;refine PD 7 ?_;refine ta 8 rfl (yU (r:=(cN from')) rfl rfl rfl (by omega) rfl) ?_;refine PD 10 ?_;refine FD 11 1943 dq gM ?_;refine AL 6 ?_;refine LG 0 Y3 (.int .i64 ((((mf s m.whose m.row).told)[(m.whose).toNat]'(by omega)))) ?_ (hc:=by exact λa_=>(Rt ((mf s m.whose m.row).rep a_) ((m.whose).toNat) (by omega) (by omega) (kp (((mf s m.whose m.row).rep a_).told) (by omega))));refine EN (ta 9 rfl (KM (r:=(iP .i64 (s.told[m.whose.toNat]'(by omega)) (cN from'))) rfl rfl rfl rfl) ?_);refine IY 12 (1943+(m.whose).toNat) mS aP ?_;refine AL 13 ?_;refine SK 0 aP (λ_=>cX _) ?_ (hc:=by exact λa_=>(RepT.st_told ((mf s m.whose m.row).rep a_) ((m.whose).toNat) (by omega) (by omega) (za (((mf s m.whose m.row).rep a_).told) (by omega) _)));refine EN (DN ?_)
 exact aF
  SB
  (λ_ q=>by
   rw[if_pos h12,show toldS s from' m.whose m.row= {mf s m.whose m.row with told:=s.told.set m.whose.toNat (iP .i64 (s.told[m.whose.toNat]'(by omega)) (cN from')) (by omega)}by rw[toldS,um,dif_pos hm,hta]]
   exact ak [0] rfl q)
  (tl2 (():Unit) trivial)
 refine aa λ_ J5=>DC bl (BL 1) (cY 2 rfl rfl) ?_
 refine PD 0 ?_;refine FD 1 1 bg aP ?_;refine LR 2 Y3 (cm m rfl) ?_;refine PD 3 ?_;refine FD 4 1943 dq gM ?_;refine IY 5 (1943+(m.whose).toNat) mS aP ?_;refine ta 6 rfl (dz (v:=(.int .i64 ((s.told[(m.whose).toNat]'(by omega))))) rfl Y3 rfl rfl (λ_ h=>h.2.2.1) (λa_=>(Rt (s.rep a_) ((m.whose).toNat) (by omega) (by omega) (kp ((s.rep a_).told) (by omega))))) ?_;refine PD 7 ?_;refine gS ?_ ?_<;>intro h20;refine PD 8 ?_;refine NT 9 ?_;refine NT 10 ?_;refine NT 11 ?_;refine NT 12 ?_;refine NT 13 ?_;refine NT 14 ?_;refine NT 15 ?_;refine NT 16 ?_;refine NT 17 ?_;refine NT 18 ?_;refine NT 19 ?_;refine NT 20 ?_;refine PD 21 ?_;refine DN (ac J5 (CY (D1 1 bl ?_)));refine PD 0 ?_;refine FD 1 1 bg aP ?_;refine LR 2 Y3 (cm m rfl) ?_;refine FD 3 2 bg aX ?_;refine ta 4 rfl (aM (vs:=ints m.row.flat) rfl dT rfl aX rfl (λ_ h=>h.2.1) (ag m.row) (mM m 0 rfl (by decide) (bo (ag m.row)))) ?_;refine PD 5 ?_;refine FD 6 1948 dq pX ?_;refine IY 7 (1948+((m.whose).toNat)*174) Av aX ?_;refine AL 8 ?_;refine iw (vs:=ints m.row.flat) (i:=2) (ab rfl) rfl rfl rfl rfl rfl (by rw[(ag m.row)];exact aX) (bA _) rfl rfl (λ_=>LC (cX _) (ag _)) (λa_=>(RepT.wr_last_ (s.rep a_) (((m.whose).toNat)*174) (by omega) (by have h1:=(ag m.row);omega) (u9 co ((s.rep a_).last) (i:=(m.whose).toNat) 0 (by omega) (by omega) (by have h1:=(ag m.row);omega) (ct ((ag (((s.rep a_).last)[(m.whose).toNat]'(by omega))).trans (ag m.row).symm))))) (EN (DN ?_))
 exact aF
  SB
  (λ_ q=>by
   rw[show mf s m.whose m.row= {s with last:=s.last.set m.whose.toNat m.row (by omega)}by rw[mf,if_pos (.inl (hta.trans h20)),um,dif_pos hm]]
   exact ak [2,1] rfl q)
  (tl4 (():Unit) trivial)
 refine PD 8 ?_;refine FD 9 2 bg aX ?_;refine FD 10 2 dT aP ?_;refine LX 11 Y3 (.int .i64 (m.row.version)) ?_ (hc:=by exact MsgT.pt_row m 0 rfl (by decide) (cf m.row rfl));refine PD 12 ?_;refine FD 13 1 bg aP ?_;refine LR 14 Y3 (cm m rfl) ?_;refine PD 15 ?_;refine FD 16 1948 dq pX ?_;refine IY 17 (1948+((m.whose).toNat)*174) Av aX ?_;refine tb 18 rfl (bc (r:=1948+((m.whose).toNat)*174) rfl dT rfl aP rfl rfl) ?_;refine tb 19 rfl (dz (v:=(.int .i64 ((s.last[(m.whose).toNat]'(by omega)).version))) rfl Y3 rfl rfl (λ_ h=>h.2.2.1) (λa_=>(RepT.pt_last (s.rep a_) (((m.whose).toNat)*174) (by omega) (by omega) (n8 co ((s.rep a_).last) (i:=(m.whose).toNat) 0 (by omega) (by omega) (by decide) (cf _ rfl))))) ?_;refine PD 20 ?_;refine gS ?_ ?_<;>intro h33;refine PD 21 ?_;refine DN (ac J5 (CY (D1 1 bl ?_)));refine PD 0 ?_;refine FD 1 1 bg aP ?_;refine LR 2 Y3 (cm m rfl) ?_;refine FD 3 2 bg aX ?_;refine ta 4 rfl (aM (vs:=ints m.row.flat) rfl dT rfl aX rfl (λ_ h=>h.2.1) (ag m.row) (mM m 0 rfl (by decide) (bo (ag m.row)))) ?_;refine PD 5 ?_;refine FD 6 1948 dq pX ?_;refine IY 7 (1948+((m.whose).toNat)*174) Av aX ?_;refine AL 8 ?_
 refine iw (vs:=ints m.row.flat) (i:=2) (ab rfl) rfl rfl rfl rfl rfl (by rw[(ag m.row)];exact aX) (bA _) rfl rfl (λ_=>LC (cX _) (ag _)) (λa_=>(RepT.wr_last_ (s.rep a_) (((m.whose).toNat)*174) (by omega) (by have h1:=(ag m.row);omega) (u9 co ((s.rep a_).last) (i:=(m.whose).toNat) 0 (by omega) (by omega) (by have h1:=(ag m.row);omega) (ct ((ag (((s.rep a_).last)[(m.whose).toNat]'(by omega))).trans (ag m.row).symm))))) (EN (DN ?_))
 exact aF
  SB
  (λ_ q=>by
   rw[show mf s m.whose m.row= {s with last:=s.last.set m.whose.toNat m.row (by omega)}by rw[mf,if_pos (.inr (by rw[hla];omega)),um,dif_pos hm]]
   exact ak [2,1] rfl q)
  (tl4 (():Unit) trivial)
 refine PD 21 ?_;refine DN (ac J5 (CN (aS ?_)))
 exact aF
  SB
  (λ_ q=>by
   rw[show mf s m.whose m.row= {s with last:=s.last}by rw[mf,if_neg (by rw[hta,hla];omega)]]
   exact ak [2,1] rfl q)
  (tl4 (():Unit) trivial)
 refine nx J3 (CN (aS ?_))
 exact aF
  SB
  (λ_ q=>by
   rw[if_neg h12]
   exact ak [2] rfl q)
  (tl2 (():Unit) trivial)
abbrev TK{δ:Type}(V:Env δ)(r f:Nat)(s:MS δ)(from':Int)(m:MsgT)(s':MS δ):Prop:=Leg.Does Tryz.prog f #[.pointer (some ⟨r,0,none⟩), .iface V.T V.ov, .int .i64 from', .agg (ints m.flat).toArray] (λ_=>True) [cJ V r s] (dH (λ_ H=>H=[cJ V r s']))
theorem pi{δ:Type}(V:Env δ)(r:Nat)(s s':MS δ)(from':Int)(m:MsgT)[OkMg m](h0:m.kind=0→TK V r 98 s from' m s')(h1:m.kind=1→TK V r 99 s from' m s')(h2:m.kind=2→xZ s m.whose m.row=s')(h7:m.kind=7→DT 101 #[.pointer (some ⟨r,0,none⟩), .iface V.T V.ov, .agg (ints m.view.flat).toArray] T0 [cJ V r s] (dH (λv H=>(∃b,v= .bool b)∧H=[cJ V r s'])))(h8:m.kind=8→TK V r 102 s from' m s')(h9:m.kind=9→TK V r 103 s from' m s')(hv:m.kind=3∨m.kind=4∨m.kind=5∨m.kind=6→TK V r 104 s from' m s')(hn:m.kind≠0∧m.kind≠1∧m.kind≠2∧m.kind≠7∧m.kind≠8∧m.kind≠9∧m.kind≠3∧m.kind≠4∧m.kind≠5∧m.kind≠6→s=s'):
 DT 62 #[(.pointer (some ⟨r,0,none⟩)),(.iface V.T V.ov),(.int .i64 (from')),(.agg (ints m.flat).toArray)] T0 [cJ V r s] (dH (λ_ H=>H=[cJ V r s'])):=by
 refine BD 65 Tryz.func62 rfl rfl rfl λw0 F hF=>sr λ_ J1=>XY (ints m.flat) λb7=>?_
 refine nx J1 (sr λ_ J2=>FA 0 bg aP ?_);refine LU 0 Y3 (fj m rfl) ?_;refine nx J2 (aq (sr λ_ J3=>PS ?_));refine ap ?_ ?_<;>intro h11;refine PS ?_;refine nx J3 (CY (ad (P3 ?_)));refine LW 0 bg ca aI ?_;refine CZ Qq ((h0 h11)) (SM [1]) λvR=>?_
 exact aw (af (WK [0] (bw rfl rfl)));refine PS ?_;refine nx J3 (CN (sr λ_ J4=>PS ?_));refine ap ?_ ?_<;>intro h18;refine PS ?_;refine nx J4 (CY (ad (P3 ?_)));refine LW 0 bg ca aI ?_;refine CZ Qp ((h1 h18)) (SM [1]) λvR=>?_
 exact aw (af (WK [0] (bw rfl rfl)));refine PS ?_;refine nx J4 (CN (sr λ_ J5=>PS ?_));refine ap ?_ ?_<;>intro h25;refine PS ?_;refine nx J5 (CY (D1 0 bl ?_));refine PD 0 ?_;refine PD 1 ?_;refine FD 2 1068 dq AR ?_;refine FD 3 1 bg aP ?_;refine LR 4 Y3 (cm m rfl) ?_;refine FD 5 2 bg aX ?_;refine ta 6 rfl (aM (vs:=ints m.row.flat) rfl dT rfl aX rfl (λ_ h=>h.2.1) (ag m.row) (mM m 0 rfl (by decide) (bo (ag m.row)))) ?_;refine AL 7 ?_;refine CE JW (Leg.Does.hid (λa_=>nO r 1068 94 _ (fV (s.rep a_)) s.book m.whose m.row (Eu inferInstance))) (SM [1]) ?_;refine EN (DN (af (WK [0] (bw rfl ?_))));exact congrArg (λq=>[cJ V r q]) (h2 h25);refine PS ?_;refine nx J5 (CN (sr λ_ J6=>PS ?_));refine ap ?_ ?_<;>intro h35;refine PS ?_;refine nx J6 (CY (ad (P2 ?_)));refine FA 185 bg bi ?_;refine LV 0 e6 bi am MsgT.sp_view (y:=m.view) ?_;refine CR JV ((h7 h35)) (SM [1]) λvR HR hR=>?_
 obtain⟨_,rfl⟩:=hR;exact aw (af (WK [0] (bw rfl rfl)));refine PS ?_;refine nx J6 (CN (sr λ_ J7=>PS ?_));refine ap ?_ ?_<;>intro h42;refine PS ?_;refine nx J7 (CY (ad (P3 ?_)));refine LW 0 bg ca aI ?_;refine CZ Pm ((h8 h42)) (SM [1]) λvR=>?_
 exact aw (af (WK [0] (bw rfl rfl)));refine PS ?_;refine nx J7 (CN (sr λ_ J8=>PS ?_));refine ap ?_ ?_<;>intro h49;refine PS ?_;refine nx J8 (CY (ad (P3 ?_)));refine LW 0 bg ca aI ?_;refine CZ Pl ((h9 h49)) (SM [1]) λvR=>?_
 exact aw (af (WK [0] (bw rfl rfl)));refine PS ?_;refine nx J8 (CN (aa λ_ J9=>sr λ_ J10=>P2 ?_));refine ap ?_ ?_<;>intro h55;refine nx J10 (CY (qx J9 (CY (ad (P3 ?_)))));refine LW 0 bg ca aI ?_;refine CZ GO ((hv (by omega))) (SM [1]) λvR=>?_
 exact aw (af (WK [0] (bw rfl rfl)));refine nx J10 (CN (sr λ_ J11=>P2 ?_));refine ap ?_ ?_<;>intro h55;refine nx J11 (CY (qx J9 (CY (ad (P3 ?_)))));refine LW 0 bg ca aI ?_;refine CZ GO ((hv (by omega))) (SM [1]) λvR=>?_
 exact aw (af (WK [0] (bw rfl rfl)));refine nx J11 (CN (sr λ_ J12=>P2 ?_));refine ap ?_ ?_<;>intro h55;refine nx J12 (CY (qx J9 (CY (ad (P3 ?_)))));refine LW 0 bg ca aI ?_;refine CZ GO ((hv (by omega))) (SM [1]) λvR=>?_
 exact aw (af (WK [0] (bw rfl rfl)));refine nx J12 (CN (ad (PS ?_)));refine ap ?_ ?_<;>intro h59;refine PS ?_;refine nx J9 (CY (ad (P3 ?_)));refine LW 0 bg ca aI ?_;refine CZ GO ((hv (by omega))) (SM [1]) λvR=>?_
 exact aw (af (WK [0] (bw rfl rfl)));refine PS ?_;refine nx J9 (CN (aS (af (WK [1] (bw rfl ?_)))));exact congrArg (λq=>[cJ V r q]) (hn ⟨h11,h18,h25,h35,h42,h49,by omega,by omega,by omega,by omega⟩)
theorem EU{δ:Type}{V:Env δ}{r:Nat}{s s':MS δ}{from':Int}{m:MsgT}[OkMg m](hk:m.kind=9)(h:TK V r 103 s from' m s'):TK V r 62 s from' m s':=pi V r s s' from' m (λe=>by omega) (λe=>by omega) (λe=>by omega) (λe=>by omega) (λe=>by omega) (λ_=>h) (λe=>by omega) (λe=>by omega)
theorem EV{δ:Type}{V:Env δ}{r:Nat}{s s':MS δ}{from':Int}{m:MsgT}[OkMg m](hk:m.kind=8)(h:TK V r 102 s from' m s'):TK V r 62 s from' m s':=pi V r s s' from' m (λe=>by omega) (λe=>by omega) (λe=>by omega) (λe=>by omega) (λ_=>h) (λe=>by omega) (λe=>by omega) (λe=>by omega)
theorem pg{δ:Type}{V:Env δ}{r:Nat}{s s':MS δ}{from':Int}{m:MsgT}[OkMg m](hk:m.kind=3∨m.kind=4∨m.kind=5∨m.kind=6)(h:TK V r 104 s from' m s'):TK V r 62 s from' m s':=pi V r s s' from' m (λe=>by omega) (λe=>by omega) (λe=>by omega) (λe=>by omega) (λe=>by omega) (λe=>by omega) (λ_=>h) (λe=>by omega)
theorem w5{δ:Type}(V:Env δ)(r:Nat)(s:MS δ)(w:Int)(y:RowT)[OkR V.toDk s][OkRow y]:TK V r 62 s s.id (eR w y) (dw V.toDk s s.id (eR w y)):=EU rfl (oH V r s s.id (eR w y))
theorem qq{δ:Type}(V:Env δ)(r:Nat)(s:MS δ)(s':MS δ)(from':Int)(m:MsgT)[OkR V.toDk s'][OkMg m](hl:DT 101 #[.pointer (some ⟨r,0,none⟩), .iface V.T V.ov, .agg (ints m.view.flat).toArray] T0 [cJ V r s] (dH (λv H=>(∃b,v= .bool b)∧H=[cJ V r s']))):
 DT 102 #[(.pointer (some ⟨r,0,none⟩)),(.iface V.T V.ov),(.int .i64 (from')),(.agg (ints m.flat).toArray)] T0 [cJ V r s] (dH (λ_ H=>H=[cJ V r (eu V.toDk s' from' m.whose)])):=by
 refine BD 64 Tryz.func102 rfl rfl rfl λw0 F hF=>sr λ_ J1=>XY (ints m.flat) λb7=>?_
 refine nx J1 (sr λ_ J2=>P2 ?_);refine FA 185 bg bi ?_;refine LV 0 e6 bi am MsgT.sp_view (y:=m.view) ?_;refine CR JV (hl) (SM [1]) λvR HR hR=>?_
 obtain⟨_,rfl⟩:=hR;refine nx J2 (aa λ_ J3=>aa λ_ J4=>DC bl (cY 0 rfl rfl) (BL 1) ?_);refine PD 0 ?_;refine PD 1 ?_;refine FD 2 2 dq bi ?_;refine ta 3 rfl (gI (vs:=ints s'.view.flat) rfl e6 rfl bi rfl (λ_ h=>h.2.1) (am s'.view) (λa_=>(gB (s'.rep a_) 0 rfl (by decide) (bo (am ((s'.rep a_).view)))))) ?_;refine FD 4 1 bg aP ?_;refine LR 5 Y3 (cm m rfl) ?_;refine AL 6 ?_;refine CE Nv (uS s'.view m.whose OkVw.rng) ID ?_;refine EN (PD 7 ?_);refine PD 8 ?_;refine PD 9 ?_;refine sA ?_ ?_<;>intro h24;refine PD 10 ?_;refine PD 11 ?_;refine DN (ac J4 (sr λ_ J5=>PS ?_));refine PS ?_;refine P4 ?_;refine ap ?_ ?_<;>intro h30;refine PS ?_;refine nx J5 (CY (aj (ae (WK [0] (dU rfl ?_)))));exact MQ (by rw[eu,if_pos (λh=>h30 (by rw[h];rfl))]);refine PS ?_;refine nx J5 (CN (qx J3 (aa λ_ J6=>aa λ_ J7=>D1 1 bl ?_)));refine PD 0 ?_;refine PD 1 ?_;refine FD 2 183 dq uj ?_;refine FD 3 1 bg aP ?_;refine LR 4 Y3 (cm m rfl) ?_;refine AL 5 ?_;refine CE Nu (Leg.Does.hid (λa_=>nJ r 183 94 _ (ei (s'.rep a_)) s'.mirror m.whose)) ID ?_;refine bb ?_ ?_<;>intro h37;refine EN (PD 6 ?_);refine DN (ac J7 (CN (qx J6 (D1 1 bl ?_))));refine PD 0 ?_;refine PD 1 ?_;refine PD 2 ?_;refine FD 3 1 bg aP ?_;refine LR 4 Y3 (cm m rfl) ?_;refine PD 5 ?_;refine PD 6 ?_;refine FD 7 183 dq uj ?_;refine FD 8 1 bg aP ?_;refine LR 9 Y3 (cm m rfl) ?_;refine AL 10 ?_;refine CE JK (Leg.Does.hid (λa_=>l9 r 183 94 _ (ei (s'.rep a_)) s'.mirror m.whose)) ID ?_
 refine EN (ta 11 rfl (kJ MsgT.zero (MsgT.mk 9 m.whose (mirRow s'.mirror m.whose) 0 0 BallotT.zero BallotT.zero ChangeT.zero ViewT.zero) [(0,[Value.int .i64 9]),(1,[Value.int .i64 m.whose]),(2,ints (mirRow s'.mirror m.whose).flat)] bg br (g:=MsgT.sg)) ?_);refine AL 12 ?_;refine CZ jI (gV V r s' from' (eR m.whose (mirRow s'.mirror m.whose)) (λs=>dw V.toDk s s.id (eR m.whose (mirRow s.mirror m.whose))) (λ_=>w5 V r s' m.whose _)) ID λvR=>?_
 refine EN (DN (WK [0] (bw rfl ?_)));exact MQ (by rw[eu,if_neg (λh=>h (uR h24 (by omega))),if_pos h37]);refine EN (PD 6 ?_);refine DN (ac J7 (CY (aa λ_ J8=>sr λ_ J9=>PS ?_)));refine FA 1 bg aP ?_;refine LU 1 Y3 (cm m rfl) ?_;refine tp (kJ RecT.zero (RecT.mk 2 m.whose RowT.zero 0 BallotT.zero ChangeT.zero ViewT.zero) [(0,[Value.int .i64 2]),(1,[Value.int .i64 m.whose])] eC fC (g:=RecT.sg)) ?_;refine CE Fq (lM V r s' (jX m.whose)) ID ?_;refine PS ?_;refine ap ?_ ?_<;>intro h44;refine nx J9 (CY (aj (ae (ae (WK [0] (dU rfl ?_))))));exact MQ (by rw[eu,if_neg (λh=>h (uR h24 (by omega))),if_neg (by rw[h37];decide),if_pos h44]);refine nx J9 (CN (qx J8 (D1 1 bl ?_)));refine PD 0 ?_;refine PD 1 ?_;refine FD 2 183 dq uj ?_;refine FD 3 1 bg aP ?_;refine LR 4 Y3 (cm m rfl) ?_;refine AL 5 ?_;refine CE OF (Leg.Does.hid (λa_=>tA r 183 94 _ (ei ((dL V.toDk s' (jX m.whose)).rep a_)) (dL V.toDk s' (jX m.whose)).mirror m.whose)) ID ?_;refine EN (DN (ac J6 (D1 1 bl ?_)));refine PD 0 ?_;refine PD 1 ?_;refine PD 2 ?_;refine FD 3 1 bg aP ?_;refine LR 4 Y3 (cm m rfl) ?_;refine PD 5 ?_;refine PD 6 ?_;refine FD 7 183 dq uj ?_;refine FD 8 1 bg aP ?_;refine LR 9 Y3 (cm m rfl) ?_;refine AL 10 ?_;refine CE JK (Leg.Does.hid (λa_=>l9 r 183 94 _ (ei ((kQ (dL V.toDk s' (jX m.whose)) m.whose).rep a_)) (kQ (dL V.toDk s' (jX m.whose)) m.whose).mirror m.whose)) ID ?_
 refine EN (ta 11 rfl (kJ MsgT.zero (MsgT.mk 9 m.whose (mirRow (kQ (dL V.toDk s' (jX m.whose)) m.whose).mirror m.whose) 0 0 BallotT.zero BallotT.zero ChangeT.zero ViewT.zero) [(0,[Value.int .i64 9]),(1,[Value.int .i64 m.whose]),(2,ints (mirRow (kQ (dL V.toDk s' (jX m.whose)) m.whose).mirror m.whose).flat)] bg br (g:=MsgT.sg)) ?_);refine AL 12 ?_;refine CZ jI (gV V r (kQ (dL V.toDk s' (jX m.whose)) m.whose) from' (eR m.whose (mirRow (kQ (dL V.toDk s' (jX m.whose)) m.whose).mirror m.whose)) (λs=>dw V.toDk s s.id (eR m.whose (mirRow s.mirror m.whose))) (λ_=>w5 V r (kQ (dL V.toDk s' (jX m.whose)) m.whose) m.whose _)) ID λvR=>?_
 refine EN (DN (WK [0] (bw rfl ?_)));exact MQ (by rw[eu,if_neg (λh=>h (uR h24 (by omega))),if_neg (by rw[h37];decide),if_neg h44]);refine PD 10 ?_;refine PD 11 ?_;refine DN (ac J4 (sr λ_ J10=>PS ?_));refine PS ?_;refine PS ?_
 iterate 3 refine UT ?_
 refine PS ?_;refine nx J10 (CY (aj (ae (WK [0] (dU rfl ?_)))));exact MQ (by rw[eu,if_pos (λh=>by rw[h]at h24;cases h24)])
section
variable {δ:Type} {V:Env δ} {r:Nat} {s:MS δ} {H:List HP} {h:Hl}
theorem GP(q:bz (cJ V r s::H) h): ∃vo,bz (wt V r s vo::H) h:=by
 obtain⟨a,q1⟩:=fR q;exact⟨a.vo,bn (p:=λa':Nat×Value=>[ah r (RepT.cells (s.rep ⟨a'.1,a.vo,a'.2⟩)) 94,V.lg a'.1 s.e,own a'.2 s.replies.length (ints (s.replies.flatMap ReplyT.flat)) 175 3,V.E s.e s.o]) (a.lg,a.rs) (Jo (az [3,0,0,0,0] rfl q1))⟩
theorem Dw(q:bz (wt V r s (.pointer none)::H) h):bz (cJ V r {s with vote:=none}::H) h:=by
 obtain⟨a,q1⟩:=fR q;have q2:bz (Gg (.pointer none) none::([ah r (RepT.cells (s.rep ⟨a.1, .pointer none,a.2⟩)) 94,V.lg a.1 s.e,own a.2 s.replies.length (ints (s.replies.flatMap ReplyT.flat)) 175 3,V.E s.e s.o]++H)) h:=⟨em,h,Ex h,(rG h).symm,rfl,q1⟩;exact bn (p:=λa:Adr=>[ah r (RepT.cells ({s with vote:=none}.rep a)) 94,V.lg a.lg {s with vote:=none}.e,own a.rs {s with vote:=none}.replies.length (ints ({s with vote:=none}.replies.flatMap ReplyT.flat)) 175 3,Gg a.vo {s with vote:=none}.vote,V.E {s with vote:=none}.e {s with vote:=none}.o]) ⟨a.1, .pointer none,a.2⟩ (az [1,1,1,0,0] rfl q2)
theorem tx(hv:s.vote=none)(q:bz (cJ V r s::H) h):bz (wt V r s (.pointer none)::H) h:=by
 obtain⟨a,q1⟩:=fR q;have q2:=az [3,0,0,0,0] rfl q1;obtain⟨h1,h2,d,rfl,e,q3⟩:=q2;rw[hv]at e;have e':a.vo= .pointer none:=e;obtain⟨lg,vo,rs⟩:=a;obtain rfl:=e';rw[oc d];exact lY _ (bn (p:=λa':Nat×Value=>[ah r (RepT.cells (s.rep ⟨a'.1, .pointer none,a'.2⟩)) 94,V.lg a'.1 s.e,own a'.2 s.replies.length (ints (s.replies.flatMap ReplyT.flat)) 175 3,V.E s.e s.o]) (lg,rs) q3) d.symm
theorem nI{vt:VoteT}(hv:s.vote=some vt)(q:bz (cJ V r s::H) h): ∃vb,bz (wt V r s (.pointer (some ⟨vb,0,none⟩))::ah vb (VoteT.cells vt) 187::H) h:=by
 obtain⟨a,q1⟩:=fR q;have q2:=az [3,0,0,0,0] rfl q1;obtain⟨h1,h2,d,rfl,e,q3⟩:=q2;rw[hv]at e;obtain⟨vb,e',e⟩:=e;obtain⟨lg,vo,rs⟩:=a;have e2:vo= .pointer (some ⟨vb,0,none⟩):=e';obtain rfl:=e2;refine⟨vb,eH (List.Perm.swap _ _ _) ?_⟩;exact⟨h1,h2,d,rfl,e,bn (p:=λa':Nat×Value=>[ah r (RepT.cells (s.rep ⟨a'.1, .pointer (some ⟨vb,0,none⟩),a'.2⟩)) 94,V.lg a'.1 s.e,own a'.2 s.replies.length (ints (s.replies.flatMap ReplyT.flat)) 175 3,V.E s.e s.o]) (lg,rs) q3⟩
theorem oQ{vt:VoteT}{vb:Nat}(q:bz (wt V r s (.pointer (some ⟨vb,0,none⟩))::ah vb (VoteT.cells vt) 187::H) h):bz (cJ V r {s with vote:=some vt}::H) h:=by
 obtain⟨a,q1⟩:=fR q;have q2:bz ([ah r (RepT.cells (s.rep ⟨a.1, .pointer (some ⟨vb,0,none⟩),a.2⟩)) 94,V.lg a.1 s.e,own a.2 s.replies.length (ints (s.replies.flatMap ReplyT.flat)) 175 3,V.E s.e s.o]++(Gg (.pointer (some ⟨vb,0,none⟩)) (some vt)::H)) h:=HC (λ_ e=>⟨vb,rfl,e⟩) q1;exact bn (p:=λa:Adr=>[ah r (RepT.cells ({s with vote:=some vt}.rep a)) 94,V.lg a.lg {s with vote:=some vt}.e,own a.rs {s with vote:=some vt}.replies.length (ints ({s with vote:=some vt}.replies.flatMap ReplyT.flat)) 175 3,Gg a.vo {s with vote:=some vt}.vote,V.E {s with vote:=some vt}.e {s with vote:=some vt}.o]) ⟨a.1, .pointer (some ⟨vb,0,none⟩),a.2⟩ (az [0,0,0,1,0] rfl q2)
theorem oR{vt:VoteT}{vb:Nat}(hv:s.vote=some vt)(q:bz (wt V r s (.pointer (some ⟨vb,0,none⟩))::ah vb (VoteT.cells vt) 187::H) h):bz (cJ V r s::H) h:=by
 have q2:=oQ q
 rwa [show({s with vote:=some vt}:MS δ)=s by cases s;simp_all]at q2
end
theorem DU{δ:Type}(V:Env δ)(r:Nat)(s:MS δ)(v:ViewT):
 DT 49 #[(.pointer (some ⟨r,0,none⟩)),(.agg (ints v.flat).toArray)] T0 [cJ V r s] (dH (λ_ H=>H=[cJ V r (lA s v)])):=by
 refine BD 20 Tryz.func49 rfl rfl rfl λw0 F hF=>sr λ_ J1=>XY (ints v.flat) λb3=>?_
 refine nx J1 (sr λ_ J2=>PS ?_);refine LW 0 e6 bi am ?_;refine PS ?_;refine FA 2 dq bi ?_;refine iw (vs:=ints v.flat) (i:=1) (ab rfl) rfl rfl rfl rfl rfl (by rw[(am v)];exact bi) (bA _) rfl rfl (λ_=>LC (cX _) (am _)) (λa_=>(Q5 (s.rep a_) 0 rfl (by have h1:=(am v);omega) (ct ((am ((s.rep a_).view)).trans (am v).symm)))) (nx J2 (sr λ_ J3=>PS ?_));refine FA 0 e6 aP ?_;refine LU 0 Y3 (aY v rfl) ?_;refine tp (kJ AccT.zero (AccT.mk v.epoch BallotT.zero BallotT.zero ChangeT.zero) [(0,[Value.int .i64 v.epoch])] qc o9 (g:=AccT.sg)) ?_;refine PS ?_;refine FA 1058 dq gg ?_;refine iw (vs:=ints (AccT.mk v.epoch BallotT.zero BallotT.zero ChangeT.zero).flat) (i:=1) (ab rfl) rfl rfl rfl rfl rfl (by rw[(ba (AccT.mk v.epoch BallotT.zero BallotT.zero ChangeT.zero))];exact gg) (bA _) rfl rfl (λ_=>LC (cX _) (ba _)) (λa_=>(k8 ((MS.setView s v).rep a_) 0 rfl (by have h1:=(ba (AccT.mk v.epoch BallotT.zero BallotT.zero ChangeT.zero));omega) (ct ((ba (((MS.setView s v).rep a_).acc)).trans (ba (AccT.mk v.epoch BallotT.zero BallotT.zero ChangeT.zero)).symm)))) (nx J3 (sr λ_ J4=>cr (λ_ q=>az [1] rfl q) (G9 (H':=λvo:Value=>wt V r (MS.setAcc (MS.setView s v) (AccT.mk v.epoch BallotT.zero BallotT.zero ChangeT.zero)) vo::[ah b3 (ints v.flat) 29]) (λ_ q=>GP q) (λvo=>P2 ?_))));refine FA 1067 dq nw ?_;refine SK 0 nw (λ_=>cX _) ?_ (hc:=by exact λa_=>(Q6 _ rfl _))
 refine nx J4 (ad (cr (H':=cJ V r {{s with view:=v}with acc:= {AccT.zero with epoch:=v.epoch},vote:=none}::[ah b3 (ints v.flat) 29]) (λ_ q=>Dw (az [0] rfl q)) (P2 ?_)));refine FA 1066 dq aP ?_;refine SK 0 aP (λ_=>cX _) ?_ (hc:=by exact λa_=>(mn _ rfl _));exact aw (WK [0] (bw rfl rfl))
theorem vu{δ:Type}(V:Env δ)(r:Nat)(s:MS δ)(v:ViewT)[OkR V.toDk s][OkVw v](hcl: ¬v.epoch≤s.view.epoch→DT 65 #[.pointer (some ⟨r,0,none⟩), .iface V.T V.ov] T0 [cJ V r (lA (dL V.toDk s (kK v)) v)] (dH (λ_ H=>H=[cJ V r (nN V.toDk (lA (dL V.toDk s (kK v)) v))]))):
 DT 101 #[(.pointer (some ⟨r,0,none⟩)),(.iface V.T V.ov),(.agg (ints v.flat).toArray)] T0 [cJ V r s] (RI (.bool (iT V.toDk s v)) [cJ V r (gl V.toDk s v)]):=by
 refine BD 28 Tryz.func101 rfl rfl rfl λw0 F hF=>sr λ_ J1=>XY (ints v.flat) λb5=>?_
 refine PS ?_;refine nx J1 (aa λ_ J2=>aa λ_ J3=>DC bl (BL 0) (cY 1 rfl rfl) ?_);refine FD 0 0 e6 aP ?_;refine LR 1 Y3 (aY v rfl) ?_;refine PD 2 ?_;refine PD 3 ?_;refine FD 4 2 dq bi ?_;refine FD 5 2 e6 aP ?_;refine ta 6 rfl (dz (v:=(.int .i64 (s.view.epoch))) rfl Y3 rfl rfl (λ_ h=>h.2.2.1) (λa_=>(cg (s.rep a_) 0 rfl (by decide) (aY _ rfl)))) ?_;refine PD 7 ?_;refine gS ?_ ?_<;>intro h14;refine PD 8 ?_;refine NT 9 ?_;refine NT 10 ?_;refine NT 11 ?_;refine NT 12 ?_;refine NT 13 ?_;refine PD 14 ?_;refine DN (ac J3 (CY (sr λ_ J4=>PS ?_)));refine nx J4 (aj (ae (WK [1] (av rfl rfl ?_))));have e:gl V.toDk s v=s:=by rw[gl,if_pos h14]
 exact⟨by rw[iT,decide_eq_false (by omega),ij],congrArg (λq=>[cJ V r q]) e.symm⟩;refine PD 8 ?_;refine PD 9 ?_;refine LY 10 e6 bi am ?_;refine tb 11 rfl (kJ RecT.zero (RecT.mk 5 0 RowT.zero 0 BallotT.zero ChangeT.zero v) [(0,[Value.int .i64 5]),(6,ints v.flat)] eC fC (g:=RecT.sg)) ?_;refine AL 12 ?_;refine CE Fq (lM V r s (kK v)) (SM [1]) ?_;refine EN (PD 13 ?_);refine gS ?_ ?_<;>intro h20;refine PD 14 ?_;refine DN (ac J3 (CY (sr λ_ J5=>PS ?_)));refine nx J5 (aj (ae (WK [0] (av rfl rfl ?_))));have e:gl V.toDk s v=(dL V.toDk s (kK v)):=by rw[gl,if_neg h14,if_pos h20]
 exact⟨by rw[iT,decide_eq_true (by omega),decide_eq_false h20,nS],congrArg (λq=>[cJ V r q]) e.symm⟩;refine PD 14 ?_;refine DN (ac J3 (CN (qx J2 (sr λ_ J6=>PS ?_))));refine LW 1 e6 bi am ?_;refine CZ ND (DU V r (dL V.toDk s (kK v)) v) ID λvR=>?_
 refine nx J6 (sr λ_ J7=>P2 ?_);refine CZ NA ((hcl (by omega))) ID λvR=>?_
 refine nx J7 (sr λ_ J8=>PS ?_);refine nx J8 (aj (WK [0] (av rfl rfl ?_)));have e:gl V.toDk s v=(nN V.toDk (lA (dL V.toDk s (kK v)) v)):=by rw[gl,if_neg h14,if_neg h20]
 exact⟨by rw[iT,decide_eq_true (by omega),decide_eq_true (by omega),nS],congrArg (λq=>[cJ V r q]) e.symm⟩
theorem DE{δ:Type}(V:Env δ)(r:Nat)(s:MS δ)(v:ViewT)[OkR V.toDk s][OkVw v](h:v.epoch≤s.view.epoch):DT 101 #[.pointer (some ⟨r,0,none⟩), .iface V.T V.ov, .agg (ints v.flat).toArray] T0 [cJ V r s] (dH (λq H=>(∃b,q= .bool b)∧H=[cJ V r s])):=
 (vu V r s v (λq=>absurd h q)).mono λe H hp=>by
  cases e with
  |returned q=>exact⟨⟨_,hp.1⟩,hp.2.trans (by rw[gl,if_pos h])⟩
  |panicked c=>exact hp.elim
  |outgrown=>exact hp.elim
theorem w6{δ:Type}(V:Env δ)(r:Nat)(s:MS δ)(i:Int)[OkR V.toDk s]:TK V r 62 s s.id (mX i s.view) (eu V.toDk s s.id i):=EV rfl (qq V r s s s.id (mX i s.view) (DE V r s s.view (Int.le_refl _)))
theorem qO{δ:Type}(V:Env δ)(r:Nat)(s:MS δ)[OkR V.toDk s]:
 DT 65 #[(.pointer (some ⟨r,0,none⟩)),(.iface V.T V.ov)] T0 [cJ V r s] (dH (λ_ H=>H=[cJ V r (nN V.toDk s)])):=by
 refine BD 39 Tryz.func65 rfl rfl rfl λw0 F hF=>sr λ_ J1=>PS ?_
 refine CR MT (Ai V r s) ID λvR HR hR=>?_
 obtain⟨_,rfl,rfl⟩:=hR;revert vR;intro ud;refine iZ 0 rfl rfl (λhlud houd=>tp (eA rfl km rfl hlud) ?_);refine PS ?_;refine nx J1 (aq ?_)
 refine bD (α:=(Nat)) (λk=>k≤(bu s).length) (λk=>[(0,(.pointer (some ⟨r,0,none⟩))),(1,(.iface V.T V.ov)),(9,ud),(10,(.int .i64 ((((bu s).length:Nat):Int)))),(11,(.int .i64 (((k:Nat):Int))))]) (λk=>[own ud ((bu s).length) (ints (bu s)) 3 1,cJ V r (fY V.toDk ((bu s).take k) s)]) (λk=>(bu s).length-k) 0
  (aO _) SB
  (λ_ s=>s) (λk hinv=>?_)
 obtain hk:=hinv;have hcl:OkR V.toDk (fY V.toDk ((bu s).take k) s):=uV _ _ inferInstance;refine sr λ_ J2=>PS ?_
 refine ap ?_ ?_<;>intro h12;refine nx J2 (aa λ_ J3=>CY (qx J3 (aa λ_ J4=>aq (sr λ_ J5=>?_))));have hmm1:(bu s).getD k 0∈bu s:=by rw[List.getD_eq_getElem?_getD,List.getElem?_eq_getElem (by omega)];exact fc _
 have hm1:cI ((bu s).getD k 0)=true:=(tL hmm1).1;have hn1:0≤(bu s).getD k 0∧(bu s).getD k 0<5:=of_decide_eq_true hm1;refine jh 0 rfl rfl (by omega) (λge1 ce1 he1 _=>tp (bT (r:=k) he1 rfl km aP rfl rfl (by omega) (by omega) (by omega)) ?_);refine tp (cZ (v:=(.int .i64 (((bu s).getD k 0)))) rfl Y3 rfl rfl (gq 0 rfl he1 rfl) (xG (by omega))) ?_;refine PS ?_;refine nx J5 (sr λ_ J6=>PS ?_);refine CR Ft (nd ((bu s).getD k 0) hm1) ID λvR HR hR=>?_
 obtain⟨_,rfl,rfl⟩:=hR;revert vR;intro uw;refine iZ 0 rfl rfl (λhluw _=>jh 0 rfl rfl (by omega) (λgw capw hvw hcapw=>tp (eA rfl km rfl hluw) ?_));refine PS ?_;refine nx J6 (aq (sE 2 (sr λ_ J7=>PS ?_)));refine nx J7 (aa λ_ J8=>CY (qx J8 (aa λ_ J9=>fB (α:=Unit) (λ_u=>True) (λ_u=>[(0,(.pointer (some ⟨r,0,none⟩))),(1,(.iface V.T V.ov)),(5,(.int .i64 (((bu s).getD k 0)))),(9,ud),(10,(.int .i64 ((((bu s).length:Nat):Int)))),(11,(.int .i64 (((k:Nat):Int)))),(16,uw),(17,(.int .i64 2)),(18,(.int .i64 0)),(19,(.bool true))]) (λ_u=>[cJ V r (gA V.toDk (fY V.toDk ((bu s).take k) s) ((bu s).getD k 0) ((((bu s).getD k 0)+1)%5)),own uw (2) ([.int .i64 ((((bu s).getD k 0)+1)%5), .int .i64 ((((bu s).getD k 0)+2)%5)]) 3 1,own ud ((bu s).length) (ints (bu s)) 3 1]) (λ_u hinv=>?_) (λtl9=>?_))));have _:=hinv;refine ac J9 (ad (tp (cB (r:=1) rfl rfl rfl (by decide)) ?_));refine PS ?_;refine aw (eJ (sr λ_ J10=>PS ?_))
 refine nx J10 (aa λ_ J11=>CY (qx J11 (aa λ_ J12=>fB (α:=Unit) (λ_u=>True) (λ_u=>[(0,(.pointer (some ⟨r,0,none⟩))),(1,(.iface V.T V.ov)),(5,(.int .i64 (((bu s).getD k 0)))),(9,ud),(10,(.int .i64 ((((bu s).length:Nat):Int)))),(11,(.int .i64 (((k:Nat):Int)))),(16,uw),(17,(.int .i64 2)),(18,(.int .i64 1)),(19,(.bool true)),(37,(.int .i64 1))]) (λ_u=>[cJ V r (gA V.toDk (gA V.toDk (fY V.toDk ((bu s).take k) s) ((bu s).getD k 0) ((((bu s).getD k 0)+1)%5)) ((bu s).getD k 0) ((((bu s).getD k 0)+2)%5)),own uw (2) ([.int .i64 ((((bu s).getD k 0)+1)%5), .int .i64 ((((bu s).getD k 0)+2)%5)]) 3 1,own ud ((bu s).length) (ints (bu s)) 3 1]) (λ_u hinv=>?_) (λtl12=>?_))));have _:=hinv;refine ac J12 (ad (tp (cB (r:=2) rfl rfl rfl (by decide)) ?_));refine PS ?_;refine aw (eJ (sr λ_ J13=>PS ?_));refine nx J13 (aa λ_ J14=>CN (bh (aC (aC (bC (af (ac J4 (ad (AD ?_)))))))));refine PS ?_;refine aw ?_
 exact aL ((k+1):(Nat)) (by omega) (by show(bu s).length- (k+1)< (bu s).length-k;omega)
  SB
  (λ_ q=>by
   rw[Ed V.toDk (by omega) s]
   exact ak [2,0] rfl q)
 refine aq (sr λ_ J15=>tp (bT (r:=1) hvw rfl km aP rfl rfl (by omega) (by omega) rfl) ?_);refine tp (cZ (v:=(.int .i64 (((((bu s).getD k 0)+2)%5)))) rfl Y3 rfl rfl (gq 1 rfl hvw rfl) rfl) ?_;refine PS ?_;refine nx J15 (sr λ_ J16=>P3 ?_);refine CE GN (n9 V r (gA V.toDk (fY V.toDk ((bu s).take k) s) ((bu s).getD k 0) ((((bu s).getD k 0)+1)%5)) ((bu s).getD k 0) ((((bu s).getD k 0)+2)%5) hm1 (by omega)) ID ?_;refine bb ?_ ?_<;>intro h25;refine PS ?_;refine nx J16 (CN (aS (af ?_)))
 exact aF
  SB
  (λ_ q=>by
   rw[gA,if_pos h25]
   exact ak [0,0,0] rfl q)
  (tl12 (():Unit) trivial)
 refine PS ?_;refine nx J16 (CY (ad ?_))
 iterate 6 refine PS ?_
 refine FA 2 dq bi ?_;refine LZ 0 e6 bi am ((gA V.toDk (fY V.toDk ((bu s).take k) s) ((bu s).getD k 0) ((((bu s).getD k 0)+1)%5)).view) ?_ (hc:=by exact λ_=>cW _);refine tp (kJ MsgT.zero (MsgT.mk 8 ((bu s).getD k 0) RowT.zero 0 0 BallotT.zero BallotT.zero ChangeT.zero ((gA V.toDk (fY V.toDk ((bu s).take k) s) ((bu s).getD k 0) ((((bu s).getD k 0)+1)%5)).view)) [(0,[Value.int .i64 8]),(1,[Value.int .i64 ((bu s).getD k 0)]),(8,ints ((gA V.toDk (fY V.toDk ((bu s).take k) s) ((bu s).getD k 0) ((((bu s).getD k 0)+1)%5)).view).flat)] bg br (g:=MsgT.sg)) ?_;refine CZ jI (gV V r (gA V.toDk (fY V.toDk ((bu s).take k) s) ((bu s).getD k 0) ((((bu s).getD k 0)+1)%5)) ((((bu s).getD k 0)+2)%5) (mX ((bu s).getD k 0) (gA V.toDk (fY V.toDk ((bu s).take k) s) ((bu s).getD k 0) ((((bu s).getD k 0)+1)%5)).view) (λs_=>eu V.toDk s_ s_.id ((bu s).getD k 0)) (λ_=>w6 V r (gA V.toDk (fY V.toDk ((bu s).take k) s) ((bu s).getD k 0) ((((bu s).getD k 0)+1)%5)) ((bu s).getD k 0))) ID λvR=>?_
 refine aw (af ?_)
 exact aF
  SB
  (λ_ q=>by
   rw[gA,if_neg (by rw[h25];decide)]
   exact ak [0,0,0] rfl q)
  (tl12 (():Unit) trivial)
 refine aq (sr λ_ J17=>tp (bT (r:=0) hvw rfl km aP rfl rfl (by omega) (by omega) rfl) ?_);refine tp (cZ (v:=(.int .i64 (((((bu s).getD k 0)+1)%5)))) rfl Y3 rfl rfl (gq 0 rfl hvw rfl) rfl) ?_;refine PS ?_;refine nx J17 (sr λ_ J18=>P3 ?_);refine CE GN (n9 V r (fY V.toDk ((bu s).take k) s) ((bu s).getD k 0) ((((bu s).getD k 0)+1)%5) hm1 (by omega)) (SM [2]) ?_;refine bb ?_ ?_<;>intro h25;refine PS ?_;refine nx J18 (CN (aS (af ?_)))
 exact aF
  SB
  (λ_ q=>by
   rw[gA,if_pos h25]
   exact ak [0,0,0] rfl q)
  (tl9 (():Unit) trivial)
 refine PS ?_;refine nx J18 (CY (ad ?_))
 iterate 6 refine PS ?_
 refine FA 2 dq bi ?_;refine LZ 0 e6 bi am ((fY V.toDk ((bu s).take k) s).view) ?_ (hc:=by exact λ_=>cW _);refine tp (kJ MsgT.zero (MsgT.mk 8 ((bu s).getD k 0) RowT.zero 0 0 BallotT.zero BallotT.zero ChangeT.zero ((fY V.toDk ((bu s).take k) s).view)) [(0,[Value.int .i64 8]),(1,[Value.int .i64 ((bu s).getD k 0)]),(8,ints ((fY V.toDk ((bu s).take k) s).view).flat)] bg br (g:=MsgT.sg)) ?_;refine CZ jI (gV V r (fY V.toDk ((bu s).take k) s) ((((bu s).getD k 0)+1)%5) (mX ((bu s).getD k 0) (fY V.toDk ((bu s).take k) s).view) (λs_=>eu V.toDk s_ s_.id ((bu s).getD k 0)) (λ_=>w6 V r (fY V.toDk ((bu s).take k) s) ((bu s).getD k 0))) ID λvR=>?_
 refine aw (af ?_)
 exact aF
  SB
  (λ_ q=>by
   rw[gA,if_neg (by rw[h25];decide)]
   exact ak [0,0,0] rfl q)
  (tl9 (():Unit) trivial)
 refine nx J2 (aa λ_ J19=>CN (bh (aC (aC (bC (WK [1] (bw rfl ?_)))))));obtain rfl:k=(bu s).length:=by omega
 exact MQ (by rw[kG];rfl)
theorem vv{δ:Type}(V:Env δ)(r:Nat)(s:MS δ)(v:ViewT)[OkR V.toDk s][OkVw v]:DT 101 #[.pointer (some ⟨r,0,none⟩), .iface V.T V.ov, .agg (ints v.flat).toArray] T0 [cJ V r s] (RI (.bool (iT V.toDk s v)) [cJ V r (gl V.toDk s v)]):=vu V r s v λ_=>qO V r _
theorem vw{δ:Type}(V:Env δ)(r:Nat)(s:MS δ)(v:ViewT)[OkR V.toDk s][OkVw v]:DT 101 #[.pointer (some ⟨r,0,none⟩), .iface V.T V.ov, .agg (ints v.flat).toArray] T0 [cJ V r s] (dH (λq H=>(∃b,q= .bool b)∧H=[cJ V r (gl V.toDk s v)])):=
 (vv V r s v).mono λe H hp=>by
  cases e with
  |returned q=>exact⟨⟨_,hp.1⟩,hp.2⟩
  |panicked c=>exact hp.elim
  |outgrown=>exact hp.elim
theorem wJ{δ:Type}(V:Env δ)(r:Nat)(s:MS δ)(from':Int)(m:MsgT)[OkR V.toDk s][OkMg m]:TK V r 102 s from' m (iD V.toDk s from' m):=qq V r s _ from' m (vw V r s m.view)
theorem Nc:Tryz.prog.eqGuardType Tryz.prog.depth 87=false:=by kernel_rfl
theorem Nb:Tryz.prog.keyTypeAt 6 87=true:=by kernel_rfl
theorem NQ:oV Tryz.prog 6 87=some 2:=by kernel_rfl
theorem IA:(match Tryz.prog.underlying 87 with|some (.struct _)|some (.array _ _)=>true|_=>false)=true:=by kernel_rfl
theorem IN:Tryz.prog.cellsOf 87=2:=by kernel_rfl
theorem Qm:Tryz.prog.eqGuardType Tryz.prog.depth 89=false:=by kernel_rfl
theorem Qh:Tryz.prog.keyTypeAt 6 89=true:=by kernel_rfl
theorem QZ:oV Tryz.prog 6 89=some 8:=by kernel_rfl
theorem Pr:(match Tryz.prog.underlying 89 with|some (.struct _)|some (.array _ _)=>true|_=>false)=true:=by kernel_rfl
theorem Px:Tryz.prog.cellsOf 89=8:=by kernel_rfl
theorem zU(a b:BallotT):
 DT 156 #[(.agg (ints a.flat).toArray),(.agg (ints b.flat).toArray)] T0 [] (RI (.bool (Dz a b)) []):=by
 refine BD 20 Tryz.func156 rfl rfl rfl λw0 F hF=>sr λ_ J1=>XY (ints a.flat) λb2=>?_
 refine XY (ints b.flat) λb3=>?_
 refine PS ?_;refine nx J1 (aa λ_ J2=>sr λ_ J3=>FA 0 kO aP ?_);refine LU 1 Y3 (fF a rfl) ?_;refine FA 0 kO aP ?_;refine LU 0 Y3 (fF b rfl) ?_;refine PS ?_;refine ap ?_ ?_<;>intro h9;refine nx J3 (CY (sr λ_ J4=>FA 0 kO aP ?_));refine LU 1 Y3 (fF a rfl) ?_;refine FA 0 kO aP ?_;refine LU 0 Y3 (fF b rfl) ?_;refine P2 ?_;refine nx J4 (aj (ae (WK [] (av rfl rfl ?_))));exact⟨congrArg Value.bool (by simp[Dz, *]),rfl⟩;refine nx J3 (CN (qx J2 (sr λ_ J5=>FA 1 kO aP ?_)));refine LU 1 Y3 (BallotT.at_who a rfl) ?_;refine FA 1 kO aP ?_;refine LU 0 Y3 (BallotT.at_who b rfl) ?_;refine P2 ?_;refine nx J5 (aj (WK [] (av rfl rfl ?_)));exact⟨congrArg Value.bool (by simp[Dz, *]),rfl⟩
theorem tl(a:AccT)(ep:Int)(b:BallotT):
 DT 141 #[(.agg (ints a.flat).toArray),(.int .i64 (ep)),(.agg (ints b.flat).toArray)] T0 [] (RI (.bool (Au a ep b)) []):=by
 refine BD 22 Tryz.func141 rfl rfl rfl λw0 F hF=>sr λ_ J1=>XY (ints a.flat) λb3=>?_
 refine XY (ints b.flat) λb5=>?_
 refine PS ?_;refine nx J1 (sr λ_ J2=>PS ?_);refine FA 0 qc aP ?_;refine LU 1 Y3 (AccT.at_epoch a rfl) ?_;refine PS ?_;refine ap ?_ ?_<;>intro h10;refine PS ?_
 iterate 3 refine UT ?_
 refine P2 ?_
 iterate 4 refine UT ?_
 refine P2 ?_;refine nx J2 (aj (WK [] (av rfl rfl ?_)));exact⟨congrArg Value.bool (by simp[Au, *]),rfl⟩;refine PS ?_;refine FA 0 kO aP ?_;refine LU 0 Y3 (fF b rfl) ?_;refine PS ?_;refine ap ?_ ?_<;>intro h14;refine P2 ?_
 iterate 4 refine UT ?_
 refine P2 ?_;refine nx J2 (aj (WK [] (av rfl rfl ?_)));exact⟨congrArg Value.bool (by simp[Au, *]),rfl⟩;refine P2 ?_;refine LW 0 kO cA ao ?_;refine FA 1 qc cA ?_;refine LV 1 kO cA ao AccT.sp_vow (y:=a.vow) ?_;refine CE MF (zU b a.vow) ID ?_;refine P2 ?_;refine nx J2 (aj (WK [] (av rfl rfl ?_)));exact⟨congrArg Value.bool (by simp[Au, *]),rfl⟩
theorem oh(a:AccT)(ep:Int)(b:BallotT):
 DT 109 #[(.agg (ints a.flat).toArray),(.int .i64 (ep)),(.agg (ints b.flat).toArray)] T0 [] (RI (.tuple #[.agg (ints (bS a ep b).1.flat).toArray, .bool (bS a ep b).2]) []):=by
 refine BD 16 Tryz.func109 rfl rfl rfl λw0 F hF=>sr λ_ J1=>XY (ints a.flat) λb3=>?_
 refine XY (ints b.flat) λb5=>?_
 refine XZ I4 (ints AccT.zero.flat) λb6=>?_
 refine PS ?_;refine nx J1 (aa λ_ J2=>sr λ_ J3=>LW 2 qc gg ba ?_);refine PS ?_;refine LW 1 kO cA ao ?_;refine CE MK (tl a ep b) ID ?_;refine bb ?_ ?_<;>intro h11;refine nx J3 (CY (sr λ_ J4=>LW 2 qc gg ba ?_));refine SW 0 gg ba ?_;refine PS ?_;refine nx J4 (aj (ae (RT 0 [] qc gg (ba _) ?_)));exact⟨by rw[bS];simp_all,rfl⟩;refine nx J3 (CN (qx J2 (sr λ_ J5=>LW 1 kO cA ao ?_)));refine FA 1 qc cA ?_;refine SP 2 cA ao ba AccT.wp_vow ?_;refine nx J5 (sr λ_ J6=>LW 2 qc gg ba ?_);refine SW 0 gg ba ?_;refine PS ?_;refine nx J6 (aj (RT 0 [] qc gg (ba _) ?_));exact⟨by rw[bS];simp_all,rfl⟩
theorem vI(a:AccT)(ep:Int)(b:BallotT)(ch:ChangeT):
 DT 155 #[(.agg (ints a.flat).toArray),(.int .i64 (ep)),(.agg (ints b.flat).toArray),(.agg (ints ch.flat).toArray)] T0 [] (RI (.tuple #[.agg (ints (hX a ep b ch).1.flat).toArray, .bool (hX a ep b ch).2]) []):=by
 refine BD 22 Tryz.func155 rfl rfl rfl λw0 F hF=>sr λ_ J1=>XY (ints a.flat) λb4=>?_
 refine XY (ints b.flat) λb6=>?_
 refine XY (ints ch.flat) λb7=>?_
 refine XZ I4 (ints AccT.zero.flat) λb8=>?_
 refine PS ?_;refine nx J1 (aa λ_ J2=>sr λ_ J3=>LW 3 qc gg ba ?_);refine PS ?_;refine LW 2 kO cA ao ?_;refine CE MK (tl a ep b) ID ?_;refine bb ?_ ?_<;>intro h13;refine nx J3 (CY (sr λ_ J4=>LW 3 qc gg ba ?_));refine SW 0 gg ba ?_;refine PS ?_;refine nx J4 (aj (ae (RT 0 [] qc gg (ba _) ?_)));exact⟨by rw[hX];simp_all,rfl⟩;refine nx J3 (CN (qx J2 (aa λ_ J5=>D2 2 1 bl ?_)));refine LY 0 kO cA ao ?_;refine LY 1 kO cA ao ?_;refine LY 2 nP gf aK ?_;refine FD 3 1 qc cA ?_;refine AL 4 ?_;refine SP 3 cA ao ba AccT.wp_vow ?_;refine EN (FD 5 3 qc cA ?_);refine AL 6 ?_;refine SP 3 cA ao ba AccT.wp_had ?_;refine EN (FD 7 5 qc gf ?_);refine AL 8 ?_;refine SP 3 gf aK ba AccT.wp_change ?_;refine EN (DN (ac J5 (sr λ_ J6=>LW 3 qc gg ba ?_)));refine SW 0 gg ba ?_;refine PS ?_;refine nx J6 (aj (RT 0 [] qc gg (ba _) ?_));exact⟨by rw[hX];simp_all,rfl⟩
theorem vn(b:Int):
 DT 161 #[(.int .i64 (b))] T0 [] (dH (λr' H=>∃u,r'=u∧H=[own u (E5 b).length (ints (E5 b)) 3 1])):=by
 refine BD 19 Tryz.func161 rfl rfl rfl λw0 F hF=>sr λ_ J1=>PS ?_
 refine nx J1 (sr λ_ J2=>PS ?_);refine nx J2 (aa λ_ J3=>sr λ_ J4=>PS ?_);refine nx J4 (aq ?_)
 refine bD (α:=(Nat)×(Value)) (λ⟨k,u⟩=>k≤5∧u.oneCell'=true) (λ⟨k,u⟩=>[(0,(.int .i64 (b))),(2,(.slice none 0 0)),(3,u),(5,(.int .i64 (((k:Nat):Int))))]) (λ⟨k,u⟩=>[own u ((lG b k).length) (ints (lG b k)) 3 1]) (λ⟨k,u⟩=>5-k) (0,(.slice none 0 0))
  ⟨aO _,rfl⟩ SB
  (λ_ s=>ik 3 1 (ak [] rfl s)) (λ⟨k,u⟩ hinv=>?_)
 obtain⟨hk,hu⟩:=hinv;have hol:=uo b k;refine sr λ_ J5=>PS ?_
 refine ap ?_ ?_<;>intro h6;refine nx J5 (aa λ_ J6=>CY (qx J6 (aa λ_ J7=>aq (sr λ_ J8=>P2 ?_))));refine nx J8 (sr λ_ J9=>P2 ?_);refine tp (mp (r:=(b.fdiv (2^min ((k:Nat):Int).toNat IntKind.i64.bits))) rfl rfl rfl (by omega) rfl) ?_;refine tp (o5 (r:=((b.fdiv (2^min ((k:Nat):Int).toNat IntKind.i64.bits))%2)) rfl rfl rfl (mask (k:=1) (by decide) _)) ?_;refine PS ?_;refine ap ?_ ?_<;>intro h12;refine nx J9 (CY (ad (P2 ?_)));refine aV (cells:=#[(.int .i64 (((k:Nat):Int)))]) (ab rfl) rfl rfl rfl km sn rfl rfl rfl (by as_aux_lemma=>kernel_rfl) (λb15=>cL (k:=1) (news:=[(.int .i64 (((k:Nat):Int)))]) (nn':=(lG b k).length+1) (xs':=ints (lG b k)++[(.int .i64 (((k:Nat):Int)))]) (ab rfl) rfl rfl rfl km sn rfl rfl rfl rfl rfl rfl (λ_ _=>j7 rfl (RO 0) rfl) (by simp[Value.oneCell']) (by simp only[maxLen];omega) (by omega) (by simp) (by simp) (λv16 ov16=>PS ?_));refine aw (af (ac J7 (ad (AD ?_))));refine PS ?_;refine aw ?_
 exact aL ((k+1,v16):(Nat)×(Value)) ⟨by omega,ov16⟩ (by show 5- (k+1)<5-k;omega)
  SB
  (λ_ q=>by
   show bz [own v16 (lG b (k+1)).length (ints (lG b (k+1))) 3 1] _;rw[show lG b (k+1)=lG b k++[((k:Nat):Int)]by rw[wX,if_pos (by rw[IQ,decide_eq_true (by assumption)])],ai,eI]
   exact ak [1] rfl q)
 refine nx J9 (CN (aS (af (ac J7 (ad (AD ?_))))));refine PS ?_;refine aw ?_
 exact aL ((k+1,u):(Nat)×(Value)) ⟨by omega,hu⟩ (by show 5- (k+1)<5-k;omega)
  SB
  (λ_ q=>by
   show bz [own u (lG b (k+1)).length (ints (lG b (k+1))) 3 1] _;rw[show lG b (k+1)=lG b k by rw[wX,if_neg (by rw[IQ,decide_eq_false (by assumption)];decide),aW]]
   exact ak [0] rfl q)
 refine nx J5 (aa λ_ J10=>CN (bh (aC (aC (bC (ac J3 (sr λ_ J11=>P2 ?_)))))));refine nx J11 (aj (WK [0] (av rfl rfl ?_)));obtain rfl:k=5:=by omega
 exact⟨u,rfl,rfl⟩
theorem Bi(part all:Int):
 DT 160 #[(.int .i64 (part)),(.int .i64 (all))] T0 [] (RI (.bool (MU part all)) []):=by
 refine BD 15 Tryz.func160 rfl rfl rfl λw0 F hF=>sr λ_ J1=>PS ?_
 refine nx J1 (sr λ_ J2=>P2 ?_);refine tp (o5 (r:=(tS .i64 part all)) rfl rfl rfl rfl) ?_;refine CR MD (vn (tS .i64 part all)) ID λvR HR hR=>?_
 obtain⟨_,rfl,rfl⟩:=hR;revert vR;intro us1;refine iZ 0 rfl rfl (λhlus1 _=>?_);have hzus1:=uo (tS .i64 part all) 5;change (E5 (tS .i64 part all)).length≤5 at hzus1;refine tp (eA rfl km rfl hlus1) ?_;refine tp (My (r:=(2* (((E5 (tS .i64 part all)).length:Nat):Int))) rfl rfl rfl (bK (by omega) (by omega))) ?_;refine PS ?_;refine CR MD (vn all) ID λvR HR hR=>?_
 obtain⟨_,rfl,rfl⟩:=hR;revert vR;intro us2;refine iZ 0 rfl rfl (λhlus2 _=>?_);have hzus2:=uo all 5;change (E5 all).length≤5 at hzus2;refine tp (eA rfl km rfl hlus2) ?_;refine P2 ?_;exact nx J2 (aj (WK [] (av rfl rfl ⟨rfl,rfl⟩)))
theorem jO(v:ViewT)(bits:Int):
 DT 157 #[(.agg (ints v.flat).toArray),(.int .i64 (bits))] T0 [] (RI (.bool (ie v bits)) []):=by
 refine BD 9 Tryz.func157 rfl rfl rfl λw0 F hF=>sr λ_ J1=>XY (ints v.flat) λb2=>?_
 refine PS ?_;refine nx J1 (sr λ_ J2=>PS ?_);refine FA 1 e6 aP ?_;refine LU 0 Y3 (mI v rfl) ?_;refine CE O2 (Bi bits v.members) ID ?_;refine PS ?_;exact nx J2 (aj (WK [] (av rfl rfl ⟨rfl,rfl⟩)))
theorem AJ(v:ViewT)(b:BallotT)(ch:ChangeT):
 DT 110 #[(.agg (ints v.flat).toArray),(.agg (ints b.flat).toArray),(.agg (ints ch.flat).toArray)] T0 [] (dH (λr' H=>∃vb,r'= .pointer (some ⟨vb,0,none⟩)∧H=[ah vb (VoteT.cells (jr v b ch)) 187])):=by
 refine BD 12 Tryz.func110 rfl rfl rfl λw0 F hF=>sr λ_ J1=>XY (ints v.flat) λb3=>?_
 refine XY (ints b.flat) λb4=>?_
 refine XY (ints ch.flat) λb5=>?_
 refine PS ?_;refine nx J1 (sr λ_ J2=>LW 2 e6 bi am ?_);refine LW 1 kO cA ao ?_;refine LW 0 nP gf aK ?_;refine tp (yX (cs:=VoteT.cells (VoteT.mk v b ch BallotT.zero 0 0 false)) (segs:=[ints ViewT.zero.flat,ints BallotT.zero.flat,ints ChangeT.zero.flat,ints BallotT.zero.flat,[Value.int .i64 0],[Value.int .i64 0],[Value.bool false]]) (res:=[ints v.flat,ints b.flat,ints ch.flat,ints BallotT.zero.flat,[Value.int .i64 0],[Value.int .i64 0],[Value.bool false]]) (parts:=[(0,ints v.flat),(1,ints b.flat),(2,ints ch.flat)]) rfl rfl j6 (by kernel_rfl) (by kernel_rfl) rfl (fG rfl ((am v).trans (am ViewT.zero).symm) (fG rfl ((ao b).trans (ao BallotT.zero).symm) (fG rfl ((aK ch).trans (aK ChangeT.zero).symm) l5))) (fU (VoteT.mk v b ch BallotT.zero 0 0 false)).symm) ?_;refine XY (VoteT.cells (VoteT.mk v b ch BallotT.zero 0 0 false)) λb11=>?_
 refine PS ?_;exact nx J2 (aj (WK [0] (av rfl rfl ⟨b11,rfl,rfl⟩)))
theorem bH(vb:Nat)(v:VoteT):
 DT 111 #[(.pointer (some ⟨vb,0,none⟩))] T0 [ah vb (VoteT.cells v) 187] (RI (.agg (ints v.ballot.flat).toArray) [ah vb (VoteT.cells v) 187]):=by
 refine BD 7 Tryz.func111 rfl rfl rfl λw0 F hF=>sr λ_ J1=>XZ PW (ints BallotT.zero.flat) λb2=>?_
 refine nx J1 (sr λ_ J2=>P2 ?_);refine FA 7 j6 cA ?_;refine LV 1 kO cA ao VoteT.sp_ballot (y:=v.ballot) ?_;refine SW 0 cA ao ?_;refine nx J2 (aj (RC 0 [1] kO cA (ao _) ?_));exact⟨rfl,rfl⟩
theorem dr(vb:Nat)(v:VoteT):
 DT 69 #[(.pointer (some ⟨vb,0,none⟩))] T0 [ah vb (VoteT.cells v) 187] (RI (.agg (ints v.change.flat).toArray) [ah vb (VoteT.cells v) 187]):=by
 refine BD 7 Tryz.func69 rfl rfl rfl λw0 F hF=>sr λ_ J1=>XZ PZ (ints ChangeT.zero.flat) λb2=>?_
 refine nx J1 (sr λ_ J2=>P2 ?_);refine FA 9 j6 gf ?_;refine LV 1 nP gf aK VoteT.sp_change (y:=v.change) ?_;refine SW 0 gf aK ?_;refine nx J2 (aj (RC 0 [1] nP gf (aK _) ?_));exact⟨rfl,rfl⟩
theorem oF(vb:Nat)(v:VoteT):
 DT 112 #[(.pointer (some ⟨vb,0,none⟩))] T0 [ah vb (VoteT.cells v) 187] (RI (.bool v.putting) [ah vb (VoteT.cells v) 187]):=by
 refine BD 7 Tryz.func112 rfl rfl rfl λw0 F hF=>sr λ_ J1=>PS ?_
 refine nx J1 (sr λ_ J2=>P2 ?_);refine FA 16 j6 lE ?_;refine LU 0 Y4 (mH v rfl) ?_;refine PS ?_;exact nx J2 (aj (WK [0] (av rfl rfl ⟨rfl,rfl⟩)))
theorem EJ(vb:Nat)(v:VoteT)(who:Int)(b had:BallotT)(ch:ChangeT)(hb:WF b.flat)(hvb:WF v.ballot.flat):
 DT 138 #[(.pointer (some ⟨vb,0,none⟩)),(.int .i64 (who)),(.agg (ints b.flat).toArray),(.agg (ints had.flat).toArray),(.agg (ints ch.flat).toArray)] T0 [ah vb (VoteT.cells v) 187] (RI (.bool (fi v who b had ch).2) [ah vb (VoteT.cells (fi v who b had ch).1) 187]):=by
 refine BD 76 Tryz.func138 rfl rfl rfl λw0 F hF=>sr λ_ J1=>XY (ints b.flat) λb7=>?_
 refine XY (ints had.flat) λb8=>?_
 refine XY (ints ch.flat) λb9=>?_
 refine PS ?_;refine nx J1 (aa λ_ J2=>aa λ_ J3=>D2 3 2 bl ?_);refine PD 0 ?_;refine PD 1 ?_;refine FD 2 16 j6 lE ?_;refine LR 3 Y4 (mH v rfl) ?_;refine sA ?_ ?_<;>intro h14;refine PD 4 ?_;refine NT 5 ?_;refine NT 6 ?_;refine NT 7 ?_;refine NT 8 ?_;refine NT 9 ?_;refine NT 10 ?_;refine PD 11 ?_;refine PD 12 ?_;refine NT 13 ?_;refine NT 14 ?_;refine NT 15 ?_;refine NT 16 ?_;refine NT 17 ?_;refine NT 18 ?_;refine NT 19 ?_;refine PD 20 ?_;refine DN (ac J3 (CY (sr λ_ J4=>PS ?_)));refine nx J4 (aj (ae (WK [3] (av rfl rfl ?_))));have e:fi v who b had ch=(v,false):=by rw[fi,h14,if_pos (by rfl)]
 exact⟨congrArg (λq:VoteT×Bool=>Value.bool q.2) e.symm,congrArg (λq:VoteT×Bool=>[ah vb (VoteT.cells q.1) 187]) e.symm⟩;refine PD 4 ?_;refine LY 5 kO cA ao ?_;refine PD 6 ?_;refine PD 7 ?_;refine FD 8 7 j6 cA ?_;refine tb 9 rfl (aM (vs:=ints v.ballot.flat) rfl kO rfl cA rfl (λ_ h=>h.2.1) (ao v.ballot) (Mv v 0 rfl (by decide) (bo (ao v.ballot)))) ?_;refine tb 10 rfl (Mx (a:=b.flat) (b:=v.ballot.flat) (m:=6) (c:=2) Nc Nb rfl NQ (eg (ao b)) (eg (ao v.ballot)) ⟨hZ IA IN (eg (ao b)),hZ IA IN (eg (ao v.ballot))⟩ hb hvb rfl rfl rfl) ?_;refine gS ?_ ?_<;>intro h21;refine PD 11 ?_;refine PD 12 ?_;refine NT 13 ?_;refine NT 14 ?_;refine NT 15 ?_;refine NT 16 ?_;refine NT 17 ?_;refine NT 18 ?_;refine NT 19 ?_;refine PD 20 ?_;refine DN (ac J3 (CY (sr λ_ J5=>PS ?_)));refine nx J5 (aj (ae (WK [3] (av rfl rfl ?_))));have e:fi v who b had ch=(v,false):=by rw[fi,ot,decide_eq_false h21,if_pos (by rw[h14];rfl)]
 exact⟨congrArg (λq:VoteT×Bool=>Value.bool q.2) e.symm,congrArg (λq:VoteT×Bool=>[ah vb (VoteT.cells q.1) 187]) e.symm⟩;refine PD 11 ?_;refine PD 12 ?_;refine PD 13 ?_;refine PD 14 ?_;refine FD 15 0 j6 bi ?_;refine tb 16 rfl (aM (vs:=ints v.view.flat) rfl e6 rfl bi rfl (λ_ h=>h.2.1) (am v.view) (Ep v 0 rfl (by decide) (bo (am v.view)))) ?_;refine PD 17 ?_;refine AL 18 ?_;refine CE pY (dC v.view who) ID ?_;refine bb ?_ ?_<;>intro h29;have hw:0≤who∧who<5:=by unfold iS cI at h29;simp only[an,decide_eq_true_eq]at h29;exact h29.1
 refine EN (PD 19 ?_);refine PD 20 ?_;refine DN (ac J3 (CN (qx J2 (aa λ_ J6=>D0 bl ?_))));refine PD 0 ?_;refine PD 1 ?_;refine FD 2 14 j6 aP ?_;refine PD 4 ?_;refine ta 5 rfl (yU (r:=(cN who)) rfl rfl rfl (by omega) rfl) ?_;refine AL 3 ?_;refine LU 3 Y3 (mh v rfl) ?_;refine EN (ta 6 rfl (KM (r:=(iP .i64 v.vowed (cN who))) rfl rfl rfl rfl) ?_);refine PD 7 ?_;refine FD 8 14 j6 aP ?_;refine AL 9 ?_;refine SS 3 aP (oj _) (VoteT.set_vowed v rfl _) ?_;refine EN (DN (ac J6 (aa λ_ J7=>aa λ_ J8=>D2 1 3 bl ?_)));refine FD 0 0 kO aP ?_;refine LR 1 Y3 (fF had rfl) ?_;refine PD 2 ?_;refine gS ?_ ?_<;>intro h43;refine PD 3 ?_;refine PD 4 ?_;refine PD 5 ?_;refine FD 6 12 j6 cA ?_;refine tb 7 rfl (aM (vs:=ints v.best.flat) rfl kO rfl cA rfl (λ_ h=>h.2.2.1) (ao v.best) (VoteT.sub_best (VoteT.mk v.view v.ballot v.change v.best (iP .i64 v.vowed (cN who)) v.took v.putting) 0 rfl (by decide) (bo (ao v.best)))) ?_;refine LY 8 kO cA ao ?_;refine AL 9 ?_;refine CE MF (zU v.best had) ID ?_;refine bb ?_ ?_<;>intro h50;refine EN (PD 10 ?_);refine DN (ac J8 (CY (D2 1 0 bl ?_)));refine PD 0 ?_;refine PD 1 ?_;refine LY 2 kO cA ao ?_;refine LY 3 nP gf aK ?_;refine PD 4 ?_;refine FD 5 12 j6 cA ?_;refine AL 6 ?_;refine SP 3 cA ao oj VoteT.wp_best ?_;refine EN (PD 7 ?_);refine FD 8 9 j6 gf ?_;refine AL 9 ?_;refine SP 3 gf aK oj VoteT.wp_change ?_
 refine EN (DN (ac J7 (aa λ_ J9=>fB (α:=Unit) (λ_=>True) (λ_u=>[(0,(.pointer (some ⟨vb,0,none⟩))),(10,(.bool false))]) (λ_u=>[ah b9 (ints ch.flat) 33,ah b8 (ints had.flat) 87,ah b7 (ints b.flat) 87,ah vb (VoteT.cells (VoteT.mk v.view v.ballot ch had (iP .i64 v.vowed (cN who)) v.took (ie v.view (iP .i64 v.vowed (cN who))))) 187]) (λ_u _=>?_) (λtl9=>?_))));refine ac J9 (sr λ_ J10=>P2 ?_);refine FA 16 j6 lE ?_;refine LT 3 Y4 (.bool (ie v.view (iP .i64 v.vowed (cN who)))) ?_ (hc:=by exact mH _ rfl);refine PS ?_;refine nx J10 (aj (WK [3] (av rfl rfl ?_)));have e:fi v who b had ch=((VoteT.mk v.view v.ballot ch had (iP .i64 v.vowed (cN who)) v.took (ie v.view (iP .i64 v.vowed (cN who)))),ie v.view (iP .i64 v.vowed (cN who))):=by rw[fi,ot,decide_eq_true (show b.flat=v.ballot.flat from Decidable.not_not.1 h21),h29,h14,if_neg (by decide),wG,decide_eq_true (show 0<had.round by omega),h50,if_pos (by decide)]
 exact⟨congrArg (λq:VoteT×Bool=>Value.bool q.2) e.symm,congrArg (λq:VoteT×Bool=>[ah vb (VoteT.cells q.1) 187]) e.symm⟩;refine D0 bl ?_;refine PD 0 ?_;refine PD 1 ?_;refine PD 2 ?_;refine FD 3 0 j6 bi ?_;refine PD 5 ?_;refine PD 6 ?_;refine FD 7 14 j6 aP ?_;refine cT [4,8] (by kernel_rfl) rfl (aG rfl ?_ ?_);refine LV 3 e6 bi am qe (y:=v.view) ?_;refine EN (AL 8 ?_);refine LT 3 Y3 (.int .i64 ((iP .i64 v.vowed (cN who)))) ?_ (hc:=by exact mh _ rfl);refine EN (AL 9 ?_);refine CE xr (jO v.view (iP .i64 v.vowed (cN who))) ID ?_;refine EN (PD 10 ?_);refine FD 11 16 j6 lE ?_;refine AL 12 ?_;refine SS 3 lE (oj _) (lJ _ rfl _) ?_;refine EN (DN ?_)
 exact aF
  SB
  (λ_ s=>s)
  (tl9 (():Unit) trivial)
 refine aG rfl ?_ ?_;refine LT 3 Y3 (.int .i64 ((iP .i64 v.vowed (cN who)))) ?_ (hc:=by exact mh _ rfl);refine EN (AL 4 ?_);refine LV 3 e6 bi am qe (y:=v.view) ?_;refine EN (AL 9 ?_);refine CE xr (jO v.view (iP .i64 v.vowed (cN who))) ID ?_;refine EN (PD 10 ?_);refine FD 11 16 j6 lE ?_;refine AL 12 ?_;refine SS 3 lE (oj _) (lJ _ rfl _) ?_;refine EN (DN ?_)
 exact aF
  SB
  (λ_ s=>s)
  (tl9 (():Unit) trivial)
 exact bJ;refine EN (PD 10 ?_);refine DN (ac J8 (CN (qx J7 (aa λ_ J11=>fB (α:=Unit) (λ_=>True) (λ_u=>[(0,(.pointer (some ⟨vb,0,none⟩))),(10,(.bool false))]) (λ_u=>[ah b9 (ints ch.flat) 33,ah b8 (ints had.flat) 87,ah b7 (ints b.flat) 87,ah vb (VoteT.cells (VoteT.mk v.view v.ballot v.change v.best (iP .i64 v.vowed (cN who)) v.took (ie v.view (iP .i64 v.vowed (cN who))))) 187]) (λ_u _=>?_) (λtl11=>?_)))));refine ac J11 (sr λ_ J12=>P2 ?_);refine FA 16 j6 lE ?_;refine LT 3 Y4 (.bool (ie v.view (iP .i64 v.vowed (cN who)))) ?_ (hc:=by exact mH _ rfl);refine PS ?_;refine nx J12 (aj (WK [3] (av rfl rfl ?_)));have e:fi v who b had ch=((VoteT.mk v.view v.ballot v.change v.best (iP .i64 v.vowed (cN who)) v.took (ie v.view (iP .i64 v.vowed (cN who)))),ie v.view (iP .i64 v.vowed (cN who))):=by rw[fi,ot,decide_eq_true (show b.flat=v.ballot.flat from Decidable.not_not.1 h21),h29,h14,if_neg (by decide),wG,h50,mx,if_neg (by decide)]
 exact⟨congrArg (λq:VoteT×Bool=>Value.bool q.2) e.symm,congrArg (λq:VoteT×Bool=>[ah vb (VoteT.cells q.1) 187]) e.symm⟩;refine D0 bl ?_;refine PD 0 ?_;refine PD 1 ?_;refine PD 2 ?_;refine FD 3 0 j6 bi ?_;refine PD 5 ?_;refine PD 6 ?_;refine FD 7 14 j6 aP ?_;refine cT [4,8] (by kernel_rfl) rfl (aG rfl ?_ ?_);refine LV 3 e6 bi am qe (y:=v.view) ?_;refine EN (AL 8 ?_);refine LT 3 Y3 (.int .i64 ((iP .i64 v.vowed (cN who)))) ?_ (hc:=by exact mh _ rfl);refine EN (AL 9 ?_);refine CE xr (jO v.view (iP .i64 v.vowed (cN who))) ID ?_;refine EN (PD 10 ?_);refine FD 11 16 j6 lE ?_;refine AL 12 ?_;refine SS 3 lE (oj _) (lJ _ rfl _) ?_;refine EN (DN ?_)
 exact aF
  SB
  (λ_ s=>s)
  (tl11 (():Unit) trivial)
 refine aG rfl ?_ ?_;refine LT 3 Y3 (.int .i64 ((iP .i64 v.vowed (cN who)))) ?_ (hc:=by exact mh _ rfl);refine EN (AL 4 ?_);refine LV 3 e6 bi am qe (y:=v.view) ?_;refine EN (AL 9 ?_);refine CE xr (jO v.view (iP .i64 v.vowed (cN who))) ID ?_;refine EN (PD 10 ?_);refine FD 11 16 j6 lE ?_;refine AL 12 ?_;refine SS 3 lE (oj _) (lJ _ rfl _) ?_;refine EN (DN ?_)
 exact aF
  SB
  (λ_ s=>s)
  (tl11 (():Unit) trivial)
 exact bJ;refine PD 3 ?_;refine NT 4 ?_;refine NT 5 ?_;refine NT 6 ?_;refine NT 7 ?_;refine NT 8 ?_;refine NT 9 ?_;refine PD 10 ?_;refine DN (ac J8 (CN (qx J7 (aa λ_ J13=>fB (α:=Unit) (λ_=>True) (λ_u=>[(0,(.pointer (some ⟨vb,0,none⟩))),(10,(.bool false))]) (λ_u=>[ah b9 (ints ch.flat) 33,ah b8 (ints had.flat) 87,ah b7 (ints b.flat) 87,ah vb (VoteT.cells (VoteT.mk v.view v.ballot v.change v.best (iP .i64 v.vowed (cN who)) v.took (ie v.view (iP .i64 v.vowed (cN who))))) 187]) (λ_u _=>?_) (λtl13=>?_)))));refine ac J13 (sr λ_ J14=>P2 ?_);refine FA 16 j6 lE ?_;refine LT 3 Y4 (.bool (ie v.view (iP .i64 v.vowed (cN who)))) ?_ (hc:=by exact mH _ rfl);refine PS ?_;refine nx J14 (aj (WK [3] (av rfl rfl ?_)));have e:fi v who b had ch=((VoteT.mk v.view v.ballot v.change v.best (iP .i64 v.vowed (cN who)) v.took (ie v.view (iP .i64 v.vowed (cN who)))),ie v.view (iP .i64 v.vowed (cN who))):=by rw[fi,ot,decide_eq_true (show b.flat=v.ballot.flat from Decidable.not_not.1 h21),h29,h14,if_neg (by decide),wG,decide_eq_false (show ¬0<had.round by omega),ij,if_neg (by decide)]
 exact⟨congrArg (λq:VoteT×Bool=>Value.bool q.2) e.symm,congrArg (λq:VoteT×Bool=>[ah vb (VoteT.cells q.1) 187]) e.symm⟩;refine D0 bl ?_;refine PD 0 ?_;refine PD 1 ?_;refine PD 2 ?_;refine FD 3 0 j6 bi ?_;refine PD 5 ?_;refine PD 6 ?_;refine FD 7 14 j6 aP ?_;refine cT [4,8] (by kernel_rfl) rfl (aG rfl ?_ ?_);refine LV 3 e6 bi am qe (y:=v.view) ?_;refine EN (AL 8 ?_);refine LT 3 Y3 (.int .i64 ((iP .i64 v.vowed (cN who)))) ?_ (hc:=by exact mh _ rfl);refine EN (AL 9 ?_);refine CE xr (jO v.view (iP .i64 v.vowed (cN who))) ID ?_;refine EN (PD 10 ?_);refine FD 11 16 j6 lE ?_;refine AL 12 ?_;refine SS 3 lE (oj _) (lJ _ rfl _) ?_;refine EN (DN ?_)
 exact aF
  SB
  (λ_ s=>s)
  (tl13 (():Unit) trivial)
 refine aG rfl ?_ ?_;refine LT 3 Y3 (.int .i64 ((iP .i64 v.vowed (cN who)))) ?_ (hc:=by exact mh _ rfl);refine EN (AL 4 ?_);refine LV 3 e6 bi am qe (y:=v.view) ?_;refine EN (AL 9 ?_);refine CE xr (jO v.view (iP .i64 v.vowed (cN who))) ID ?_;refine EN (PD 10 ?_);refine FD 11 16 j6 lE ?_;refine AL 12 ?_;refine SS 3 lE (oj _) (lJ _ rfl _) ?_;refine EN (DN ?_)
 exact aF
  SB
  (λ_ s=>s)
  (tl13 (():Unit) trivial)
 exact bJ;refine EN (PD 19 ?_);refine PD 20 ?_;refine DN (ac J3 (CY (sr λ_ J15=>PS ?_)));refine nx J15 (aj (ae (WK [3] (av rfl rfl ?_))));have e:fi v who b had ch=(v,false):=by rw[fi,ot,h29,if_pos (by rw[h14,mx];rfl)]
 exact⟨congrArg (λq:VoteT×Bool=>Value.bool q.2) e.symm,congrArg (λq:VoteT×Bool=>[ah vb (VoteT.cells q.1) 187]) e.symm⟩
theorem ET(vb:Nat)(v:VoteT)(who:Int)(b:BallotT)(hb:WF b.flat)(hvb:WF v.ballot.flat):
 DT 139 #[(.pointer (some ⟨vb,0,none⟩)),(.int .i64 (who)),(.agg (ints b.flat).toArray)] T0 [ah vb (VoteT.cells v) 187] (RI (.bool (hO v who b).2) [ah vb (VoteT.cells (hO v who b).1) 187]):=by
 refine BD 47 Tryz.func139 rfl rfl rfl λw0 F hF=>sr λ_ J1=>XY (ints b.flat) λb5=>?_
 refine PS ?_;refine nx J1 (aa λ_ J2=>aa λ_ J3=>D2 1 0 bl ?_);refine PD 0 ?_;refine PD 1 ?_;refine FD 2 16 j6 lE ?_;refine LR 3 Y4 (mH v rfl) ?_;refine sA ?_ ?_<;>intro h10;refine PD 4 ?_;refine PD 5 ?_;refine LY 6 kO cA ao ?_;refine PD 7 ?_;refine PD 8 ?_;refine FD 9 7 j6 cA ?_;refine tb 10 rfl (aM (vs:=ints v.ballot.flat) rfl kO rfl cA rfl (λ_ h=>h.2.1) (ao v.ballot) (Mv v 0 rfl (by decide) (bo (ao v.ballot)))) ?_;refine tb 11 rfl (Mx (a:=b.flat) (b:=v.ballot.flat) (m:=6) (c:=2) Nc Nb rfl NQ (eg (ao b)) (eg (ao v.ballot)) ⟨hZ IA IN (eg (ao b)),hZ IA IN (eg (ao v.ballot))⟩ hb hvb rfl rfl rfl) ?_;refine gS ?_ ?_<;>intro h18;refine PD 12 ?_;refine PD 13 ?_;refine NT 14 ?_;refine NT 15 ?_;refine NT 16 ?_;refine NT 17 ?_;refine NT 18 ?_;refine NT 19 ?_;refine NT 20 ?_;refine PD 21 ?_;refine DN (ac J3 (CY (sr λ_ J4=>PS ?_)));refine nx J4 (aj (ae (WK [1] (av rfl rfl ?_))));have e:hO v who b=(v,false):=by rw[hO,ot,decide_eq_false h18,if_pos (by rw[h10];rfl)]
 exact⟨congrArg (λq:VoteT×Bool=>Value.bool q.2) e.symm,congrArg (λq:VoteT×Bool=>[ah vb (VoteT.cells q.1) 187]) e.symm⟩;refine PD 12 ?_;refine PD 13 ?_;refine PD 14 ?_;refine PD 15 ?_;refine FD 16 0 j6 bi ?_;refine tb 17 rfl (aM (vs:=ints v.view.flat) rfl e6 rfl bi rfl (λ_ h=>h.2.1) (am v.view) (Ep v 0 rfl (by decide) (bo (am v.view)))) ?_;refine PD 18 ?_;refine AL 19 ?_;refine CE pY (dC v.view who) ID ?_;refine bb ?_ ?_<;>intro h26;have hw:0≤who∧who<5:=by unfold iS cI at h26;simp only[an,decide_eq_true_eq]at h26;exact h26.1
 refine EN (PD 20 ?_);refine PD 21 ?_;refine DN (ac J3 (CN (qx J2 (aa λ_ J5=>D0 bl ?_))));refine PD 0 ?_;refine PD 1 ?_;refine FD 2 15 j6 aP ?_;refine PD 4 ?_;refine ta 5 rfl (yU (r:=(cN who)) rfl rfl rfl (by omega) rfl) ?_;refine AL 3 ?_;refine LU 1 Y3 (VoteT.at_took v rfl) ?_;refine EN (ta 6 rfl (KM (r:=(iP .i64 v.took (cN who))) rfl rfl rfl rfl) ?_);refine PD 7 ?_;refine FD 8 15 j6 aP ?_;refine AL 9 ?_;refine SS 1 aP (oj _) (VoteT.set_took v rfl _) ?_;refine EN (DN (ac J5 (aa λ_ J6=>D1 1 bl ?_)));refine PD 0 ?_;refine PD 1 ?_;refine FD 2 0 j6 bi ?_;refine ta 3 rfl (aM (vs:=ints v.view.flat) rfl e6 rfl bi rfl (λ_ h=>h.2.1) (am v.view) (Ep (VoteT.mk v.view v.ballot v.change v.best v.vowed (iP .i64 v.took (cN who)) v.putting) 0 rfl (by decide) (bo (am v.view)))) ?_;refine PD 4 ?_;refine PD 5 ?_;refine FD 6 15 j6 aP ?_;refine LX 7 Y3 (.int .i64 ((iP .i64 v.took (cN who)))) ?_ (hc:=by exact VoteT.at_took _ rfl);refine AL 8 ?_;refine CE xr (jO v.view (iP .i64 v.took (cN who))) ID ?_;refine EN (PD 9 ?_);refine DN (ac J6 (aj (WK [1] (av rfl rfl ?_))));have e:hO v who b=((VoteT.mk v.view v.ballot v.change v.best v.vowed (iP .i64 v.took (cN who)) v.putting),ie v.view (iP .i64 v.took (cN who))):=by rw[hO,ot,decide_eq_true (show b.flat=v.ballot.flat from Decidable.not_not.1 h18),h26,h10,if_neg (by decide)]
 exact⟨congrArg (λq:VoteT×Bool=>Value.bool q.2) e.symm,congrArg (λq:VoteT×Bool=>[ah vb (VoteT.cells q.1) 187]) e.symm⟩;refine EN (PD 20 ?_);refine PD 21 ?_;refine DN (ac J3 (CY (sr λ_ J7=>PS ?_)));refine nx J7 (aj (ae (WK [1] (av rfl rfl ?_))));have e:hO v who b=(v,false):=by rw[hO,ot,h26,if_pos (by rw[h10,mx];rfl)]
 exact⟨congrArg (λq:VoteT×Bool=>Value.bool q.2) e.symm,congrArg (λq:VoteT×Bool=>[ah vb (VoteT.cells q.1) 187]) e.symm⟩;refine PD 4 ?_;refine PD 5 ?_;refine NT 6 ?_;refine NT 7 ?_;refine NT 8 ?_;refine NT 9 ?_;refine NT 10 ?_;refine NT 11 ?_;refine PD 12 ?_;refine PD 13 ?_;refine NT 14 ?_;refine NT 15 ?_;refine NT 16 ?_;refine NT 17 ?_;refine NT 18 ?_;refine NT 19 ?_;refine NT 20 ?_;refine PD 21 ?_;refine DN (ac J3 (CY (sr λ_ J8=>PS ?_)));refine nx J8 (aj (ae (WK [1] (av rfl rfl ?_))));have e:hO v who b=(v,false):=by rw[hO,h10,if_pos (by rfl)]
 exact⟨congrArg (λq:VoteT×Bool=>Value.bool q.2) e.symm,congrArg (λq:VoteT×Bool=>[ah vb (VoteT.cells q.1) 187]) e.symm⟩
theorem BK{δ:Type}(V:Env δ)(r vb:Nat)(s:MS δ)(vt:VoteT)(hv:s.vote=some vt)[OkR V.toDk s]:
 DT 140 #[(.pointer (some ⟨r,0,none⟩)),(.iface V.T V.ov)] T0 [wt V r s (.pointer (some ⟨vb,0,none⟩)),ah vb (VoteT.cells vt) 187] (dH (λ_ H=>H=[cJ V r (iX V.toDk s vt.change)])):=by
 refine BD 32 Tryz.func140 rfl rfl rfl λw0 F hF=>aa λ_ J1=>fB (α:=(Nat)) (λ_=>True) (λb4=>[(0,(.pointer (some ⟨r,0,none⟩))),(1,(.iface V.T V.ov)),(4,(.pointer (some ⟨b4,0,none⟩))),(5,(.int .i64 ((dF s.view vt.change).2)))]) (λb4=>[ah b4 (ints ((dF s.view vt.change).1).flat) 29,ah vb (VoteT.cells vt) 187,wt V r s (.pointer (some ⟨vb,0,none⟩))]) (λb4 _=>?_) (λtl1=>?_)
 refine ac J1 (aa λ_ J2=>sr λ_ J3=>cr (H':=cJ V r s::[ah b4 (ints ((dF s.view vt.change).1).flat) 29]) (λ_ q=>oR hv (az [2,1] rfl q)) (P2 ?_));refine ap ?_ ?_<;>intro h20;refine PS ?_
 iterate 5 refine UT ?_
 refine PS ?_;refine nx J3 (CY (aj (ae (WK [0] (dU rfl ?_)))));exact MQ (by rw[iX,if_pos h20]);refine P3 ?_;refine LW 1 e6 bi am ?_;refine CE JV (vv V r s ((dF s.view vt.change).1)) ID ?_;refine bb ?_ ?_<;>intro h25;refine PS ?_;refine PS ?_;refine nx J3 (CN (qx J2 (ad (P2 ?_))));refine LW 1 e6 bi am ?_;refine CZ Nz (nq V r (gl V.toDk s ((dF s.view vt.change).1)) ((dF s.view vt.change).1)) ID λvR=>?_
 refine aw (WK [0] (bw rfl ?_));exact MQ (by rw[iX,if_neg h20,h25,if_pos rfl]);refine PS ?_;refine PS ?_;refine nx J3 (CY (aj (ae (WK [0] (dU rfl ?_)))));exact MQ (by rw[iX,if_neg h20,h25,if_neg (by decide)]);refine D1 1 bl ?_;refine PD 0 ?_;refine PD 1 ?_;refine FD 2 2 dq bi ?_;refine PD 4 ?_;refine PD 5 ?_;refine FD 6 1067 dq nw ?_;refine cT [3,7,13] (by kernel_rfl) rfl (aG rfl ?_ ?_);refine LZ 0 e6 bi am s.view ?_ (hc:=by exact λ_=>cW _);refine EN (cT [7,13] (by kernel_rfl) rfl (aG rfl ?_ ?_));refine LG 0 p6 (.pointer (some ⟨vb,0,none⟩)) ?_ (hc:=by exact λa_=>(bX _ rfl));refine EN (cT [8,13] (by kernel_rfl) rfl (aG rfl ?_ ?_));refine CE uH (dr vb vt) (SM [1]) ?_;refine EN (cT [9,13] (by kernel_rfl) rfl (aG rfl ?_ ?_));refine CE nG (dE s.view vt.change OkVw.rng) ID ?_;refine EN (PD 10 ?_);refine PD 11 ?_;refine PD 12 ?_;refine AL 13 ?_;refine XZ rN (ints ViewT.zero.flat) λb4=>?_
 refine EN (AL 14 ?_);refine SW 0 bi am ?_;refine EN (PD 15 ?_);refine DN ?_
 exact aF
  SB
  (λ_ s=>s)
  (tl1 ((b4):(Nat)) trivial)
 refine aG rfl ?_ ?_;refine XZ rN (ints ViewT.zero.flat) λb4=>?_
 refine EN (AL 9 ?_);refine CE nG (dE s.view vt.change OkVw.rng) ID ?_;refine EN (PD 10 ?_);refine PD 11 ?_;refine PD 12 ?_;refine AL 14 ?_;refine SW 0 bi am ?_;refine EN (PD 15 ?_);refine DN ?_
 exact aF
  SB
  (λ_ s=>s)
  (tl1 ((b4):(Nat)) trivial)
 exact bJ;refine aG rfl ?_ ?_;refine XZ rN (ints ViewT.zero.flat) λb4=>?_
 refine EN (AL 8 ?_);refine CE uH (dr vb vt) (SM [2]) ?_;refine EN (AL 9 ?_);refine CE nG (dE s.view vt.change OkVw.rng) ID ?_;refine EN (PD 10 ?_);refine PD 11 ?_;refine PD 12 ?_;refine AL 14 ?_;refine SW 1 bi am ?_;refine EN (PD 15 ?_);refine DN ?_
 exact aF
  SB
  (λ_ s=>ak [1,0,0] rfl s)
  (tl1 ((b4):(Nat)) trivial)
 exact bJ;refine aG rfl ?_ ?_;refine XZ rN (ints ViewT.zero.flat) λb4=>?_
 refine EN (AL 7 ?_);refine LG 1 p6 (.pointer (some ⟨vb,0,none⟩)) ?_ (hc:=by exact λa_=>(bX _ rfl));refine EN (AL 8 ?_);refine CE uH (dr vb vt) (SM [2]) ?_;refine EN (AL 9 ?_);refine CE nG (dE s.view vt.change OkVw.rng) ID ?_;refine EN (PD 10 ?_);refine PD 11 ?_;refine PD 12 ?_;refine AL 14 ?_;refine SW 1 bi am ?_;refine EN (PD 15 ?_);refine DN ?_
 exact aF
  SB
  (λ_ s=>ak [1,0,0] rfl s)
  (tl1 ((b4):(Nat)) trivial)
 exact bJ;refine aG rfl ?_ ?_;refine LG 0 p6 (.pointer (some ⟨vb,0,none⟩)) ?_ (hc:=by exact λa_=>(bX _ rfl));refine EN (cT [3,8,13] (by kernel_rfl) rfl (aG rfl ?_ ?_));refine LZ 0 e6 bi am s.view ?_ (hc:=by exact λ_=>cW _);refine EN (cT [8,13] (by kernel_rfl) rfl (aG rfl ?_ ?_));refine CE uH (dr vb vt) (SM [1]) ?_;refine EN (cT [9,13] (by kernel_rfl) rfl (aG rfl ?_ ?_));refine CE nG (dE s.view vt.change OkVw.rng) ID ?_;refine EN (PD 10 ?_);refine PD 11 ?_;refine PD 12 ?_;refine AL 13 ?_;refine XZ rN (ints ViewT.zero.flat) λb4=>?_
 refine EN (AL 14 ?_);refine SW 0 bi am ?_;refine EN (PD 15 ?_);refine DN ?_
 exact aF
  SB
  (λ_ s=>s)
  (tl1 ((b4):(Nat)) trivial)
 refine aG rfl ?_ ?_;refine XZ rN (ints ViewT.zero.flat) λb4=>?_
 refine EN (AL 9 ?_);refine CE nG (dE s.view vt.change OkVw.rng) ID ?_;refine EN (PD 10 ?_);refine PD 11 ?_;refine PD 12 ?_;refine AL 14 ?_;refine SW 0 bi am ?_;refine EN (PD 15 ?_);refine DN ?_
 exact aF
  SB
  (λ_ s=>s)
  (tl1 ((b4):(Nat)) trivial)
 exact bJ;refine aG rfl ?_ ?_;refine XZ rN (ints ViewT.zero.flat) λb4=>?_
 refine EN (AL 8 ?_);refine CE uH (dr vb vt) (SM [2]) ?_;refine EN (AL 9 ?_);refine CE nG (dE s.view vt.change OkVw.rng) ID ?_;refine EN (PD 10 ?_);refine PD 11 ?_;refine PD 12 ?_;refine AL 14 ?_;refine SW 1 bi am ?_;refine EN (PD 15 ?_);refine DN ?_
 exact aF
  SB
  (λ_ s=>ak [1,0,0] rfl s)
  (tl1 ((b4):(Nat)) trivial)
 exact bJ;refine aG rfl ?_ ?_;refine CE uH (dr vb vt) (SM [1]) ?_;refine EN (cT [3,13] (by kernel_rfl) rfl (aG rfl ?_ ?_));refine LZ 1 e6 bi am s.view ?_ (hc:=by exact λ_=>cW _);refine EN (cT [9,13] (by kernel_rfl) rfl (aG rfl ?_ ?_));refine CE nG (dE s.view vt.change OkVw.rng) ID ?_;refine EN (PD 10 ?_);refine PD 11 ?_;refine PD 12 ?_;refine AL 13 ?_;refine XZ rN (ints ViewT.zero.flat) λb4=>?_
 refine EN (AL 14 ?_);refine SW 0 bi am ?_;refine EN (PD 15 ?_);refine DN ?_
 exact aF
  SB
  (λ_ s=>s)
  (tl1 ((b4):(Nat)) trivial)
 refine aG rfl ?_ ?_;refine XZ rN (ints ViewT.zero.flat) λb4=>?_
 refine EN (AL 9 ?_);refine CE nG (dE s.view vt.change OkVw.rng) ID ?_;refine EN (PD 10 ?_);refine PD 11 ?_;refine PD 12 ?_;refine AL 14 ?_;refine SW 0 bi am ?_;refine EN (PD 15 ?_);refine DN ?_
 exact aF
  SB
  (λ_ s=>s)
  (tl1 ((b4):(Nat)) trivial)
 exact bJ;refine aG rfl ?_ ?_;refine XZ rN (ints ViewT.zero.flat) λb4=>?_
 refine EN (AL 3 ?_);refine LZ 2 e6 bi am s.view ?_ (hc:=by exact λ_=>cW _);refine EN (AL 9 ?_);refine CE nG (dE s.view vt.change OkVw.rng) ID ?_;refine EN (PD 10 ?_);refine PD 11 ?_;refine PD 12 ?_;refine AL 14 ?_;refine SW 0 bi am ?_;refine EN (PD 15 ?_);refine DN ?_
 exact aF
  SB
  (λ_ s=>s)
  (tl1 ((b4):(Nat)) trivial)
 exact bJ;refine aG rfl ?_ ?_;refine XZ rN (ints ViewT.zero.flat) λb4=>?_
 refine EN (cT [3,8] (by kernel_rfl) rfl (aG rfl ?_ ?_));refine LZ 1 e6 bi am s.view ?_ (hc:=by exact λ_=>cW _);refine EN (AL 8 ?_);refine CE uH (dr vb vt) (SM [2]) ?_;refine EN (AL 9 ?_);refine CE nG (dE s.view vt.change OkVw.rng) ID ?_;refine EN (PD 10 ?_);refine PD 11 ?_;refine PD 12 ?_;refine AL 14 ?_;refine SW 1 bi am ?_;refine EN (PD 15 ?_);refine DN ?_
 exact aF
  SB
  (λ_ s=>ak [1,0,0] rfl s)
  (tl1 ((b4):(Nat)) trivial)
 refine aG rfl ?_ ?_;refine CE uH (dr vb vt) (SM [2]) ?_;refine EN (AL 3 ?_);refine LZ 2 e6 bi am s.view ?_ (hc:=by exact λ_=>cW _);refine EN (AL 9 ?_);refine CE nG (dE s.view vt.change OkVw.rng) ID ?_;refine EN (PD 10 ?_);refine PD 11 ?_;refine PD 12 ?_;refine AL 14 ?_;refine SW 1 bi am ?_;refine EN (PD 15 ?_);refine DN ?_
 exact aF
  SB
  (λ_ s=>ak [1,0,0] rfl s)
  (tl1 ((b4):(Nat)) trivial)
 exact bJ;exact bJ;refine aG rfl ?_ ?_;refine XZ rN (ints ViewT.zero.flat) λb4=>?_
 refine EN (cT [3,7] (by kernel_rfl) rfl (aG rfl ?_ ?_));refine LZ 1 e6 bi am s.view ?_ (hc:=by exact λ_=>cW _);refine EN (AL 7 ?_);refine LG 1 p6 (.pointer (some ⟨vb,0,none⟩)) ?_ (hc:=by exact λa_=>(bX _ rfl));refine EN (AL 8 ?_);refine CE uH (dr vb vt) (SM [2]) ?_;refine EN (AL 9 ?_);refine CE nG (dE s.view vt.change OkVw.rng) ID ?_;refine EN (PD 10 ?_);refine PD 11 ?_;refine PD 12 ?_;refine AL 14 ?_;refine SW 1 bi am ?_;refine EN (PD 15 ?_);refine DN ?_
 exact aF
  SB
  (λ_ s=>ak [1,0,0] rfl s)
  (tl1 ((b4):(Nat)) trivial)
 refine aG rfl ?_ ?_;refine LG 1 p6 (.pointer (some ⟨vb,0,none⟩)) ?_ (hc:=by exact λa_=>(bX _ rfl));refine EN (cT [3,8] (by kernel_rfl) rfl (aG rfl ?_ ?_));refine LZ 1 e6 bi am s.view ?_ (hc:=by exact λ_=>cW _);refine EN (AL 8 ?_);refine CE uH (dr vb vt) (SM [2]) ?_;refine EN (AL 9 ?_);refine CE nG (dE s.view vt.change OkVw.rng) ID ?_;refine EN (PD 10 ?_);refine PD 11 ?_;refine PD 12 ?_;refine AL 14 ?_;refine SW 1 bi am ?_;refine EN (PD 15 ?_);refine DN ?_
 exact aF
  SB
  (λ_ s=>ak [1,0,0] rfl s)
  (tl1 ((b4):(Nat)) trivial)
 refine aG rfl ?_ ?_;refine CE uH (dr vb vt) (SM [2]) ?_;refine EN (AL 3 ?_);refine LZ 2 e6 bi am s.view ?_ (hc:=by exact λ_=>cW _);refine EN (AL 9 ?_);refine CE nG (dE s.view vt.change OkVw.rng) ID ?_;refine EN (PD 10 ?_);refine PD 11 ?_;refine PD 12 ?_;refine AL 14 ?_;refine SW 1 bi am ?_;refine EN (PD 15 ?_);refine DN ?_
 exact aF
  SB
  (λ_ s=>ak [1,0,0] rfl s)
  (tl1 ((b4):(Nat)) trivial)
 exact bJ;exact bJ;exact bJ
theorem BJ{δ:Type}(V:Env δ)(r:Nat)(s:MS δ)(vt:VoteT)(hv:s.vote=some vt)[OkR V.toDk s]:DT 140 #[.pointer (some ⟨r,0,none⟩), .iface V.T V.ov] T0 [cJ V r s] (dH (λ_ H=>H=[cJ V r (iX V.toDk s vt.change)])):=
 Leg.Does.ex (λ_ q=>nI hv q) λvb=>BK V r vb s vt hv
theorem oS{δ:Type}{V:Env δ}{r:Nat}{s:MS δ}{H:List HP}{h:Hl}(hv:s.vote=none)(q:bz (wt V r s (.pointer none)::H) h):bz (cJ V r s::H) h:=by
 have q2:=Dw q
 rwa [show({s with vote:=none}:MS δ)=s by cases s;simp_all]at q2
theorem lm{δ:Type}(V:Env δ)(r:Nat)(s:MS δ)(f:MS δ→MS δ)(from':Int)(m:MsgT)[OkR V.toDk s][OkMg m](hfe:from'=s.id→m.epoch=s.view.epoch)(h3:m.kind=3→m.epoch=s.view.epoch→TK V r 136 (dx s (max s.round m.ballot.round)) from' m (f (dx s (max s.round m.ballot.round))))(h5:m.kind=5→m.epoch=s.view.epoch→TK V r 137 (dx s (max s.round m.ballot.round)) from' m (f (dx s (max s.round m.ballot.round))))(hn:m.kind≠3∧m.kind≠5→f (dx s (max s.round m.ballot.round))=(dx s (max s.round m.ballot.round)))(hv:m.kind=4∨m.kind=6→s.vote=none):
 DT 104 #[(.pointer (some ⟨r,0,none⟩)),(.iface V.T V.ov),(.int .i64 (from')),(.agg (ints m.flat).toArray)] T0 [cJ V r s] (dH (λ_ H=>H=[cJ V r (el V.toDk f s from' m)])):=by
 refine BD 124 Tryz.func104 rfl rfl rfl λw0 F hF=>sr λ_ J1=>XY (ints m.flat) λb7=>?_
 refine nx J1 (aa λ_ J2=>aa λ_ J3=>DC bl (BL 0) (cY 1 rfl rfl) ?_);refine FD 0 177 bg aP ?_;refine LR 1 Y3 (fa m rfl) ?_;refine PD 2 ?_;refine PD 3 ?_;refine FD 4 2 dq bi ?_;refine FD 5 2 e6 aP ?_;refine ta 6 rfl (dz (v:=(.int .i64 (s.view.epoch))) rfl Y3 rfl rfl (λ_ h=>h.2.2.1) (λa_=>(cg (s.rep a_) 0 rfl (by decide) (aY _ rfl)))) ?_;refine PD 7 ?_;refine gS ?_ ?_<;>intro h15;refine DN (ac J3 (CY (aa λ_ J4=>sr λ_ J5=>FA 0 bg aP ?_)));refine LU 0 Y3 (fj m rfl) ?_;refine PS ?_;refine ap ?_ ?_<;>intro h18;refine PS ?_
 iterate 3 refine UT ?_
 refine PS ?_;refine nx J5 (CY (ad ?_))
 iterate 5 refine PS ?_
 refine FA 2 dq bi ?_;refine LZ 1 e6 bi am s.view ?_ (hc:=by exact λ_=>cW _);refine tp (kJ MsgT.zero (MsgT.mk 7 0 RowT.zero 0 0 BallotT.zero BallotT.zero ChangeT.zero s.view) [(0,[Value.int .i64 7]),(8,ints s.view.flat)] bg br (g:=MsgT.sg)) ?_;refine CZ jI (jY V r s from' (jp s.view) (λe=>absurd (hfe e) (by omega))) (SM [1]) λvR=>?_
 refine nx J4 (aj (ae (WK [0] (dU rfl ?_))));exact congrArg (λq=>[cJ V r q]) (show(iG V.toDk s ([SaidT.mk from' (jp s.view)]))=el V.toDk f s from' m by rw[el,if_pos h15,if_pos (.inl h18)];rfl);refine PS ?_;refine FA 0 bg aP ?_;refine LU 0 Y3 (fj m rfl) ?_;refine PS ?_;refine ap ?_ ?_<;>intro h22;refine PS ?_;refine nx J5 (CY (ad ?_))
 iterate 5 refine PS ?_
 refine FA 2 dq bi ?_;refine LZ 1 e6 bi am s.view ?_ (hc:=by exact λ_=>cW _);refine tp (kJ MsgT.zero (MsgT.mk 7 0 RowT.zero 0 0 BallotT.zero BallotT.zero ChangeT.zero s.view) [(0,[Value.int .i64 7]),(8,ints s.view.flat)] bg br (g:=MsgT.sg)) ?_;refine CZ jI (jY V r s from' (jp s.view) (λe=>absurd (hfe e) (by omega))) (SM [1]) λvR=>?_
 refine nx J4 (aj (ae (WK [0] (dU rfl ?_))));exact congrArg (λq=>[cJ V r q]) (show(iG V.toDk s ([SaidT.mk from' (jp s.view)]))=el V.toDk f s from' m by rw[el,if_pos h15,if_pos (.inr h22)];rfl);refine PS ?_;refine nx J5 (CN (qx J4 (aj (ae (WK [1] (dU rfl ?_))))));exact congrArg (λq=>[cJ V r q]) (show s=el V.toDk f s from' m by rw[el,if_pos h15,if_neg (by omega)]);refine DN (ac J3 (CN (qx J2 (aa λ_ J6=>aa λ_ J7=>DC bl (BL 0) (cY 1 rfl rfl) ?_))));refine FD 0 177 bg aP ?_;refine LR 1 Y3 (fa m rfl) ?_;refine PD 2 ?_;refine PD 3 ?_;refine FD 4 2 dq bi ?_;refine FD 5 2 e6 aP ?_;refine ta 6 rfl (dz (v:=(.int .i64 (s.view.epoch))) rfl Y3 rfl rfl (λ_ h=>h.2.2.1) (λa_=>(cg (s.rep a_) 0 rfl (by decide) (aY _ rfl)))) ?_;refine PD 7 ?_;refine gS ?_ ?_<;>intro h40;refine PD 8 ?_;refine NT 9 ?_;refine NT 10 ?_;refine NT 11 ?_;refine NT 12 ?_;refine NT 13 ?_;refine NT 14 ?_;refine NT 15 ?_;refine NT 16 ?_;refine NT 17 ?_;refine NT 18 ?_;refine PD 19 ?_;refine DN (ac J7 (CY (aj (ae (WK [1] (dU rfl ?_))))));exact congrArg (λq=>[cJ V r q]) (show s=el V.toDk f s from' m by rw[el,if_neg h15,if_pos (.inl (by omega))]);refine PD 8 ?_;refine PD 9 ?_;refine PD 10 ?_;refine FD 11 2 dq bi ?_;refine tb 12 rfl (gI (vs:=ints s.view.flat) rfl e6 rfl bi rfl (λ_ h=>h.2.2.1) (am s.view) (λa_=>(gB (s.rep a_) 0 rfl (by decide) (bo (am ((s.rep a_).view)))))) ?_;refine PD 13 ?_;refine PD 14 ?_;refine FD 15 0 dq aP ?_
 refine tb 16 rfl (dz (v:=(.int .i64 (s.id))) rfl Y3 rfl rfl (λ_ h=>h.2.2.1) (λa_=>(cH _ rfl))) ?_;refine AL 17 ?_;refine CE pY (dC s.view s.id) ID ?_;refine bb ?_ ?_<;>intro h50;refine EN (PD 18 ?_);refine PD 19 ?_;refine DN (ac J7 (CN (qx J6 (aa λ_ J8=>D1 0 bl ?_))));refine PD 0 ?_;refine PD 1 ?_;refine PD 2 ?_;refine FD 3 1066 dq aP ?_;refine FD 5 178 bg cA ?_;refine FD 6 178 kO aP ?_;refine LX 7 Y3 (.int .i64 (m.ballot.round)) ?_ (hc:=by exact MsgT.pt_ballot m 0 rfl (by decide) (fF m.ballot rfl));refine AL 4 ?_;refine LG 1 Y3 (.int .i64 (s.round)) ?_ (hc:=by exact λa_=>(vZ _ rfl));refine EN (ta 8 rfl (yW rfl rfl rfl) ?_);refine PD 9 ?_;refine FD 10 1066 dq aP ?_;refine AL 11 ?_;refine SK 1 aP (λ_=>cX _) ?_ (hc:=by exact λa_=>(mn _ rfl _));refine EN (DN (ac J8 (sr λ_ J9=>FA 0 bg aP ?_)));refine LU 0 Y3 (fj m rfl) ?_;refine nx J9 (aq (sr λ_ J10=>PS ?_));refine ap ?_ ?_<;>intro h67;refine PS ?_;refine nx J10 (CY (ad (P3 ?_)));refine LW 0 bg ca aI ?_;refine CZ Pc ((h3 (by omega) (by omega))) (SM [1]) λvR=>?_
 refine aw (af (WK [0] (bw rfl ?_)));exact congrArg (λq=>[cJ V r q]) (show(f (dx s (max s.round m.ballot.round)))=el V.toDk f s from' m by rw[el,if_neg h15,if_neg (λh=>h.elim (λh=>absurd h (by omega)) (λh=>by rw[h50]at h;cases h))]);refine PS ?_;refine nx J10 (CN (sr λ_ J11=>PS ?_));refine ap ?_ ?_<;>intro h74;refine PS ?_;refine nx J11 (CY (ad (P3 ?_)));refine LW 0 bg ca aI ?_;refine CZ Pb ((h5 (by omega) (by omega))) (SM [1]) λvR=>?_
 refine aw (af (WK [0] (bw rfl ?_)));exact congrArg (λq=>[cJ V r q]) (show(f (dx s (max s.round m.ballot.round)))=el V.toDk f s from' m by rw[el,if_neg h15,if_neg (λh=>h.elim (λh=>absurd h (by omega)) (λh=>by rw[h50]at h;cases h))]);refine PS ?_;refine nx J11 (CN (sr λ_ J12=>PS ?_));refine ap ?_ ?_<;>intro h81;refine cr (H':=wt V r (dx s (max s.round m.ballot.round)) (.pointer none)::[ah b7 (ints m.flat) 136]) (λ_ q=>tx (hv (by omega)) (az [1] rfl q)) (PS ?_);refine nx J12 (CY (aa λ_ J13=>DC bl (cY 0 rfl rfl) (BL 1) ?_));refine PD 0 ?_;refine PD 1 ?_;refine FD 2 1067 dq nw ?_;refine ta 3 rfl (dz (v:=(.pointer none)) rfl p6 rfl rfl (λ_ h=>h.2.1) (λa_=>(bX _ rfl))) ?_;refine ta 4 rfl (gQ rfl p6 rfl rfl) ?_;refine PD 5 ?_;refine NT 6 ?_;refine NT 7 ?_;refine NT 8 ?_;refine NT 9 ?_;refine NT 10 ?_;refine NT 11 ?_;refine NT 12 ?_;refine NT 13 ?_;refine NT 14 ?_;refine NT 15 ?_;refine NT 16 ?_;refine NT 17 ?_;refine PD 18 ?_;refine DN (ac J13 (CN (aS (af (aF (H':=[cJ V r (dx s (max s.round m.ballot.round))]) (dV _) (λ_ q=>oS (hv (by omega)) (ak [0] rfl q)) (bw rfl ?_))))));exact congrArg (λq=>[cJ V r q]) (show(dx s (max s.round m.ballot.round))=el V.toDk f s from' m by rw[el,if_neg h15,if_neg (λh=>h.elim (λh=>absurd h (by omega)) (λh=>by rw[h50]at h;cases h)),hn (by omega)]);refine PS ?_;refine nx J12 (CN (sr λ_ J14=>PS ?_));refine ap ?_ ?_<;>intro h105
 refine cr (H':=wt V r (dx s (max s.round m.ballot.round)) (.pointer none)::[ah b7 (ints m.flat) 136]) (λ_ q=>tx (hv (by omega)) (az [1] rfl q)) (PS ?_);refine nx J14 (CY (aa λ_ J15=>DC bl (cY 0 rfl rfl) (BL 1) ?_));refine PD 0 ?_;refine PD 1 ?_;refine FD 2 1067 dq nw ?_;refine ta 3 rfl (dz (v:=(.pointer none)) rfl p6 rfl rfl (λ_ h=>h.2.1) (λa_=>(bX _ rfl))) ?_;refine ta 4 rfl (gQ rfl p6 rfl rfl) ?_;refine PD 5 ?_;refine NT 6 ?_;refine NT 7 ?_;refine NT 8 ?_;refine NT 9 ?_;refine NT 10 ?_;refine NT 11 ?_;refine NT 12 ?_;refine NT 13 ?_;refine PD 14 ?_;refine DN (ac J15 (CN (aS (af (aF (H':=[cJ V r (dx s (max s.round m.ballot.round))]) (dV _) (λ_ q=>oS (hv (by omega)) (ak [0] rfl q)) (bw rfl ?_))))));exact congrArg (λq=>[cJ V r q]) (show(dx s (max s.round m.ballot.round))=el V.toDk f s from' m by rw[el,if_neg h15,if_neg (λh=>h.elim (λh=>absurd h (by omega)) (λh=>by rw[h50]at h;cases h)),hn (by omega)]);refine PS ?_;refine nx J14 (CN (aS (af (WK [1] (bw rfl ?_)))));exact congrArg (λq=>[cJ V r q]) (show(dx s (max s.round m.ballot.round))=el V.toDk f s from' m by rw[el,if_neg h15,if_neg (λh=>h.elim (λh=>absurd h (by omega)) (λh=>by rw[h50]at h;cases h)),hn (by omega)]);refine EN (PD 18 ?_);refine PD 19 ?_;refine DN (ac J7 (CY (aj (ae (WK [1] (dU rfl ?_))))));exact congrArg (λq=>[cJ V r q]) (show s=el V.toDk f s from' m by rw[el,if_neg h15,if_pos (.inr h50)])
theorem AP(v:VoteT)(w:Int)(b:BallotT):(hO v w b).1.change=v.change:=by unfold hO;split<;>rfl
theorem qp{δ:Type}(V:Env δ)(r:Nat)(s:MS δ)(vt:VoteT)(from':Int)(m:MsgT)[OkR V.toDk s][OkMg m](hfe:from'=s.id→m.epoch=s.view.epoch)(hk:m.kind=4∨m.kind=6)(hv:s.vote=some vt)(hp:m.kind=4→(fi vt from' m.ballot m.had m.change).2=true→DT 71 #[.pointer (some ⟨r,0,none⟩), .iface V.T V.ov] T0 [cJ V r (kS (dx s (max s.round m.ballot.round)) (fi vt from' m.ballot m.had m.change).1)] (dH (λ_ H=>H=[cJ V r (iH V.toDk (kS (dx s (max s.round m.ballot.round)) (fi vt from' m.ballot m.had m.change).1) (fi vt from' m.ballot m.had m.change).1)]))):
    DT 104 #[(.pointer (some ⟨r,0,none⟩)),(.iface V.T V.ov),(.int .i64 (from')),(.agg (ints m.flat).toArray)] T0 [cJ V r s] (dH (λ_ H=>H=[cJ V r (el V.toDk (λs_=>if m.kind=4 then nX V.toDk from' m s_ else kc V.toDk from' m s_) s from' m)])):=by
 refine BD 124 Tryz.func104 rfl rfl rfl λw0 F hF=>?_
 have hov:OkVt vt:=OkR.vote vt hv;refine sr λ_ J1=>XY (ints m.flat) λb7=>?_
 refine nx J1 (aa λ_ J2=>aa λ_ J3=>DC bl (BL 0) (cY 1 rfl rfl) ?_);refine FD 0 177 bg aP ?_;refine LR 1 Y3 (fa m rfl) ?_;refine PD 2 ?_;refine PD 3 ?_;refine FD 4 2 dq bi ?_;refine FD 5 2 e6 aP ?_;refine ta 6 rfl (dz (v:=(.int .i64 (s.view.epoch))) rfl Y3 rfl rfl (λ_ h=>h.2.2.1) (λa_=>(cg (s.rep a_) 0 rfl (by decide) (aY _ rfl)))) ?_;refine PD 7 ?_;refine gS ?_ ?_<;>intro h15;refine DN (ac J3 (CY (aa λ_ J4=>sr λ_ J5=>FA 0 bg aP ?_)));refine LU 0 Y3 (fj m rfl) ?_;refine PS ?_;refine ap ?_ ?_<;>intro h18;refine PS ?_
 iterate 3 refine UT ?_
 refine PS ?_;refine nx J5 (CY (ad ?_))
 iterate 5 refine PS ?_
 refine FA 2 dq bi ?_;refine LZ 1 e6 bi am s.view ?_ (hc:=by exact λ_=>cW _);refine tp (kJ MsgT.zero (MsgT.mk 7 0 RowT.zero 0 0 BallotT.zero BallotT.zero ChangeT.zero s.view) [(0,[Value.int .i64 7]),(8,ints s.view.flat)] bg br (g:=MsgT.sg)) ?_;refine CZ jI (jY V r s from' (jp s.view) (λe=>absurd (hfe e) (by omega))) (SM [1]) λvR=>?_
 refine nx J4 (aj (ae (WK [0] (dU rfl ?_))));exact MQ (by rw[el,if_pos h15,if_pos (.inl h18)];rfl);refine PS ?_;refine FA 0 bg aP ?_;refine LU 0 Y3 (fj m rfl) ?_;refine PS ?_;refine ap ?_ ?_<;>intro h22;refine PS ?_;refine nx J5 (CY (ad ?_))
 iterate 5 refine PS ?_
 refine FA 2 dq bi ?_;refine LZ 1 e6 bi am s.view ?_ (hc:=by exact λ_=>cW _);refine tp (kJ MsgT.zero (MsgT.mk 7 0 RowT.zero 0 0 BallotT.zero BallotT.zero ChangeT.zero s.view) [(0,[Value.int .i64 7]),(8,ints s.view.flat)] bg br (g:=MsgT.sg)) ?_;refine CZ jI (jY V r s from' (jp s.view) (λe=>absurd (hfe e) (by omega))) (SM [1]) λvR=>?_
 refine nx J4 (aj (ae (WK [0] (dU rfl ?_))));exact MQ (by rw[el,if_pos h15,if_pos (.inr h22)];rfl);refine PS ?_;refine nx J5 (CN (qx J4 (aj (ae (WK [1] (dU rfl ?_))))));exact MQ (by rw[el,if_pos h15,if_neg (by omega)]);refine DN (ac J3 (CN (qx J2 (aa λ_ J6=>aa λ_ J7=>DC bl (BL 0) (cY 1 rfl rfl) ?_))));refine FD 0 177 bg aP ?_;refine LR 1 Y3 (fa m rfl) ?_;refine PD 2 ?_;refine PD 3 ?_;refine FD 4 2 dq bi ?_;refine FD 5 2 e6 aP ?_;refine ta 6 rfl (dz (v:=(.int .i64 (s.view.epoch))) rfl Y3 rfl rfl (λ_ h=>h.2.2.1) (λa_=>(cg (s.rep a_) 0 rfl (by decide) (aY _ rfl)))) ?_;refine PD 7 ?_;refine gS ?_ ?_<;>intro h40;refine PD 8 ?_;refine NT 9 ?_;refine NT 10 ?_;refine NT 11 ?_;refine NT 12 ?_;refine NT 13 ?_;refine NT 14 ?_;refine NT 15 ?_;refine NT 16 ?_;refine NT 17 ?_;refine NT 18 ?_;refine PD 19 ?_;refine DN (ac J7 (CY (aj (ae (WK [1] (dU rfl ?_))))));exact MQ (by rw[el,if_neg h15,if_pos (.inl (by omega))]);refine PD 8 ?_;refine PD 9 ?_;refine PD 10 ?_;refine FD 11 2 dq bi ?_;refine tb 12 rfl (gI (vs:=ints s.view.flat) rfl e6 rfl bi rfl (λ_ h=>h.2.2.1) (am s.view) (λa_=>(gB (s.rep a_) 0 rfl (by decide) (bo (am ((s.rep a_).view)))))) ?_;refine PD 13 ?_;refine PD 14 ?_;refine FD 15 0 dq aP ?_;refine tb 16 rfl (dz (v:=(.int .i64 (s.id))) rfl Y3 rfl rfl (λ_ h=>h.2.2.1) (λa_=>(cH _ rfl))) ?_;refine AL 17 ?_;refine CE pY (dC s.view s.id) ID ?_;refine bb ?_ ?_<;>intro h50;refine EN (PD 18 ?_);refine PD 19 ?_
 refine DN (ac J7 (CN (qx J6 (aa λ_ J8=>D1 0 bl ?_))));refine PD 0 ?_;refine PD 1 ?_;refine PD 2 ?_;refine FD 3 1066 dq aP ?_;refine FD 5 178 bg cA ?_;refine FD 6 178 kO aP ?_;refine LX 7 Y3 (.int .i64 (m.ballot.round)) ?_ (hc:=by exact MsgT.pt_ballot m 0 rfl (by decide) (fF m.ballot rfl));refine AL 4 ?_;refine LG 1 Y3 (.int .i64 (s.round)) ?_ (hc:=by exact λa_=>(vZ _ rfl));refine EN (ta 8 rfl (yW rfl rfl rfl) ?_);refine PD 9 ?_;refine FD 10 1066 dq aP ?_;refine AL 11 ?_;refine SK 1 aP (λ_=>cX _) ?_ (hc:=by exact λa_=>(mn _ rfl _));refine EN (DN (ac J8 (sr λ_ J9=>FA 0 bg aP ?_)));refine LU 0 Y3 (fj m rfl) ?_;refine nx J9 (aq (sr λ_ J10=>PS ?_));refine ap ?_ ?_<;>intro h67
 · exact absurd h67 (by omega)
 refine PS ?_;refine nx J10 (CN (sr λ_ J11=>PS ?_));refine ap ?_ ?_<;>intro h74
 · exact absurd h74 (by omega)
 refine PS ?_;refine nx J11 (CN (sr λ_ J12=>PS ?_));refine ap ?_ ?_<;>intro h81;refine G9 (H':=λvb:Nat=>wt V r (dx s (max s.round m.ballot.round)) (.pointer (some ⟨vb,0,none⟩))::ah vb (VoteT.cells vt) 187::[ah b7 (ints m.flat) 136]) (λ_ q=>nI (s:=(dx s (max s.round m.ballot.round))) hv (az [1] rfl q)) (λvb=>PS ?_);refine nx J12 (CY (aa λ_ J13=>D1 2 bl ?_));refine PD 0 ?_;refine PD 1 ?_;refine FD 2 1067 dq nw ?_;refine AL 3 ?_;refine LG 0 p6 (.pointer (some ⟨vb,0,none⟩)) ?_ (hc:=by exact λa_=>(bX _ rfl));refine EN (ta 4 rfl (gH rfl p6 rfl rfl) ?_);refine PD 5 ?_;refine PD 6 ?_;refine PD 7 ?_;refine FD 8 1067 dq nw ?_;refine PD 10 ?_;refine FD 11 178 bg cA ?_;refine tb 12 rfl (aM (vs:=ints m.ballot.flat) rfl kO rfl cA rfl (λ_ h=>h.2.1) (ao m.ballot) (jw m 0 rfl (by decide) (bo (ao m.ballot)))) ?_;refine FD 13 180 bg cA ?_;refine tb 14 rfl (aM (vs:=ints m.had.flat) rfl kO rfl cA rfl (λ_ h=>h.2.1) (ao m.had) (Rw m 0 rfl (by decide) (bo (ao m.had)))) ?_;refine FD 15 182 bg gf ?_;refine tb 16 rfl (aM (vs:=ints m.change.flat) rfl nP rfl gf rfl (λ_ h=>h.2.1) (aK m.change) (nV m 0 rfl (by decide) (bo (aK m.change)))) ?_;refine AL 9 ?_;refine LG 0 p6 (.pointer (some ⟨vb,0,none⟩)) ?_ (hc:=by exact λa_=>(bX _ rfl));refine EN (AL 17 ?_);refine CE Pa (EJ vb vt from' m.ballot m.had m.change (OkMg.ballot) hov.ballot) (SM [1]) ?_;refine bb ?_ ?_<;>intro h99;refine EN (PD 18 ?_)
 refine DN (ac J13 (CY (ad (cr (H':=cJ V r (kS (dx s (max s.round m.ballot.round)) ((fi vt from' m.ballot m.had m.change).1))::[ah b7 (ints m.flat) 136]) (λ_ q=>oQ (az [1,0] rfl q)) (P2 ?_)))));refine CZ LN ((hp (by omega) h99)) ID λvR=>?_
 refine aw (af (WK [0] (bw rfl ?_)))
 exact congrArg (λq=>[cJ V r q]) (show _=el V.toDk (λs_=>if m.kind=4 then nX V.toDk from' m s_ else kc V.toDk from' m s_) s from' m by
                              rw[el,if_neg h15,if_neg (λh=>h.elim (λh=>absurd h (by omega)) (λh=>by rw[h50]at h;cases h)),if_pos (by omega),nX];simp only[show(dx s (max s.round m.ballot.round)).vote=some vt from hv]
                              rw[if_pos h99])
 refine EN (PD 18 ?_);refine DN (ac J13 (CN (aS (af (aF (H':=[cJ V r (kS (dx s (max s.round m.ballot.round)) (fi vt from' m.ballot m.had m.change).1)]) (dV _) (λ_ q=>oQ (ak [1,0] rfl q)) (bw rfl ?_))))))
 exact congrArg (λq=>[cJ V r q]) (show(kS (dx s (max s.round m.ballot.round)) (fi vt from' m.ballot m.had m.change).1)=el V.toDk (λs_=>if m.kind=4 then nX V.toDk from' m s_ else kc V.toDk from' m s_) s from' m by
                              rw[el,if_neg h15,if_neg (λh=>h.elim (λh=>absurd h (by omega)) (λh=>by rw[h50]at h;cases h)),if_pos (by omega),nX];simp only[show(dx s (max s.round m.ballot.round)).vote=some vt from hv]
                              rw[if_neg (by rw[h99];decide)])
 refine PS ?_;refine nx J12 (CN (sr λ_ J14=>PS ?_));refine ap ?_ ?_<;>intro h105;refine G9 (H':=λvb:Nat=>wt V r (dx s (max s.round m.ballot.round)) (.pointer (some ⟨vb,0,none⟩))::ah vb (VoteT.cells vt) 187::[ah b7 (ints m.flat) 136]) (λ_ q=>nI (s:=(dx s (max s.round m.ballot.round))) hv (az [1] rfl q)) (λvb=>PS ?_);refine nx J14 (CY (aa λ_ J15=>D1 2 bl ?_));refine PD 0 ?_;refine PD 1 ?_;refine FD 2 1067 dq nw ?_;refine AL 3 ?_;refine LG 0 p6 (.pointer (some ⟨vb,0,none⟩)) ?_ (hc:=by exact λa_=>(bX _ rfl));refine EN (ta 4 rfl (gH rfl p6 rfl rfl) ?_);refine PD 5 ?_;refine PD 6 ?_;refine PD 7 ?_;refine FD 8 1067 dq nw ?_;refine PD 10 ?_;refine FD 11 178 bg cA ?_;refine tb 12 rfl (aM (vs:=ints m.ballot.flat) rfl kO rfl cA rfl (λ_ h=>h.2.1) (ao m.ballot) (jw m 0 rfl (by decide) (bo (ao m.ballot)))) ?_;refine AL 9 ?_;refine LG 0 p6 (.pointer (some ⟨vb,0,none⟩)) ?_ (hc:=by exact λa_=>(bX _ rfl));refine EN (AL 13 ?_);refine CE O9 (ET vb vt from' m.ballot (OkMg.ballot) hov.ballot) (SM [1]) ?_;refine bb ?_ ?_<;>intro h119;refine EN (PD 14 ?_);refine DN (ac J15 (CY (ad (cr (H':=cJ V r (kS (dx s (max s.round m.ballot.round)) ((hO vt from' m.ballot).1))::[ah b7 (ints m.flat) 136]) (λ_ q=>oQ (az [1,0] rfl q)) (P2 ?_)))));refine CZ O8 (BJ V r (kS (dx s (max s.round m.ballot.round)) (hO vt from' m.ballot).1) (hO vt from' m.ballot).1 rfl) ID λvR=>?_
 refine aw (af (WK [0] (bw rfl ?_)))
 exact congrArg (λq=>[cJ V r q]) (show _=el V.toDk (λs_=>if m.kind=4 then nX V.toDk from' m s_ else kc V.toDk from' m s_) s from' m by
                                rw[el,if_neg h15,if_neg (λh=>h.elim (λh=>absurd h (by omega)) (λh=>by rw[h50]at h;cases h)),if_neg (by omega),kc];simp only[show(dx s (max s.round m.ballot.round)).vote=some vt from hv]
                                rw[if_pos h119,AP])
 refine EN (PD 14 ?_);refine DN (ac J15 (CN (aS (af (aF (H':=[cJ V r (kS (dx s (max s.round m.ballot.round)) (hO vt from' m.ballot).1)]) (dV _) (λ_ q=>oQ (ak [1,0] rfl q)) (bw rfl ?_))))))
 exact congrArg (λq=>[cJ V r q]) (show(kS (dx s (max s.round m.ballot.round)) (hO vt from' m.ballot).1)=el V.toDk (λs_=>if m.kind=4 then nX V.toDk from' m s_ else kc V.toDk from' m s_) s from' m by
                                rw[el,if_neg h15,if_neg (λh=>h.elim (λh=>absurd h (by omega)) (λh=>by rw[h50]at h;cases h)),if_neg (by omega),kc];simp only[show(dx s (max s.round m.ballot.round)).vote=some vt from hv]
                                rw[if_neg (by rw[h119];decide)])
 · exact absurd h105 (by omega)
 refine EN (PD 18 ?_);refine PD 19 ?_;refine DN (ac J7 (CY (aj (ae (WK [1] (dU rfl ?_))))));exact MQ (by rw[el,if_neg h15,if_pos (.inr h50)])
theorem rT{δ:Type}(V:Env δ)(r:Nat)(s:MS δ)(from':Int)(m:MsgT)[OkR V.toDk s][OkMg m](hfe:from'=s.id→m.epoch=s.view.epoch)(hk:m.kind=6):TK V r 62 s from' m (mA V.toDk s from' m):=pg (.inr (.inr (.inr hk))) (by
 cases hv:s.vote with
 |none=>exact lm V r s (kc V.toDk from' m) from' m hfe (λe=>by omega) (λe=>by omega) (λ_=>by rw[kc,show(dx s (max s.round m.ballot.round)).vote=none from hv]) (λ_=>hv)
 |some vt=>
  have h:=qp V r s vt from' m hfe (.inr hk) hv (λe=>by omega)
  rwa [show(λs_:MS δ=>if m.kind=4 then nX V.toDk from' m s_ else kc V.toDk from' m s_)=kc V.toDk from' m from funext λ_=>if_neg (by omega)]at h)
theorem yp{δ:Type}(V:Env δ)(r:Nat)(s:MS δ)(from':Int)(m:MsgT)[OkR V.toDk s][OkMg m](hep:m.epoch=s.view.epoch):
 DT 137 #[(.pointer (some ⟨r,0,none⟩)),(.iface V.T V.ov),(.int .i64 (from')),(.agg (ints m.flat).toArray)] T0 [cJ V r s] (dH (λ_ H=>H=[cJ V r (l4 V.toDk from' m s)])):=by
 refine BD 69 Tryz.func137 rfl rfl rfl λw0 F hF=>sr λ_ J1=>XY (ints m.flat) λb7=>?_
 refine nx J1 (aa λ_ J2=>aa λ_ J3=>fB (α:=Unit) (λ_u=>True) (λ_u=>[(0,(.pointer (some ⟨r,0,none⟩))),(1,(.iface V.T V.ov)),(2,(.int .i64 (from'))),(7,(.pointer (some ⟨b7,0,none⟩))),(9,(.int .i64 ((dF s.view m.change).2)))]) (λ_u=>[cJ V r s,ah b7 (ints m.flat) 136]) (λ_u hinv=>?_) (λtl3=>?_));have _:=hinv;refine ac J3 (sr λ_ J4=>P2 ?_);refine ap ?_ ?_<;>intro h23;refine nx J4 (CY (aj (ae (WK [0] (dU rfl ?_)))));exact MQ (by rw[l4,if_pos h23]);refine nx J4 (CN (qx J2 (aa λ_ J5=>fB (α:=(Nat)) (λb10=>True) (λb10=>[(0,(.pointer (some ⟨r,0,none⟩))),(1,(.iface V.T V.ov)),(2,(.int .i64 (from'))),(7,(.pointer (some ⟨b7,0,none⟩))),(10,(.pointer (some ⟨b10,0,none⟩))),(11,(.bool ((hX s.acc m.epoch m.ballot m.change).2)))]) (λb10=>[cJ V r s,ah b7 (ints m.flat) 136,ah b10 (ints ((hX s.acc m.epoch m.ballot m.change).1).flat) 89]) (λb10 hinv=>?_) (λtl5=>?_))));have _:=hinv;refine ac J5 (aa λ_ J6=>sr λ_ J7=>PS ?_);refine bb ?_ ?_<;>intro h38;refine PS ?_;refine nx J7 (CN (qx J6 (aa λ_ J8=>aa λ_ J9=>DC bl (BL 2) (cY 0 rfl rfl) ?_)));refine LY 0 qc gg ba ?_;refine PD 1 ?_;refine PD 2 ?_;refine FD 3 1058 dq gg ?_;refine ta 4 rfl (gI (vs:=ints s.acc.flat) rfl qc rfl gg rfl (λ_ h=>h.2.2.1) (ba s.acc) (λa_=>(yS (s.rep a_) 0 rfl (by decide) (bo (ba ((s.rep a_).acc)))))) ?_
 refine ta 5 rfl (Mx (a:=((hX s.acc m.epoch m.ballot m.change).1).flat) (b:=s.acc.flat) (m:=6) (c:=8) Qm Qh rfl QZ (eg (ba ((hX s.acc m.epoch m.ballot m.change).1))) (eg (ba s.acc)) ⟨hZ Pr Px (eg (ba ((hX s.acc m.epoch m.ballot m.change).1))),hZ Pr Px (eg (ba s.acc))⟩ (OkAc.wf) (OkAc.wf) rfl rfl rfl) ?_;refine gS ?_ ?_<;>intro h45;refine DN (ac J9 (CY (aa λ_ J10=>sr λ_ J11=>PS ?_)));refine FA 177 bg aP ?_;refine LU 1 Y3 (fa m rfl) ?_;refine FA 178 bg cA ?_;refine LV 1 kO cA ao o6 (y:=m.ballot) ?_;refine FA 182 bg gf ?_;refine LV 1 nP gf aK MsgT.sp_change (y:=m.change) ?_;refine tp (kJ RecT.zero (RecT.mk 4 0 RowT.zero m.epoch m.ballot m.change ViewT.zero) [(0,[Value.int .i64 4]),(3,[Value.int .i64 m.epoch]),(4,ints m.ballot.flat),(5,ints m.change.flat)] eC fC (g:=RecT.sg)) ?_;refine CE Fq (lM V r s (mU m.epoch m.ballot m.change)) ID ?_;refine PS ?_;refine ap ?_ ?_<;>intro h55;refine nx J11 (CY (aj (ae (ae (WK [0] (dU rfl ?_))))));exact MQ (by rw[l4,if_neg h23,if_neg (by rw[h38];decide),if_pos h45,if_pos h55]);refine nx J11 (CN (qx J10 (ad (PS ?_))));refine LW 2 qc gg ba ?_;refine PS ?_;refine FA 1058 dq gg ?_
 refine iw (vs:=ints ((hX s.acc m.epoch m.ballot m.change).1).flat) (i:=0) (ab rfl) rfl rfl rfl rfl rfl (by rw[(ba ((hX s.acc m.epoch m.ballot m.change).1))];exact gg) (bA _) rfl rfl (λ_=>LC (cX _) (ba _)) (λa_=>(k8 ((dL V.toDk s (mU m.epoch m.ballot m.change)).rep a_) 0 rfl (by have h1:=(ba ((hX s.acc m.epoch m.ballot m.change).1));omega) (ct ((ba (((dL V.toDk s (mU m.epoch m.ballot m.change)).rep a_).acc)).trans (ba ((hX s.acc m.epoch m.ballot m.change).1)).symm)))) (nx J8 (ad (P3 ?_)));refine FA 177 bg aP ?_;refine LU 1 Y3 (fa m rfl) ?_;refine FA 178 bg cA ?_;refine LV 1 kO cA ao o6 (y:=m.ballot) ?_;refine tp (kJ MsgT.zero (MsgT.mk 6 0 RowT.zero 0 m.epoch m.ballot BallotT.zero ChangeT.zero ViewT.zero) [(0,[Value.int .i64 6]),(4,[Value.int .i64 m.epoch]),(5,ints m.ballot.flat)] bg br (g:=MsgT.sg)) ?_;refine CZ jI (gV V r (tT (dL V.toDk s (mU m.epoch m.ballot m.change)) (hX s.acc m.epoch m.ballot m.change).1) from' (jc m.epoch m.ballot) (λs_=>mA V.toDk s_ s_.id (jc m.epoch m.ballot)) (λ_=>rT V r (tT (dL V.toDk s (mU m.epoch m.ballot m.change)) (hX s.acc m.epoch m.ballot m.change).1) (tT (dL V.toDk s (mU m.epoch m.ballot m.change)) (hX s.acc m.epoch m.ballot m.change).1).id (jc m.epoch m.ballot) (λ_=>hep) rfl)) ID λvR=>?_
 refine aw (WK [0] (bw rfl ?_));exact MQ (by rw[l4,if_neg h23,if_neg (by rw[h38];decide),if_pos h45,if_neg h55];rfl);refine DN (ac J9 (CN (qx J8 (ad (P3 ?_)))));refine FA 177 bg aP ?_;refine LU 1 Y3 (fa m rfl) ?_;refine FA 178 bg cA ?_;refine LV 1 kO cA ao o6 (y:=m.ballot) ?_;refine tp (kJ MsgT.zero (MsgT.mk 6 0 RowT.zero 0 m.epoch m.ballot BallotT.zero ChangeT.zero ViewT.zero) [(0,[Value.int .i64 6]),(4,[Value.int .i64 m.epoch]),(5,ints m.ballot.flat)] bg br (g:=MsgT.sg)) ?_;refine CZ jI (gV V r s from' (jc m.epoch m.ballot) (λs_=>mA V.toDk s_ s_.id (jc m.epoch m.ballot)) (λ_=>rT V r s s.id (jc m.epoch m.ballot) (λ_=>hep) rfl)) ID λvR=>?_
 refine aw (WK [0] (bw rfl ?_));exact MQ (by rw[l4,if_neg h23,if_neg (by rw[h38];decide),if_neg h45];rfl);refine PS ?_;refine nx J7 (CY (aj (ae (WK [0] (dU rfl ?_)))));exact MQ (by rw[l4,if_neg h23,if_pos h38]);refine DC bl (cY 0 rfl rfl) (BL 1) ?_;refine PD 0 ?_;refine PD 1 ?_;refine FD 2 1058 dq gg ?_;refine ta 3 rfl (gI (vs:=ints s.acc.flat) rfl qc rfl gg rfl (λ_ h=>h.2.1) (ba s.acc) (λa_=>(yS (s.rep a_) 0 rfl (by decide) (bo (ba ((s.rep a_).acc)))))) ?_;refine FD 4 177 bg aP ?_;refine LR 5 Y3 (fa m rfl) ?_;refine FD 6 178 bg cA ?_;refine ta 7 rfl (aM (vs:=ints m.ballot.flat) rfl kO rfl cA rfl (λ_ h=>h.2.2.1) (ao m.ballot) (jw m 0 rfl (by decide) (bo (ao m.ballot)))) ?_;refine FD 8 182 bg gf ?_;refine ta 9 rfl (aM (vs:=ints m.change.flat) rfl nP rfl gf rfl (λ_ h=>h.2.2.1) (aK m.change) (nV m 0 rfl (by decide) (bo (aK m.change)))) ?_;refine cT [10,14] (by kernel_rfl) rfl (aG rfl ?_ ?_);refine CE MG (vI s.acc m.epoch m.ballot m.change) ID ?_;refine EN (PD 11 ?_);refine PD 12 ?_;refine PD 13 ?_;refine sA ?_ ?_<;>intro h37;refine AL 14 ?_;refine XZ I4 (ints AccT.zero.flat) λb10=>?_
 refine EN (AL 15 ?_);refine SW 0 gg ba ?_;refine EN (PD 16 ?_);refine DN ?_
 exact aF
  (aT (aT (aT (aT (aT (bE rfl (by rw[h37]) SB))))))
  (λ_ s=>ak [1,1,0] rfl s)
  (tl5 ((b10):(Nat)) trivial)
 refine AL 14 ?_;refine XZ I4 (ints AccT.zero.flat) λb10=>?_
 refine EN (AL 15 ?_);refine SW 0 gg ba ?_;refine EN (PD 16 ?_);refine DN ?_
 exact aF
  (aT (aT (aT (aT (aT (bE rfl (by rw[h37]) SB))))))
  (λ_ s=>ak [1,1,0] rfl s)
  (tl5 ((b10):(Nat)) trivial)
 refine aG rfl ?_ ?_;refine XZ I4 (ints AccT.zero.flat) λb10=>?_
 refine EN (AL 10 ?_);refine CE MG (vI s.acc m.epoch m.ballot m.change) ID ?_;refine EN (PD 11 ?_);refine PD 12 ?_;refine PD 13 ?_;refine sA ?_ ?_<;>intro h37;refine AL 15 ?_;refine SW 0 gg ba ?_;refine EN (PD 16 ?_);refine DN ?_
 exact aF
  (aT (aT (aT (aT (aT (bE rfl (by rw[h37]) SB))))))
  (λ_ s=>ak [1,1,0] rfl s)
  (tl5 ((b10):(Nat)) trivial)
 refine AL 15 ?_;refine SW 0 gg ba ?_;refine EN (PD 16 ?_);refine DN ?_
 exact aF
  (aT (aT (aT (aT (aT (bE rfl (by rw[h37]) SB))))))
  (λ_ s=>ak [1,1,0] rfl s)
  (tl5 ((b10):(Nat)) trivial)
 exact bJ;refine DC bl (cY 1 rfl rfl) (BL 0) ?_;refine PD 0 ?_;refine PD 1 ?_;refine FD 2 2 dq bi ?_;refine ta 3 rfl (gI (vs:=ints s.view.flat) rfl e6 rfl bi rfl (λ_ h=>h.2.1) (am s.view) (λa_=>(gB (s.rep a_) 0 rfl (by decide) (bo (am ((s.rep a_).view)))))) ?_;refine FD 4 182 bg gf ?_;refine ta 5 rfl (aM (vs:=ints m.change.flat) rfl nP rfl gf rfl (λ_ h=>h.2.2.1) (aK m.change) (nV m 0 rfl (by decide) (bo (aK m.change)))) ?_;refine cT [6,10] (by kernel_rfl) rfl (aG rfl ?_ ?_);refine CE nG (dE s.view m.change OkVw.rng) ID ?_;refine EN (PD 7 ?_);refine PD 8 ?_;refine PD 9 ?_;refine AL 10 ?_;refine XZ rN (ints ViewT.zero.flat) λb8=>?_
 refine EN (AL 11 ?_);refine SW 0 bi am ?_;refine EN (PD 12 ?_);refine DN ?_
 exact aF
  SB
  (λ_ s=>ak [2,1] rfl s)
  (tl3 (():Unit) trivial)
 refine aG rfl ?_ ?_;refine XZ rN (ints ViewT.zero.flat) λb8=>?_
 refine EN (AL 6 ?_);refine CE nG (dE s.view m.change OkVw.rng) ID ?_;refine EN (PD 7 ?_);refine PD 8 ?_;refine PD 9 ?_;refine AL 11 ?_;refine SW 0 bi am ?_;refine EN (PD 12 ?_);refine DN ?_
 exact aF
  SB
  (λ_ s=>ak [2,1] rfl s)
  (tl3 (():Unit) trivial)
 exact bJ
theorem wL{δ:Type}(V:Env δ)(r:Nat)(s:MS δ)(from':Int)(m:MsgT)[OkR V.toDk s][OkMg m](hfe:from'=s.id→m.epoch=s.view.epoch)(hk:m.kind=5):TK V r 62 s from' m (nu V.toDk s from' m):=pg (by omega) (lm V r s (l4 V.toDk from' m) from' m hfe (λe _=>by omega) (λ_ hep=>yp V r (dx s (max s.round m.ballot.round)) from' m hep) (λe=>by omega) (λe=>by omega))
theorem yv{δ:Type}(V:Env δ)(r vb:Nat)(s:MS δ)(vt:VoteT)(hv:s.vote=some vt)(hpt:vt.putting=true)[OkR V.toDk s][OkVt vt]:
 DT 71 #[(.pointer (some ⟨r,0,none⟩)),(.iface V.T V.ov)] T0 [wt V r s (.pointer (some ⟨vb,0,none⟩)),ah vb (VoteT.cells vt) 187] (dH (λ_ H=>H=[cJ V r (iH V.toDk s vt)])):=by
 refine BD 68 Tryz.func71 rfl rfl rfl λw0 F hF=>aa λ_ J1=>fB (α:=(Nat)) (λb4=>True) (λb4=>[(0,(.pointer (some ⟨r,0,none⟩))),(1,(.iface V.T V.ov)),(4,(.pointer (some ⟨b4,0,none⟩)))]) (λb4=>[wt V r s (.pointer (some ⟨vb,0,none⟩)),ah vb (VoteT.cells vt) 187,ah b4 (ints (fI s.view.epoch vt.ballot).flat) 136]) (λb4 hinv=>?_) (λtl1=>?_)
 have _:=hinv;refine ac J1 (aa λ_ J2=>sr λ_ J3=>P2 ?_);refine FA 1067 dq nw ?_;refine LG 0 p6 (.pointer (some ⟨vb,0,none⟩)) ?_ (hc:=by exact λa_=>(bX _ rfl));refine CE MP (oF vb vt) (SM [1]) ?_;refine bb ?_ ?_<;>intro h22;refine nx J3 (CY (ad (P2 ?_)));refine FA 1067 dq nw ?_;refine LG 1 p6 (.pointer (some ⟨vb,0,none⟩)) ?_ (hc:=by exact λa_=>(bX _ rfl));refine CE uH (dr vb vt) ID ?_;refine FA 0 bg aP ?_;refine SS 2 aP (aI _) (MsgT.set_kind _ rfl _) ?_;refine FA 182 bg gf ?_;refine SP 2 gf aK aI PG ?_;refine nx J2 (sr λ_ J4=>cr (H':=cJ V r s::[ah b4 (ints (MsgT.mk 5 ((fI s.view.epoch vt.ballot).whose) ((fI s.view.epoch vt.ballot).row) ((fI s.view.epoch vt.ballot).version) ((fI s.view.epoch vt.ballot).epoch) ((fI s.view.epoch vt.ballot).ballot) ((fI s.view.epoch vt.ballot).had) vt.change ((fI s.view.epoch vt.ballot).view)).flat) 136]) (λ_ q=>oR hv (az [1,0] rfl q)) (P2 ?_));refine FA 2 dq bi ?_;refine LZ 0 e6 bi am s.view ?_ (hc:=by exact λ_=>cW _);refine XZ rN (ints ViewT.zero.flat) λb5=>?_
 refine SW 0 bi am ?_;refine nx J4 (aa λ_ J5=>sr λ_ J6=>PS ?_);refine nx J6 (aq ?_)
 refine bD (α:=(Nat)) (λk=>k≤5) (λk=>[(0,(.pointer (some ⟨r,0,none⟩))),(1,(.iface V.T V.ov)),(4,(.pointer (some ⟨b4,0,none⟩))),(5,(.pointer (some ⟨b5,0,none⟩))),(34,(.int .i64 (((k:Nat):Int))))]) (λk=>[ah b5 (ints s.view.flat) 29,ah b4 (ints (iO s.view.epoch vt.ballot vt.change).flat) 136,cJ V r (iG V.toDk s (nF s.id (iO s.view.epoch vt.ballot vt.change) (λi=>iS s.view ((i:Nat):Int)) k))]) (λk=>5-k) 0
  (aO _) SB
  (λ_ q=>by
  rw[show nF s.id (iO s.view.epoch vt.ballot vt.change) (λi=>iS s.view ((i:Nat):Int)) 0=[]from rfl,qA]
  exact ak [0,1,0] rfl q) (λk hinv=>?_)
 obtain hk:=hinv;refine sr λ_ J7=>PS ?_
 refine ap ?_ ?_<;>intro h35;refine nx J7 (aa λ_ J8=>CY (qx J8 (aa λ_ J9=>aq (sr λ_ J10=>P2 ?_))));refine nx J10 (sr λ_ J11=>P3 ?_);refine FA 0 dq aP ?_;refine LG 2 Y3 (.int .i64 (s.id)) ?_ (hc:=by exact λa_=>(cH _ rfl));refine PS ?_;refine ap ?_ ?_<;>intro h42;refine PS ?_;refine LW 0 e6 bi am ?_;refine PS ?_;refine CE pY (dC s.view ((k:Nat):Int)) ID ?_;refine bb ?_ ?_<;>intro h46;refine PS ?_;refine nx J11 (CY (ad (P3 ?_)));refine LW 1 bg ca aI ?_;refine CZ jI (oM V r s (nF s.id (iO s.view.epoch vt.ballot vt.change) (λi=>iS s.view ((i:Nat):Int)) k) ((k:Nat):Int) (iO s.view.epoch vt.ballot vt.change) h42) (SM [2]) λvR=>?_
 refine aw (af (ac J9 (ad (AD ?_))));refine PS ?_;refine aw ?_
 exact aL ((k+1):(Nat)) (by omega) (by show 5- (k+1)<5-k;omega)
  SB
  (λ_ q=>by
   rw[jl,if_pos ⟨h42,h46⟩]
   exact ak [1,1,0] rfl q)
 refine PS ?_;refine nx J11 (CN (aS (af (ac J9 (ad (AD ?_))))));refine PS ?_;refine aw ?_
 exact aL ((k+1):(Nat)) (by omega) (by show 5- (k+1)<5-k;omega)
  SB
  (λ_ q=>by
   rw[jl,if_neg (λh=>by have:=h.2;rw[h46]at this;cases this)];rw[aW]
   exact ak [0,0,0] rfl q)
 refine PS ?_
 iterate 3 refine UF ?_
 refine PS ?_;refine nx J11 (CN (aS (af (ac J9 (ad (AD ?_))))));refine PS ?_;refine aw ?_
 exact aL ((k+1):(Nat)) (by omega) (by show 5- (k+1)<5-k;omega)
  SB
  (λ_ q=>by
   rw[jl,if_neg (λh=>h42 h.1)];rw[aW]
   exact ak [0,0,0] rfl q)
 obtain rfl:k=5:=by omega
 refine nx J7 (aa λ_ J12=>CN (bh (aC (aC (bC (ac J5 (aa λ_ J13=>DC bl (BL 0) (cY 2 rfl rfl) ?_)))))));refine LY 0 e6 bi am ?_;refine PD 1 ?_;refine PD 2 ?_;refine FD 3 0 dq aP ?_;refine ta 4 rfl (dz (v:=(.int .i64 ((iR V.toDk s (iO s.view.epoch vt.ballot vt.change)).id))) rfl Y3 rfl rfl (λ_ h=>h.2.2.1) (λa_=>(cH _ rfl))) ?_;refine AL 5 ?_;refine CE pY (dC s.view ((iR V.toDk s (iO s.view.epoch vt.ballot vt.change)).id)) ID ?_;refine bb ?_ ?_<;>intro h59;refine EN (DN (ac J13 (CY (D1 1 bl ?_))));refine PD 0 ?_;refine PD 1 ?_;refine PD 2 ?_;refine PD 3 ?_;refine FD 4 0 dq aP ?_;refine LY 6 bg ca aI ?_;refine AL 5 ?_;refine LG 2 Y3 (.int .i64 ((iR V.toDk s (iO s.view.epoch vt.ballot vt.change)).id)) ?_ (hc:=by exact λa_=>(cH _ rfl));refine EN (AL 7 ?_);refine CZ jI (gV V r (iR V.toDk s (iO s.view.epoch vt.ballot vt.change)) s.id (iO s.view.epoch vt.ballot vt.change) (λs_=>nu V.toDk s_ s_.id (iO s.view.epoch vt.ballot vt.change)) (λ_=>wL V r (iR V.toDk s (iO s.view.epoch vt.ballot vt.change)) s.id (iO s.view.epoch vt.ballot vt.change) (λ_=>rfl) rfl)) (SM [2]) λvR=>?_
 refine EN (DN (WK [0] (bw rfl ?_)));exact MQ (by rw[iH,gW,if_pos (show iS s.view s.id=true from h59),kr,if_pos (show s.id=(iR V.toDk s (iO s.view.epoch vt.ballot vt.change)).id from rfl)]<;>rfl);refine EN (DN (ac J13 (CN (aS (WK [2] (bw rfl ?_))))));exact MQ (by rw[iH,gW,if_neg (by rw[show iS s.view s.id=false from h59];decide)]<;>rfl)
 · rw[hpt]at h22;cases h22
 refine D1 1 bl ?_;refine PD 0 ?_;refine PD 1 ?_;refine FD 2 2 dq bi ?_;refine FD 3 2 e6 aP ?_;refine PD 5 ?_;refine PD 6 ?_;refine FD 7 1067 dq nw ?_;refine cT [4,8,11] (by kernel_rfl) rfl (aG rfl ?_ ?_);refine LG 0 Y3 (.int .i64 (s.view.epoch)) ?_ (hc:=by exact λa_=>(cg (s.rep ⟨(a_:Nat×Value).1,(.pointer (some ⟨vb,0,none⟩)),a_.2⟩) 0 rfl (by decide) (aY _ rfl)));refine EN (cT [8,11] (by kernel_rfl) rfl (aG rfl ?_ ?_));refine LG 0 p6 (.pointer (some ⟨vb,0,none⟩)) ?_ (hc:=by exact λa_=>(bX _ rfl));refine EN (cT [9,11] (by kernel_rfl) rfl (aG rfl ?_ ?_));refine CE kg (bH vb vt) (SM [1]) ?_;refine EN (ta 10 rfl (kJ MsgT.zero (MsgT.mk 3 0 RowT.zero 0 s.view.epoch vt.ballot BallotT.zero ChangeT.zero ViewT.zero) [(0,[Value.int .i64 3]),(4,[Value.int .i64 s.view.epoch]),(5,ints vt.ballot.flat)] bg br (g:=MsgT.sg)) ?_);refine AL 11 ?_;refine XZ mT (ints MsgT.zero.flat) λb4=>?_
 refine EN (AL 12 ?_);refine SW 0 ca aI ?_;refine EN (DN ?_)
 exact aF
  SB
  (λ_ s=>ak [2,1,0] rfl s)
  (tl1 ((b4):(Nat)) trivial)
 refine aG rfl ?_ ?_;refine XZ mT (ints MsgT.zero.flat) λb4=>?_
 refine EN (AL 9 ?_);refine CE kg (bH vb vt) (SM [2]) ?_;refine EN (ta 10 rfl (kJ MsgT.zero (MsgT.mk 3 0 RowT.zero 0 s.view.epoch vt.ballot BallotT.zero ChangeT.zero ViewT.zero) [(0,[Value.int .i64 3]),(4,[Value.int .i64 s.view.epoch]),(5,ints vt.ballot.flat)] bg br (g:=MsgT.sg)) ?_);refine AL 12 ?_;refine SW 1 ca aI ?_;refine EN (DN ?_)
 exact aF
  SB
  (λ_ s=>ak [2,0,0] rfl s)
  (tl1 ((b4):(Nat)) trivial)
 exact bJ;refine aG rfl ?_ ?_;refine XZ mT (ints MsgT.zero.flat) λb4=>?_
 refine EN (AL 8 ?_);refine LG 1 p6 (.pointer (some ⟨vb,0,none⟩)) ?_ (hc:=by exact λa_=>(bX _ rfl));refine EN (AL 9 ?_);refine CE kg (bH vb vt) (SM [2]) ?_;refine EN (ta 10 rfl (kJ MsgT.zero (MsgT.mk 3 0 RowT.zero 0 s.view.epoch vt.ballot BallotT.zero ChangeT.zero ViewT.zero) [(0,[Value.int .i64 3]),(4,[Value.int .i64 s.view.epoch]),(5,ints vt.ballot.flat)] bg br (g:=MsgT.sg)) ?_);refine AL 12 ?_;refine SW 1 ca aI ?_;refine EN (DN ?_)
 exact aF
  SB
  (λ_ s=>ak [2,0,0] rfl s)
  (tl1 ((b4):(Nat)) trivial)
 exact bJ;refine aG rfl ?_ ?_;refine LG 0 p6 (.pointer (some ⟨vb,0,none⟩)) ?_ (hc:=by exact λa_=>(bX _ rfl));refine EN (cT [4,9,11] (by kernel_rfl) rfl (aG rfl ?_ ?_));refine LG 0 Y3 (.int .i64 (s.view.epoch)) ?_ (hc:=by exact λa_=>(cg (s.rep ⟨(a_:Nat×Value).1,(.pointer (some ⟨vb,0,none⟩)),a_.2⟩) 0 rfl (by decide) (aY _ rfl)));refine EN (cT [9,11] (by kernel_rfl) rfl (aG rfl ?_ ?_));refine CE kg (bH vb vt) (SM [1]) ?_;refine EN (ta 10 rfl (kJ MsgT.zero (MsgT.mk 3 0 RowT.zero 0 s.view.epoch vt.ballot BallotT.zero ChangeT.zero ViewT.zero) [(0,[Value.int .i64 3]),(4,[Value.int .i64 s.view.epoch]),(5,ints vt.ballot.flat)] bg br (g:=MsgT.sg)) ?_);refine AL 11 ?_;refine XZ mT (ints MsgT.zero.flat) λb4=>?_
 refine EN (AL 12 ?_);refine SW 0 ca aI ?_;refine EN (DN ?_)
 exact aF
  SB
  (λ_ s=>ak [2,1,0] rfl s)
  (tl1 ((b4):(Nat)) trivial)
 refine aG rfl ?_ ?_;refine XZ mT (ints MsgT.zero.flat) λb4=>?_
 refine EN (AL 9 ?_);refine CE kg (bH vb vt) (SM [2]) ?_;refine EN (ta 10 rfl (kJ MsgT.zero (MsgT.mk 3 0 RowT.zero 0 s.view.epoch vt.ballot BallotT.zero ChangeT.zero ViewT.zero) [(0,[Value.int .i64 3]),(4,[Value.int .i64 s.view.epoch]),(5,ints vt.ballot.flat)] bg br (g:=MsgT.sg)) ?_);refine AL 12 ?_;refine SW 1 ca aI ?_;refine EN (DN ?_)
 exact aF
  SB
  (λ_ s=>ak [2,0,0] rfl s)
  (tl1 ((b4):(Nat)) trivial)
 exact bJ;refine aG rfl ?_ ?_;refine CE kg (bH vb vt) (SM [1]) ?_;refine EN (cT [4,11] (by kernel_rfl) rfl (aG rfl ?_ ?_));refine LG 1 Y3 (.int .i64 (s.view.epoch)) ?_ (hc:=by exact λa_=>(cg (s.rep ⟨(a_:Nat×Value).1,(.pointer (some ⟨vb,0,none⟩)),a_.2⟩) 0 rfl (by decide) (aY _ rfl)));refine EN (ta 10 rfl (kJ MsgT.zero (MsgT.mk 3 0 RowT.zero 0 s.view.epoch vt.ballot BallotT.zero ChangeT.zero ViewT.zero) [(0,[Value.int .i64 3]),(4,[Value.int .i64 s.view.epoch]),(5,ints vt.ballot.flat)] bg br (g:=MsgT.sg)) ?_);refine AL 11 ?_;refine XZ mT (ints MsgT.zero.flat) λb4=>?_
 refine EN (AL 12 ?_);refine SW 0 ca aI ?_;refine EN (DN ?_)
 exact aF
  SB
  (λ_ s=>ak [2,1,0] rfl s)
  (tl1 ((b4):(Nat)) trivial)
 refine aG rfl ?_ ?_;refine XZ mT (ints MsgT.zero.flat) λb4=>?_
 refine EN (AL 4 ?_);refine LG 2 Y3 (.int .i64 (s.view.epoch)) ?_ (hc:=by exact λa_=>(cg (s.rep ⟨(a_:Nat×Value).1,(.pointer (some ⟨vb,0,none⟩)),a_.2⟩) 0 rfl (by decide) (aY _ rfl)));refine EN (ta 10 rfl (kJ MsgT.zero (MsgT.mk 3 0 RowT.zero 0 s.view.epoch vt.ballot BallotT.zero ChangeT.zero ViewT.zero) [(0,[Value.int .i64 3]),(4,[Value.int .i64 s.view.epoch]),(5,ints vt.ballot.flat)] bg br (g:=MsgT.sg)) ?_);refine AL 12 ?_;refine SW 0 ca aI ?_;refine EN (DN ?_)
 exact aF
  SB
  (λ_ s=>ak [2,1,0] rfl s)
  (tl1 ((b4):(Nat)) trivial)
 exact bJ;refine aG rfl ?_ ?_;refine XZ mT (ints MsgT.zero.flat) λb4=>?_
 refine EN (cT [4,9] (by kernel_rfl) rfl (aG rfl ?_ ?_));refine LG 1 Y3 (.int .i64 (s.view.epoch)) ?_ (hc:=by exact λa_=>(cg (s.rep ⟨(a_:Nat×Value).1,(.pointer (some ⟨vb,0,none⟩)),a_.2⟩) 0 rfl (by decide) (aY _ rfl)));refine EN (AL 9 ?_);refine CE kg (bH vb vt) (SM [2]) ?_;refine EN (ta 10 rfl (kJ MsgT.zero (MsgT.mk 3 0 RowT.zero 0 s.view.epoch vt.ballot BallotT.zero ChangeT.zero ViewT.zero) [(0,[Value.int .i64 3]),(4,[Value.int .i64 s.view.epoch]),(5,ints vt.ballot.flat)] bg br (g:=MsgT.sg)) ?_);refine AL 12 ?_;refine SW 1 ca aI ?_;refine EN (DN ?_)
 exact aF
  SB
  (λ_ s=>ak [2,0,0] rfl s)
  (tl1 ((b4):(Nat)) trivial)
 refine aG rfl ?_ ?_;refine CE kg (bH vb vt) (SM [2]) ?_;refine EN (AL 4 ?_);refine LG 2 Y3 (.int .i64 (s.view.epoch)) ?_ (hc:=by exact λa_=>(cg (s.rep ⟨(a_:Nat×Value).1,(.pointer (some ⟨vb,0,none⟩)),a_.2⟩) 0 rfl (by decide) (aY _ rfl)));refine EN (ta 10 rfl (kJ MsgT.zero (MsgT.mk 3 0 RowT.zero 0 s.view.epoch vt.ballot BallotT.zero ChangeT.zero ViewT.zero) [(0,[Value.int .i64 3]),(4,[Value.int .i64 s.view.epoch]),(5,ints vt.ballot.flat)] bg br (g:=MsgT.sg)) ?_);refine AL 12 ?_;refine SW 1 ca aI ?_;refine EN (DN ?_)
 exact aF
  SB
  (λ_ s=>ak [2,0,0] rfl s)
  (tl1 ((b4):(Nat)) trivial)
 exact bJ;exact bJ;refine aG rfl ?_ ?_;refine XZ mT (ints MsgT.zero.flat) λb4=>?_
 refine EN (cT [4,8] (by kernel_rfl) rfl (aG rfl ?_ ?_));refine LG 1 Y3 (.int .i64 (s.view.epoch)) ?_ (hc:=by exact λa_=>(cg (s.rep ⟨(a_:Nat×Value).1,(.pointer (some ⟨vb,0,none⟩)),a_.2⟩) 0 rfl (by decide) (aY _ rfl)));refine EN (AL 8 ?_);refine LG 1 p6 (.pointer (some ⟨vb,0,none⟩)) ?_ (hc:=by exact λa_=>(bX _ rfl));refine EN (AL 9 ?_);refine CE kg (bH vb vt) (SM [2]) ?_;refine EN (ta 10 rfl (kJ MsgT.zero (MsgT.mk 3 0 RowT.zero 0 s.view.epoch vt.ballot BallotT.zero ChangeT.zero ViewT.zero) [(0,[Value.int .i64 3]),(4,[Value.int .i64 s.view.epoch]),(5,ints vt.ballot.flat)] bg br (g:=MsgT.sg)) ?_);refine AL 12 ?_;refine SW 1 ca aI ?_;refine EN (DN ?_)
 exact aF
  SB
  (λ_ s=>ak [2,0,0] rfl s)
  (tl1 ((b4):(Nat)) trivial)
 refine aG rfl ?_ ?_;refine LG 1 p6 (.pointer (some ⟨vb,0,none⟩)) ?_ (hc:=by exact λa_=>(bX _ rfl));refine EN (cT [4,9] (by kernel_rfl) rfl (aG rfl ?_ ?_));refine LG 1 Y3 (.int .i64 (s.view.epoch)) ?_ (hc:=by exact λa_=>(cg (s.rep ⟨(a_:Nat×Value).1,(.pointer (some ⟨vb,0,none⟩)),a_.2⟩) 0 rfl (by decide) (aY _ rfl)));refine EN (AL 9 ?_);refine CE kg (bH vb vt) (SM [2]) ?_;refine EN (ta 10 rfl (kJ MsgT.zero (MsgT.mk 3 0 RowT.zero 0 s.view.epoch vt.ballot BallotT.zero ChangeT.zero ViewT.zero) [(0,[Value.int .i64 3]),(4,[Value.int .i64 s.view.epoch]),(5,ints vt.ballot.flat)] bg br (g:=MsgT.sg)) ?_);refine AL 12 ?_;refine SW 1 ca aI ?_;refine EN (DN ?_)
 exact aF
  SB
  (λ_ s=>ak [2,0,0] rfl s)
  (tl1 ((b4):(Nat)) trivial)
 refine aG rfl ?_ ?_;refine CE kg (bH vb vt) (SM [2]) ?_;refine EN (AL 4 ?_);refine LG 2 Y3 (.int .i64 (s.view.epoch)) ?_ (hc:=by exact λa_=>(cg (s.rep ⟨(a_:Nat×Value).1,(.pointer (some ⟨vb,0,none⟩)),a_.2⟩) 0 rfl (by decide) (aY _ rfl)));refine EN (ta 10 rfl (kJ MsgT.zero (MsgT.mk 3 0 RowT.zero 0 s.view.epoch vt.ballot BallotT.zero ChangeT.zero ViewT.zero) [(0,[Value.int .i64 3]),(4,[Value.int .i64 s.view.epoch]),(5,ints vt.ballot.flat)] bg br (g:=MsgT.sg)) ?_);refine AL 12 ?_;refine SW 1 ca aI ?_;refine EN (DN ?_)
 exact aF
  SB
  (λ_ s=>ak [2,0,0] rfl s)
  (tl1 ((b4):(Nat)) trivial)
 exact bJ;exact bJ;exact bJ
theorem tm{δ:Type}(V:Env δ)(r:Nat)(s:MS δ)(vt:VoteT)(hv:s.vote=some vt)(hpt:vt.putting=true)[OkR V.toDk s]:DT 71 #[.pointer (some ⟨r,0,none⟩), .iface V.T V.ov] T0 [cJ V r s] (dH (λ_ H=>H=[cJ V r (iH V.toDk s vt)])):=
 have:OkVt vt:=OkR.vote vt hv
 Leg.Does.ex (λ_ q=>nI hv q) λvb=>yv V r vb s vt hv hpt
theorem rU{δ:Type}(V:Env δ)(r:Nat)(s:MS δ)(from':Int)(m:MsgT)[OkR V.toDk s][OkMg m](hfe:from'=s.id→m.epoch=s.view.epoch)(hk:m.kind=4):TK V r 62 s from' m (mB V.toDk s from' m):=pg (by omega) (by
 cases hv:s.vote with
 |none=>exact lm V r s (nX V.toDk from' m) from' m hfe (λe=>by omega) (λe=>by omega) (λ_=>by rw[nX,show(dx s (max s.round m.ballot.round)).vote=none from hv]) (λ_=>hv)
 |some vt=>
  have hov:OkVt vt:=OkR.vote vt hv;have h:=qp V r s vt from' m hfe (.inl hk) hv (λ_ h2=>tm V r (kS (dx s (max s.round m.ballot.round)) (fi vt from' m.ballot m.had m.change).1) (fi vt from' m.ballot m.had m.change).1 rfl (EI h2))
  rwa [show(λs_:MS δ=>if m.kind=4 then nX V.toDk from' m s_ else kc V.toDk from' m s_)=nX V.toDk from' m from funext λ_=>if_pos hk]at h)
theorem yq{δ:Type}(V:Env δ)(r:Nat)(s:MS δ)(from':Int)(m:MsgT)[OkR V.toDk s][OkMg m](hep:m.epoch=s.view.epoch):
 DT 136 #[(.pointer (some ⟨r,0,none⟩)),(.iface V.T V.ov),(.int .i64 (from')),(.agg (ints m.flat).toArray)] T0 [cJ V r s] (dH (λ_ H=>H=[cJ V r (mR V.toDk from' m s)])):=by
 refine BD 57 Tryz.func136 rfl rfl rfl λw0 F hF=>?_
 have hpm:OkMg (j0 m.epoch m.ballot (bS s.acc m.epoch m.ballot).1.had (bS s.acc m.epoch m.ballot).1.change):=OkMg.promM m.epoch inferInstance;refine sr λ_ J1=>XY (ints m.flat) λb7=>?_
 refine nx J1 (aa λ_ J2=>fB (α:=(Nat)) (λb8=>True) (λb8=>[(0,(.pointer (some ⟨r,0,none⟩))),(1,(.iface V.T V.ov)),(2,(.int .i64 (from'))),(7,(.pointer (some ⟨b7,0,none⟩))),(8,(.pointer (some ⟨b8,0,none⟩))),(9,(.bool ((bS s.acc m.epoch m.ballot).2)))]) (λb8=>[cJ V r s,ah b7 (ints m.flat) 136,ah b8 (ints ((bS s.acc m.epoch m.ballot).1).flat) 89]) (λb8 hinv=>?_) (λtl2=>?_));have _:=hinv;refine ac J2 (aa λ_ J3=>sr λ_ J4=>PS ?_);refine bb ?_ ?_<;>intro h22;refine PS ?_;refine nx J4 (CN (qx J3 (aa λ_ J5=>aa λ_ J6=>DC bl (BL 2) (cY 0 rfl rfl) ?_)));refine FD 0 1 qc cA ?_;refine ta 1 rfl (aM (vs:=ints (((bS s.acc m.epoch m.ballot).1).vow).flat) rfl kO rfl cA rfl (λ_ h=>h.2.1) (ao (((bS s.acc m.epoch m.ballot).1).vow)) (Rz ((bS s.acc m.epoch m.ballot).1) 0 rfl (by decide) (bo (ao (((bS s.acc m.epoch m.ballot).1).vow))))) ?_;refine PD 2 ?_;refine PD 3 ?_;refine FD 4 1058 dq gg ?_;refine FD 5 1059 qc cA ?_;refine ta 6 rfl (gI (vs:=ints s.acc.vow.flat) rfl kO rfl cA rfl (λ_ h=>h.2.2.1) (ao s.acc.vow) (λa_=>(yS (s.rep a_) 1 rfl (by decide) (Rz ((s.rep a_).acc) 0 rfl (by decide) (bo (ao (((s.rep a_).acc).vow))))))) ?_
 refine ta 7 rfl (Mx (a:=(((bS s.acc m.epoch m.ballot).1).vow).flat) (b:=s.acc.vow.flat) (m:=6) (c:=2) Nc Nb rfl NQ (eg (ao (((bS s.acc m.epoch m.ballot).1).vow))) (eg (ao s.acc.vow)) ⟨hZ IA IN (eg (ao (((bS s.acc m.epoch m.ballot).1).vow))),hZ IA IN (eg (ao s.acc.vow))⟩ (OkAc.vow inferInstance) (OkAc.vow inferInstance) rfl rfl rfl) ?_;refine gS ?_ ?_<;>intro h31;refine DN (ac J6 (CY (aa λ_ J7=>sr λ_ J8=>PS ?_)));refine FA 177 bg aP ?_;refine LU 1 Y3 (fa m rfl) ?_;refine FA 178 bg cA ?_;refine LV 1 kO cA ao o6 (y:=m.ballot) ?_;refine tp (kJ RecT.zero (RecT.mk 3 0 RowT.zero m.epoch m.ballot ChangeT.zero ViewT.zero) [(0,[Value.int .i64 3]),(3,[Value.int .i64 m.epoch]),(4,ints m.ballot.flat)] eC fC (g:=RecT.sg)) ?_;refine CE Fq (lM V r s (fW m.epoch m.ballot)) ID ?_;refine PS ?_;refine ap ?_ ?_<;>intro h39;refine nx J8 (CY (aj (ae (ae (WK [0] (dU rfl ?_))))));exact MQ (by rw[mR,if_neg (by rw[h22];decide),if_pos h31,if_pos h39]);refine nx J8 (CN (qx J7 (ad (PS ?_))));refine LW 2 qc gg ba ?_;refine PS ?_;refine FA 1058 dq gg ?_
 refine iw (vs:=ints ((bS s.acc m.epoch m.ballot).1).flat) (i:=0) (ab rfl) rfl rfl rfl rfl rfl (by rw[(ba ((bS s.acc m.epoch m.ballot).1))];exact gg) (bA _) rfl rfl (λ_=>LC (cX _) (ba _)) (λa_=>(k8 ((dL V.toDk s (fW m.epoch m.ballot)).rep a_) 0 rfl (by have h1:=(ba ((bS s.acc m.epoch m.ballot).1));omega) (ct ((ba (((dL V.toDk s (fW m.epoch m.ballot)).rep a_).acc)).trans (ba ((bS s.acc m.epoch m.ballot).1)).symm)))) (nx J5 (ad (P3 ?_)));refine FA 177 bg aP ?_;refine LU 1 Y3 (fa m rfl) ?_;refine FA 178 bg cA ?_;refine LV 1 kO cA ao o6 (y:=m.ballot) ?_;refine FA 3 qc cA ?_;refine LV 2 kO cA ao AccT.sp_had (y:=(((bS s.acc m.epoch m.ballot).1).had)) ?_;refine FA 5 qc gf ?_;refine LV 2 nP gf aK AccT.sp_change (y:=(((bS s.acc m.epoch m.ballot).1).change)) ?_;refine tp (kJ MsgT.zero (MsgT.mk 4 0 RowT.zero 0 m.epoch m.ballot (((bS s.acc m.epoch m.ballot).1).had) (((bS s.acc m.epoch m.ballot).1).change) ViewT.zero) [(0,[Value.int .i64 4]),(4,[Value.int .i64 m.epoch]),(5,ints m.ballot.flat),(6,ints (((bS s.acc m.epoch m.ballot).1).had).flat),(7,ints (((bS s.acc m.epoch m.ballot).1).change).flat)] bg br (g:=MsgT.sg)) ?_
 refine CZ jI (gV V r (tT (dL V.toDk s (fW m.epoch m.ballot)) (bS s.acc m.epoch m.ballot).1) from' (j0 m.epoch m.ballot (bS s.acc m.epoch m.ballot).1.had (bS s.acc m.epoch m.ballot).1.change) (λs_=>mB V.toDk s_ s_.id (j0 m.epoch m.ballot (bS s.acc m.epoch m.ballot).1.had (bS s.acc m.epoch m.ballot).1.change)) (λ_=>rU V r (tT (dL V.toDk s (fW m.epoch m.ballot)) (bS s.acc m.epoch m.ballot).1) (tT (dL V.toDk s (fW m.epoch m.ballot)) (bS s.acc m.epoch m.ballot).1).id (j0 m.epoch m.ballot (bS s.acc m.epoch m.ballot).1.had (bS s.acc m.epoch m.ballot).1.change) (λ_=>hep) rfl)) ID λvR=>?_
 refine aw (WK [0] (bw rfl ?_));exact MQ (by rw[mR,if_neg (by rw[h22];decide),if_pos h31,if_neg h39];rfl);refine DN (ac J6 (CN (qx J5 (ad (P3 ?_)))));refine FA 177 bg aP ?_;refine LU 1 Y3 (fa m rfl) ?_;refine FA 178 bg cA ?_;refine LV 1 kO cA ao o6 (y:=m.ballot) ?_;refine FA 3 qc cA ?_;refine LV 2 kO cA ao AccT.sp_had (y:=(((bS s.acc m.epoch m.ballot).1).had)) ?_;refine FA 5 qc gf ?_;refine LV 2 nP gf aK AccT.sp_change (y:=(((bS s.acc m.epoch m.ballot).1).change)) ?_;refine tp (kJ MsgT.zero (MsgT.mk 4 0 RowT.zero 0 m.epoch m.ballot (((bS s.acc m.epoch m.ballot).1).had) (((bS s.acc m.epoch m.ballot).1).change) ViewT.zero) [(0,[Value.int .i64 4]),(4,[Value.int .i64 m.epoch]),(5,ints m.ballot.flat),(6,ints (((bS s.acc m.epoch m.ballot).1).had).flat),(7,ints (((bS s.acc m.epoch m.ballot).1).change).flat)] bg br (g:=MsgT.sg)) ?_;refine CZ jI (gV V r s from' (j0 m.epoch m.ballot (bS s.acc m.epoch m.ballot).1.had (bS s.acc m.epoch m.ballot).1.change) (λs_=>mB V.toDk s_ s_.id (j0 m.epoch m.ballot (bS s.acc m.epoch m.ballot).1.had (bS s.acc m.epoch m.ballot).1.change)) (λ_=>rU V r s s.id (j0 m.epoch m.ballot (bS s.acc m.epoch m.ballot).1.had (bS s.acc m.epoch m.ballot).1.change) (λ_=>hep) rfl)) ID λvR=>?_
 refine aw (WK [0] (bw rfl ?_));exact MQ (by rw[mR,if_neg (by rw[h22];decide),if_neg h31];rfl);refine PS ?_;refine nx J4 (CY (aj (ae (WK [0] (dU rfl ?_)))));exact MQ (by rw[mR,if_pos h22]);refine DC bl (cY 1 rfl rfl) (BL 0) ?_;refine PD 0 ?_;refine PD 1 ?_;refine FD 2 1058 dq gg ?_;refine ta 3 rfl (gI (vs:=ints s.acc.flat) rfl qc rfl gg rfl (λ_ h=>h.2.1) (ba s.acc) (λa_=>(yS (s.rep a_) 0 rfl (by decide) (bo (ba ((s.rep a_).acc)))))) ?_;refine FD 4 177 bg aP ?_;refine LR 5 Y3 (fa m rfl) ?_;refine FD 6 178 bg cA ?_;refine ta 7 rfl (aM (vs:=ints m.ballot.flat) rfl kO rfl cA rfl (λ_ h=>h.2.2.1) (ao m.ballot) (jw m 0 rfl (by decide) (bo (ao m.ballot)))) ?_;refine cT [8,12] (by kernel_rfl) rfl (aG rfl ?_ ?_);refine CE GM (oh s.acc m.epoch m.ballot) ID ?_;refine EN (PD 9 ?_);refine PD 10 ?_;refine PD 11 ?_;refine sA ?_ ?_<;>intro h21;refine AL 12 ?_;refine XZ I4 (ints AccT.zero.flat) λb8=>?_
 refine EN (AL 13 ?_);refine SW 0 gg ba ?_;refine EN (PD 14 ?_);refine DN ?_
 exact aF
  (aT (aT (aT (aT (aT (bE rfl (by rw[h21]) SB))))))
  (λ_ s=>ak [2,1,0] rfl s)
  (tl2 ((b8):(Nat)) trivial)
 refine AL 12 ?_;refine XZ I4 (ints AccT.zero.flat) λb8=>?_
 refine EN (AL 13 ?_);refine SW 0 gg ba ?_;refine EN (PD 14 ?_);refine DN ?_
 exact aF
  (aT (aT (aT (aT (aT (bE rfl (by rw[h21]) SB))))))
  (λ_ s=>ak [2,1,0] rfl s)
  (tl2 ((b8):(Nat)) trivial)
 refine aG rfl ?_ ?_;refine XZ I4 (ints AccT.zero.flat) λb8=>?_
 refine EN (AL 8 ?_);refine CE GM (oh s.acc m.epoch m.ballot) ID ?_;refine EN (PD 9 ?_);refine PD 10 ?_;refine PD 11 ?_;refine sA ?_ ?_<;>intro h21;refine AL 13 ?_;refine SW 0 gg ba ?_;refine EN (PD 14 ?_);refine DN ?_
 exact aF
  (aT (aT (aT (aT (aT (bE rfl (by rw[h21]) SB))))))
  (λ_ s=>ak [2,1,0] rfl s)
  (tl2 ((b8):(Nat)) trivial)
 refine AL 13 ?_;refine SW 0 gg ba ?_;refine EN (PD 14 ?_);refine DN ?_
 exact aF
  (aT (aT (aT (aT (aT (bE rfl (by rw[h21]) SB))))))
  (λ_ s=>ak [2,1,0] rfl s)
  (tl2 ((b8):(Nat)) trivial)
 exact bJ
theorem wM{δ:Type}(V:Env δ)(r:Nat)(s:MS δ)(from':Int)(m:MsgT)[OkR V.toDk s][OkMg m](hfe:from'=s.id→m.epoch=s.view.epoch)(hk:m.kind=3):TK V r 62 s from' m (nv V.toDk s from' m):=pg (by omega) (lm V r s (mR V.toDk from' m) from' m hfe (λ_ hep=>yq V r (dx s (max s.round m.ballot.round)) from' m hep) (λe _=>by omega) (λe=>by omega) (λe=>by omega))
theorem yw{δ:Type}(V:Env δ)(r vb:Nat)(s:MS δ)(vt:VoteT)(hv:s.vote=some vt)(hpt:vt.putting=false)[OkR V.toDk s][OkVt vt]:
 DT 71 #[(.pointer (some ⟨r,0,none⟩)),(.iface V.T V.ov)] T0 [wt V r s (.pointer (some ⟨vb,0,none⟩)),ah vb (VoteT.cells vt) 187] (dH (λ_ H=>H=[cJ V r (jE V.toDk s vt)])):=by
 refine BD 68 Tryz.func71 rfl rfl rfl λw0 F hF=>aa λ_ J1=>fB (α:=(Nat)) (λb4=>True) (λb4=>[(0,(.pointer (some ⟨r,0,none⟩))),(1,(.iface V.T V.ov)),(4,(.pointer (some ⟨b4,0,none⟩)))]) (λb4=>[wt V r s (.pointer (some ⟨vb,0,none⟩)),ah vb (VoteT.cells vt) 187,ah b4 (ints (fI s.view.epoch vt.ballot).flat) 136]) (λb4 hinv=>?_) (λtl1=>?_)
 have _:=hinv;refine ac J1 (aa λ_ J2=>sr λ_ J3=>P2 ?_);refine FA 1067 dq nw ?_;refine LG 0 p6 (.pointer (some ⟨vb,0,none⟩)) ?_ (hc:=by exact λa_=>(bX _ rfl));refine CE MP (oF vb vt) (SM [1]) ?_;refine bb ?_ ?_<;>intro h22
 · rw[hpt]at h22;cases h22
 refine nx J3 (CN (qx J2 (sr λ_ J4=>cr (H':=cJ V r s::[ah b4 (ints (fI s.view.epoch vt.ballot).flat) 136]) (λ_ q=>oR hv (az [1,0] rfl q)) (P2 ?_))));refine FA 2 dq bi ?_;refine LZ 0 e6 bi am s.view ?_ (hc:=by exact λ_=>cW _);refine XZ rN (ints ViewT.zero.flat) λb5=>?_
 refine SW 0 bi am ?_;refine nx J4 (aa λ_ J5=>sr λ_ J6=>PS ?_);refine nx J6 (aq ?_)
 refine bD (α:=(Nat)) (λk=>k≤5) (λk=>[(0,(.pointer (some ⟨r,0,none⟩))),(1,(.iface V.T V.ov)),(4,(.pointer (some ⟨b4,0,none⟩))),(5,(.pointer (some ⟨b5,0,none⟩))),(34,(.int .i64 (((k:Nat):Int))))]) (λk=>[ah b5 (ints s.view.flat) 29,ah b4 (ints (fI s.view.epoch vt.ballot).flat) 136,cJ V r (iG V.toDk s (nF s.id (fI s.view.epoch vt.ballot) (λi=>iS s.view ((i:Nat):Int)) k))]) (λk=>5-k) 0
  (aO _) SB
  (λ_ q=>by
  rw[show nF s.id (fI s.view.epoch vt.ballot) (λi=>iS s.view ((i:Nat):Int)) 0=[]from rfl,qA]
  exact ak [0,1,0] rfl q) (λk hinv=>?_)
 obtain hk:=hinv;refine sr λ_ J7=>PS ?_
 refine ap ?_ ?_<;>intro h35;refine nx J7 (aa λ_ J8=>CY (qx J8 (aa λ_ J9=>aq (sr λ_ J10=>P2 ?_))));refine nx J10 (sr λ_ J11=>P3 ?_);refine FA 0 dq aP ?_;refine LG 2 Y3 (.int .i64 (s.id)) ?_ (hc:=by exact λa_=>(cH _ rfl));refine PS ?_;refine ap ?_ ?_<;>intro h42;refine PS ?_;refine LW 0 e6 bi am ?_;refine PS ?_;refine CE pY (dC s.view ((k:Nat):Int)) ID ?_;refine bb ?_ ?_<;>intro h46;refine PS ?_;refine nx J11 (CY (ad (P3 ?_)));refine LW 1 bg ca aI ?_;refine CZ jI (oM V r s (nF s.id (fI s.view.epoch vt.ballot) (λi=>iS s.view ((i:Nat):Int)) k) ((k:Nat):Int) (fI s.view.epoch vt.ballot) h42) (SM [2]) λvR=>?_
 refine aw (af (ac J9 (ad (AD ?_))));refine PS ?_;refine aw ?_
 exact aL ((k+1):(Nat)) (by omega) (by show 5- (k+1)<5-k;omega)
  SB
  (λ_ q=>by
   rw[jl,if_pos ⟨h42,h46⟩]
   exact ak [1,1,0] rfl q)
 refine PS ?_;refine nx J11 (CN (aS (af (ac J9 (ad (AD ?_))))));refine PS ?_;refine aw ?_
 exact aL ((k+1):(Nat)) (by omega) (by show 5- (k+1)<5-k;omega)
  SB
  (λ_ q=>by
   rw[jl,if_neg (λh=>by have:=h.2;rw[h46]at this;cases this)];rw[aW]
   exact ak [0,0,0] rfl q)
 refine PS ?_
 iterate 3 refine UF ?_
 refine PS ?_;refine nx J11 (CN (aS (af (ac J9 (ad (AD ?_))))));refine PS ?_;refine aw ?_
 exact aL ((k+1):(Nat)) (by omega) (by show 5- (k+1)<5-k;omega)
  SB
  (λ_ q=>by
   rw[jl,if_neg (λh=>h42 h.1)];rw[aW]
   exact ak [0,0,0] rfl q)
 obtain rfl:k=5:=by omega
 refine nx J7 (aa λ_ J12=>CN (bh (aC (aC (bC (ac J5 (aa λ_ J13=>DC bl (BL 0) (cY 2 rfl rfl) ?_)))))));refine LY 0 e6 bi am ?_;refine PD 1 ?_;refine PD 2 ?_;refine FD 3 0 dq aP ?_;refine ta 4 rfl (dz (v:=(.int .i64 ((iR V.toDk s (fI s.view.epoch vt.ballot)).id))) rfl Y3 rfl rfl (λ_ h=>h.2.2.1) (λa_=>(cH _ rfl))) ?_;refine AL 5 ?_;refine CE pY (dC s.view ((iR V.toDk s (fI s.view.epoch vt.ballot)).id)) ID ?_;refine bb ?_ ?_<;>intro h59;refine EN (DN (ac J13 (CY (D1 1 bl ?_))));refine PD 0 ?_;refine PD 1 ?_;refine PD 2 ?_;refine PD 3 ?_;refine FD 4 0 dq aP ?_;refine LY 6 bg ca aI ?_;refine AL 5 ?_;refine LG 2 Y3 (.int .i64 ((iR V.toDk s (fI s.view.epoch vt.ballot)).id)) ?_ (hc:=by exact λa_=>(cH _ rfl));refine EN (AL 7 ?_);refine CZ jI (gV V r (iR V.toDk s (fI s.view.epoch vt.ballot)) s.id (fI s.view.epoch vt.ballot) (λs_=>nv V.toDk s_ s_.id (fI s.view.epoch vt.ballot)) (λ_=>wM V r (iR V.toDk s (fI s.view.epoch vt.ballot)) s.id (fI s.view.epoch vt.ballot) (λ_=>rfl) rfl)) (SM [2]) λvR=>?_
 refine EN (DN (WK [0] (bw rfl ?_)));exact MQ (by rw[jE,gW,if_pos (show iS s.view s.id=true from h59),kr,if_pos (show s.id=(iR V.toDk s (fI s.view.epoch vt.ballot)).id from rfl)]<;>rfl);refine EN (DN (ac J13 (CN (aS (WK [2] (bw rfl ?_))))));exact MQ (by rw[jE,gW,if_neg (by rw[show iS s.view s.id=false from h59];decide)]<;>rfl);refine D1 1 bl ?_;refine PD 0 ?_;refine PD 1 ?_;refine FD 2 2 dq bi ?_;refine FD 3 2 e6 aP ?_;refine PD 5 ?_;refine PD 6 ?_;refine FD 7 1067 dq nw ?_;refine cT [4,8,11] (by kernel_rfl) rfl (aG rfl ?_ ?_);refine LG 0 Y3 (.int .i64 (s.view.epoch)) ?_ (hc:=by exact λa_=>(cg (s.rep ⟨(a_:Nat×Value).1,(.pointer (some ⟨vb,0,none⟩)),a_.2⟩) 0 rfl (by decide) (aY _ rfl)));refine EN (cT [8,11] (by kernel_rfl) rfl (aG rfl ?_ ?_));refine LG 0 p6 (.pointer (some ⟨vb,0,none⟩)) ?_ (hc:=by exact λa_=>(bX _ rfl));refine EN (cT [9,11] (by kernel_rfl) rfl (aG rfl ?_ ?_));refine CE kg (bH vb vt) (SM [1]) ?_;refine EN (ta 10 rfl (kJ MsgT.zero (MsgT.mk 3 0 RowT.zero 0 s.view.epoch vt.ballot BallotT.zero ChangeT.zero ViewT.zero) [(0,[Value.int .i64 3]),(4,[Value.int .i64 s.view.epoch]),(5,ints vt.ballot.flat)] bg br (g:=MsgT.sg)) ?_);refine AL 11 ?_;refine XZ mT (ints MsgT.zero.flat) λb4=>?_
 refine EN (AL 12 ?_);refine SW 0 ca aI ?_;refine EN (DN ?_)
 exact aF
  SB
  (λ_ s=>ak [2,1,0] rfl s)
  (tl1 ((b4):(Nat)) trivial)
 refine aG rfl ?_ ?_;refine XZ mT (ints MsgT.zero.flat) λb4=>?_
 refine EN (AL 9 ?_);refine CE kg (bH vb vt) (SM [2]) ?_;refine EN (ta 10 rfl (kJ MsgT.zero (MsgT.mk 3 0 RowT.zero 0 s.view.epoch vt.ballot BallotT.zero ChangeT.zero ViewT.zero) [(0,[Value.int .i64 3]),(4,[Value.int .i64 s.view.epoch]),(5,ints vt.ballot.flat)] bg br (g:=MsgT.sg)) ?_);refine AL 12 ?_;refine SW 1 ca aI ?_;refine EN (DN ?_)
 exact aF
  SB
  (λ_ s=>ak [2,0,0] rfl s)
  (tl1 ((b4):(Nat)) trivial)
 exact bJ;refine aG rfl ?_ ?_;refine XZ mT (ints MsgT.zero.flat) λb4=>?_
 refine EN (AL 8 ?_);refine LG 1 p6 (.pointer (some ⟨vb,0,none⟩)) ?_ (hc:=by exact λa_=>(bX _ rfl));refine EN (AL 9 ?_);refine CE kg (bH vb vt) (SM [2]) ?_;refine EN (ta 10 rfl (kJ MsgT.zero (MsgT.mk 3 0 RowT.zero 0 s.view.epoch vt.ballot BallotT.zero ChangeT.zero ViewT.zero) [(0,[Value.int .i64 3]),(4,[Value.int .i64 s.view.epoch]),(5,ints vt.ballot.flat)] bg br (g:=MsgT.sg)) ?_);refine AL 12 ?_;refine SW 1 ca aI ?_;refine EN (DN ?_)
 exact aF
  SB
  (λ_ s=>ak [2,0,0] rfl s)
  (tl1 ((b4):(Nat)) trivial)
 exact bJ;refine aG rfl ?_ ?_;refine LG 0 p6 (.pointer (some ⟨vb,0,none⟩)) ?_ (hc:=by exact λa_=>(bX _ rfl));refine EN (cT [4,9,11] (by kernel_rfl) rfl (aG rfl ?_ ?_));refine LG 0 Y3 (.int .i64 (s.view.epoch)) ?_ (hc:=by exact λa_=>(cg (s.rep ⟨(a_:Nat×Value).1,(.pointer (some ⟨vb,0,none⟩)),a_.2⟩) 0 rfl (by decide) (aY _ rfl)));refine EN (cT [9,11] (by kernel_rfl) rfl (aG rfl ?_ ?_));refine CE kg (bH vb vt) (SM [1]) ?_;refine EN (ta 10 rfl (kJ MsgT.zero (MsgT.mk 3 0 RowT.zero 0 s.view.epoch vt.ballot BallotT.zero ChangeT.zero ViewT.zero) [(0,[Value.int .i64 3]),(4,[Value.int .i64 s.view.epoch]),(5,ints vt.ballot.flat)] bg br (g:=MsgT.sg)) ?_);refine AL 11 ?_;refine XZ mT (ints MsgT.zero.flat) λb4=>?_
 refine EN (AL 12 ?_);refine SW 0 ca aI ?_;refine EN (DN ?_)
 exact aF
  SB
  (λ_ s=>ak [2,1,0] rfl s)
  (tl1 ((b4):(Nat)) trivial)
 refine aG rfl ?_ ?_;refine XZ mT (ints MsgT.zero.flat) λb4=>?_
 refine EN (AL 9 ?_);refine CE kg (bH vb vt) (SM [2]) ?_;refine EN (ta 10 rfl (kJ MsgT.zero (MsgT.mk 3 0 RowT.zero 0 s.view.epoch vt.ballot BallotT.zero ChangeT.zero ViewT.zero) [(0,[Value.int .i64 3]),(4,[Value.int .i64 s.view.epoch]),(5,ints vt.ballot.flat)] bg br (g:=MsgT.sg)) ?_);refine AL 12 ?_;refine SW 1 ca aI ?_;refine EN (DN ?_)
 exact aF
  SB
  (λ_ s=>ak [2,0,0] rfl s)
  (tl1 ((b4):(Nat)) trivial)
 exact bJ;refine aG rfl ?_ ?_;refine CE kg (bH vb vt) (SM [1]) ?_;refine EN (cT [4,11] (by kernel_rfl) rfl (aG rfl ?_ ?_));refine LG 1 Y3 (.int .i64 (s.view.epoch)) ?_ (hc:=by exact λa_=>(cg (s.rep ⟨(a_:Nat×Value).1,(.pointer (some ⟨vb,0,none⟩)),a_.2⟩) 0 rfl (by decide) (aY _ rfl)));refine EN (ta 10 rfl (kJ MsgT.zero (MsgT.mk 3 0 RowT.zero 0 s.view.epoch vt.ballot BallotT.zero ChangeT.zero ViewT.zero) [(0,[Value.int .i64 3]),(4,[Value.int .i64 s.view.epoch]),(5,ints vt.ballot.flat)] bg br (g:=MsgT.sg)) ?_);refine AL 11 ?_;refine XZ mT (ints MsgT.zero.flat) λb4=>?_
 refine EN (AL 12 ?_);refine SW 0 ca aI ?_;refine EN (DN ?_)
 exact aF
  SB
  (λ_ s=>ak [2,1,0] rfl s)
  (tl1 ((b4):(Nat)) trivial)
 refine aG rfl ?_ ?_;refine XZ mT (ints MsgT.zero.flat) λb4=>?_
 refine EN (AL 4 ?_);refine LG 2 Y3 (.int .i64 (s.view.epoch)) ?_ (hc:=by exact λa_=>(cg (s.rep ⟨(a_:Nat×Value).1,(.pointer (some ⟨vb,0,none⟩)),a_.2⟩) 0 rfl (by decide) (aY _ rfl)));refine EN (ta 10 rfl (kJ MsgT.zero (MsgT.mk 3 0 RowT.zero 0 s.view.epoch vt.ballot BallotT.zero ChangeT.zero ViewT.zero) [(0,[Value.int .i64 3]),(4,[Value.int .i64 s.view.epoch]),(5,ints vt.ballot.flat)] bg br (g:=MsgT.sg)) ?_);refine AL 12 ?_;refine SW 0 ca aI ?_;refine EN (DN ?_)
 exact aF
  SB
  (λ_ s=>ak [2,1,0] rfl s)
  (tl1 ((b4):(Nat)) trivial)
 exact bJ;refine aG rfl ?_ ?_;refine XZ mT (ints MsgT.zero.flat) λb4=>?_
 refine EN (cT [4,9] (by kernel_rfl) rfl (aG rfl ?_ ?_));refine LG 1 Y3 (.int .i64 (s.view.epoch)) ?_ (hc:=by exact λa_=>(cg (s.rep ⟨(a_:Nat×Value).1,(.pointer (some ⟨vb,0,none⟩)),a_.2⟩) 0 rfl (by decide) (aY _ rfl)));refine EN (AL 9 ?_);refine CE kg (bH vb vt) (SM [2]) ?_;refine EN (ta 10 rfl (kJ MsgT.zero (MsgT.mk 3 0 RowT.zero 0 s.view.epoch vt.ballot BallotT.zero ChangeT.zero ViewT.zero) [(0,[Value.int .i64 3]),(4,[Value.int .i64 s.view.epoch]),(5,ints vt.ballot.flat)] bg br (g:=MsgT.sg)) ?_);refine AL 12 ?_;refine SW 1 ca aI ?_;refine EN (DN ?_)
 exact aF
  SB
  (λ_ s=>ak [2,0,0] rfl s)
  (tl1 ((b4):(Nat)) trivial)
 refine aG rfl ?_ ?_;refine CE kg (bH vb vt) (SM [2]) ?_;refine EN (AL 4 ?_);refine LG 2 Y3 (.int .i64 (s.view.epoch)) ?_ (hc:=by exact λa_=>(cg (s.rep ⟨(a_:Nat×Value).1,(.pointer (some ⟨vb,0,none⟩)),a_.2⟩) 0 rfl (by decide) (aY _ rfl)));refine EN (ta 10 rfl (kJ MsgT.zero (MsgT.mk 3 0 RowT.zero 0 s.view.epoch vt.ballot BallotT.zero ChangeT.zero ViewT.zero) [(0,[Value.int .i64 3]),(4,[Value.int .i64 s.view.epoch]),(5,ints vt.ballot.flat)] bg br (g:=MsgT.sg)) ?_);refine AL 12 ?_;refine SW 1 ca aI ?_;refine EN (DN ?_)
 exact aF
  SB
  (λ_ s=>ak [2,0,0] rfl s)
  (tl1 ((b4):(Nat)) trivial)
 exact bJ;exact bJ;refine aG rfl ?_ ?_;refine XZ mT (ints MsgT.zero.flat) λb4=>?_
 refine EN (cT [4,8] (by kernel_rfl) rfl (aG rfl ?_ ?_));refine LG 1 Y3 (.int .i64 (s.view.epoch)) ?_ (hc:=by exact λa_=>(cg (s.rep ⟨(a_:Nat×Value).1,(.pointer (some ⟨vb,0,none⟩)),a_.2⟩) 0 rfl (by decide) (aY _ rfl)));refine EN (AL 8 ?_);refine LG 1 p6 (.pointer (some ⟨vb,0,none⟩)) ?_ (hc:=by exact λa_=>(bX _ rfl));refine EN (AL 9 ?_);refine CE kg (bH vb vt) (SM [2]) ?_;refine EN (ta 10 rfl (kJ MsgT.zero (MsgT.mk 3 0 RowT.zero 0 s.view.epoch vt.ballot BallotT.zero ChangeT.zero ViewT.zero) [(0,[Value.int .i64 3]),(4,[Value.int .i64 s.view.epoch]),(5,ints vt.ballot.flat)] bg br (g:=MsgT.sg)) ?_);refine AL 12 ?_;refine SW 1 ca aI ?_;refine EN (DN ?_)
 exact aF
  SB
  (λ_ s=>ak [2,0,0] rfl s)
  (tl1 ((b4):(Nat)) trivial)
 refine aG rfl ?_ ?_;refine LG 1 p6 (.pointer (some ⟨vb,0,none⟩)) ?_ (hc:=by exact λa_=>(bX _ rfl));refine EN (cT [4,9] (by kernel_rfl) rfl (aG rfl ?_ ?_));refine LG 1 Y3 (.int .i64 (s.view.epoch)) ?_ (hc:=by exact λa_=>(cg (s.rep ⟨(a_:Nat×Value).1,(.pointer (some ⟨vb,0,none⟩)),a_.2⟩) 0 rfl (by decide) (aY _ rfl)));refine EN (AL 9 ?_);refine CE kg (bH vb vt) (SM [2]) ?_;refine EN (ta 10 rfl (kJ MsgT.zero (MsgT.mk 3 0 RowT.zero 0 s.view.epoch vt.ballot BallotT.zero ChangeT.zero ViewT.zero) [(0,[Value.int .i64 3]),(4,[Value.int .i64 s.view.epoch]),(5,ints vt.ballot.flat)] bg br (g:=MsgT.sg)) ?_);refine AL 12 ?_;refine SW 1 ca aI ?_;refine EN (DN ?_)
 exact aF
  SB
  (λ_ s=>ak [2,0,0] rfl s)
  (tl1 ((b4):(Nat)) trivial)
 refine aG rfl ?_ ?_;refine CE kg (bH vb vt) (SM [2]) ?_;refine EN (AL 4 ?_);refine LG 2 Y3 (.int .i64 (s.view.epoch)) ?_ (hc:=by exact λa_=>(cg (s.rep ⟨(a_:Nat×Value).1,(.pointer (some ⟨vb,0,none⟩)),a_.2⟩) 0 rfl (by decide) (aY _ rfl)));refine EN (ta 10 rfl (kJ MsgT.zero (MsgT.mk 3 0 RowT.zero 0 s.view.epoch vt.ballot BallotT.zero ChangeT.zero ViewT.zero) [(0,[Value.int .i64 3]),(4,[Value.int .i64 s.view.epoch]),(5,ints vt.ballot.flat)] bg br (g:=MsgT.sg)) ?_);refine AL 12 ?_;refine SW 1 ca aI ?_;refine EN (DN ?_)
 exact aF
  SB
  (λ_ s=>ak [2,0,0] rfl s)
  (tl1 ((b4):(Nat)) trivial)
 exact bJ;exact bJ;exact bJ
theorem Bf{δ:Type}(V:Env δ)(r:Nat)(s:MS δ)(vt:VoteT)(hv:s.vote=some vt)(hpt:vt.putting=false)[OkR V.toDk s]:DT 71 #[.pointer (some ⟨r,0,none⟩), .iface V.T V.ov] T0 [cJ V r s] (dH (λ_ H=>H=[cJ V r (jE V.toDk s vt)])):=
 have:OkVt vt:=OkR.vote vt hv
 Leg.Does.ex (λ_ q=>nI hv q) λvb=>yw V r vb s vt hv hpt
theorem rY{δ:Type}(V:Env δ)(r:Nat)(s:MS δ)(vt:VoteT)(hv:s.vote=some vt)[OkR V.toDk s]:DT 71 #[.pointer (some ⟨r,0,none⟩), .iface V.T V.ov] T0 [cJ V r s] (dH (λ_ H=>H=[cJ V r (lw V.toDk s vt)])):=by
 cases hp:vt.putting with
 |true=>rw[lw,if_pos hp];exact tm V r s vt hv hp
 |false=>rw[lw,if_neg (by rw[hp];decide)];exact Bf V r s vt hv hp
theorem AQ{δ:Type}(V:Env δ)(r:Nat)(s:MS δ)(from':Int)(m:MsgT)[OkR V.toDk s][OkMg m](hto:from'≠s.id)(hrs:s.replies.length≤1000000):TK V r 62 s from' m (fQ V.toDk s from' m):=by
 have hfe:from'=s.id→m.epoch=s.view.epoch:=λe=>absurd e hto
 by_cases h3:m.kind=3
 · rw[fQ];simp only[h3];exact wM V r s from' m hfe h3
 by_cases h4:m.kind=4
 · rw[fQ];simp only[h4];exact rU V r s from' m hfe h4
 by_cases h5:m.kind=5
 · rw[fQ];simp only[h5];exact wL V r s from' m hfe h5
 by_cases h6:m.kind=6
 · rw[fQ];simp only[h6];exact rT V r s from' m hfe h6
 refine pi V r s _ from' m (λh=>?_) (λh=>?_) (λh=>?_) (λh=>?_) (λh=>?_) (λh=>?_) (λh=>by omega) (λh=>?_)
 · rw[fQ,if_pos h];exact yo V r s from' m hto
 · rw[fQ,if_neg (by omega),if_pos h];exact wK V r s from' m hrs
 · rw[fQ,if_neg (by omega),if_neg (by omega),if_pos h]
 · rw[fQ,if_neg (by omega),if_neg (by omega),if_neg (by omega),if_pos h];exact vw V r s m.view
 · rw[fQ,if_neg (by omega),if_neg (by omega),if_neg (by omega),if_neg (by omega),if_pos h];exact wJ V r s from' m
 · rw[fQ,if_neg (by omega),if_neg (by omega),if_neg (by omega),if_neg (by omega),if_neg (by omega),if_pos h];exact oH V r s from' m
 · rw[fQ,if_neg h.1,if_neg h.2.1,if_neg h.2.2.1,if_neg h.2.2.2.1,if_neg h.2.2.2.2.1,if_neg h.2.2.2.2.2.1,if_neg h3,if_neg h4,if_neg h5,if_neg h6]
end Go.Proofs.YtmcjhkbcmmddgaaGreat
end
