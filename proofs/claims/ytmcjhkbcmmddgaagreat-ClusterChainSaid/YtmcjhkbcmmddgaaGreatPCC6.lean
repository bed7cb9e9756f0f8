/-
  Joined texts:what a statement's proof reaches.
-/
import Derived.Test.YtmcjhkbcmmddgaaGreatPCC5
set_option maxHeartbeats 8000000
set_option maxRecDepth 100000
set_option linter.unusedSimpArgs false
set_option linter.unusedVariables false
section
namespace Go.Proofs.YtmcjhkbcmmddgaaGreat
open Go Leg Codec Api Dsk Wal
theorem GZ{δ:Type}(V:Env δ)(r lg:Nat)(x:RepT)(m:RecT)(e:δ)(l:List SaidT)(hlog:x.log= .pointer (some ⟨lg,0,none⟩))(hok:V.ok e):
 DT 91 #[(.pointer (some ⟨r,0,none⟩)),(.agg (ints m.flat).toArray)] T0 [an r (RepT.cells x) 94,V.lg lg e,V.E e l] (RI (.int .i64 (V.pt e (dZ m)).2) [an r (RepT.cells x) 94,V.lg lg (V.pt e (dZ m)).1,V.E (V.pt e (dZ m)).1 l]):=by
 refine BD 12 Tryz.func91 rfl rfl rfl λw0 F hF=>sr λ_ J1=>XY (ints m.flat) λb3=>?_
 refine PS ?_;refine nx J1 (aa λ_ J2=>D2 1 0 bo ?_);refine PD 0 ?_;refine PD 1 ?_;refine FD 2 1 db O1 ?_;refine LX 3 Tryz.underlying82 (.pointer (some ⟨lg,0,none⟩)) ?_ (hc:=by exact(RepT.at_log x rfl).trans (congrArg some hlog));refine LY 4 eC fV bt ?_;refine AL 5 ?_;refine CR N1 (Ci m) ID λvR HR hR=>?_
 obtain⟨_,rfl,rfl⟩:=hR;revert vR;intro ue;refine EN (AL 6 ?_);refine CF N2 (V.put lg ue (dZ m) e l hok (oC m)) (SM [3,3]) (λg d s=>L6 (vI 0 rfl rfl g d s)) ?_;refine EN (PD 7 ?_);exact DN (af J2 (ak (WK [4,0,0] (aw rfl rfl ⟨rfl,rfl⟩))))
theorem lD{δ:Type}(V:Env δ)(r:Nat)(s:MS δ)(m:RecT)[hs:OkR V.toDk s]:DT 91 #[.pointer (some ⟨r,0,none⟩), .agg (ints m.flat).toArray] T0 [cK V r s] (RI (.int .i64 (qS V.toDk s m)) [cK V r (dE V.toDk s m)]):=
 Leg.Does.pack λa=>Leg.Does.withinR (GZ V r a.lg (s.rep a) m s.e s.o rfl hs.e) (λ_ _ _ _=>trivial) (λ_ q=>aE [0,0,2] rfl q) λv H hp=>by
  obtain⟨h1,rfl⟩:=hp;exact⟨_,λ_ q=>br (p:=λa:Adr=>[an r (RepT.cells ((dE V.toDk s m).rep a)) 94,V.lg a.lg (dE V.toDk s m).e,own a.rs (dE V.toDk s m).replies.length (ints ((dE V.toDk s m).replies.flatMap ReplyT.flat)) 175 3,FG a.vo (dE V.toDk s m).vote,V.E (dE V.toDk s m).e (dE V.toDk s m).o]) a (aE [0,0,1,1,0] rfl q),h1,rfl⟩
theorem fi{δ:Type}(V:Env δ)(r:Nat)(s:MS δ)(op err val:Int)(hrs:s.replies.length≤1000000):DT 54 #[.pointer (some ⟨r,0,none⟩), .int .i64 op, .int .i64 err, .int .i64 val] T0 [cK V r s] (dL (λ_ H=>H=[cK V r (dK s op err val)])):=
 Leg.Does.pack λa=>Leg.Does.withinR (Ep r (s.rep a) op err val s.replies hrs) (λ_ _ _ _=>trivial) (λ_ q=>aE [0,1] rfl q) λv H hp=>by
  obtain⟨v',_,rfl⟩:=hp;exact⟨_,λ_ q=>br (p:=λa:Adr=>[an r (RepT.cells ((dK s op err val).rep a)) 94,V.lg a.lg (dK s op err val).e,own a.rs (dK s op err val).replies.length (ints ((dK s op err val).replies.flatMap ReplyT.flat)) 175 3,FG a.vo (dK s op err val).vote,V.E (dK s op err val).e (dK s op err val).o]) {a with rs:=v'} (aE [0,1,0,0,0] rfl q),rfl⟩
theorem rQ{δ:Type}(V:Env δ)(r:Nat)(s:MS δ)(y:RowT)(op:Int)[OkR V.toDk s][OkRow y]:
 DT 55 #[(.pointer (some ⟨r,0,none⟩)),(.iface V.T V.ov),(.agg (ints y.flat).toArray),(.int .i64 (op))] T0 [cK V r s] (RI (.int .i64 (e9 V.toDk s y op).2) [cK V r (e9 V.toDk s y op).1]):=by
 refine BD 34 Tryz.func55 rfl rfl rfl λw0 F hF=>sr λ_ J1=>XY (ints y.flat) λb6=>?_
 refine PS ?_;refine nx J1 (aa λ_ J2=>sr λ_ J3=>PS ?_);refine LW 0 ez bj am ?_;refine tp (lu RecT.zero (RecT.mk 0 0 y 0 BallotT.zero ChangeT.zero ViewT.zero) [(0,[Value.int .i64 0]),(2,ints y.flat)] eC fq (g:=RecT.sg)) ?_;refine CE EG (lD V r s (kC y)) (SM [1]) ?_;refine PS ?_;refine nx J3 (sr λ_ J4=>P2 ?_);refine aq ?_ ?_<;>intro h15;refine nx J4 (CY (sr λ_ J5=>P2 ?_));refine nx J5 (ak (ae (WK [0] (aw rfl rfl ?_))));have e:e9 V.toDk s y op=(dE V.toDk s (kC y),qS V.toDk s (kC y)):=if_pos h15;exact jX e;refine nx J4 (CN (qx J2 (sr λ_ J6=>P4 ?_)));refine LW 1 ez bj am ?_;refine P2 ?_;refine FA 9 db bj ?_;refine iw (vs:=ints y.flat) (i:=0) (ab rfl) rfl rfl rfl rfl rfl (by rw[(am y)];exact bj) (bB _) rfl rfl (λ_=>LC (cU _) (am _)) (λa_=>(Qq ((dE V.toDk s (kC y)).rep a_) 0 rfl (by have h1:=(am y);omega) (cr ((am (((dE V.toDk s (kC y)).rep a_).own)).trans (am y).symm)))) (PS ?_);refine FA 1938 db lm ?_;refine SK 0 lm (λ_=>cU _) ?_ (hc:=by exact λa_=>(P5 _ rfl _));refine PS ?_;refine FA 1939 db aQ ?_;refine SK 0 aQ (λ_=>cU _) ?_ (hc:=by exact λa_=>(P0 _ rfl _));refine PS ?_;refine FA 1940 db aQ ?_;refine SK 0 aQ (λ_=>cU _) ?_ (hc:=by exact λa_=>(RepT.set_waits _ rfl _));refine nx J6 (sr λ_ J7=>P2 ?_);refine CZ Mt (nZ V r (s6 (dE V.toDk s (kC y)) y op)) ID λvR=>?_
 refine nx J7 (sr λ_ J8=>PS ?_);refine nx J8 (ak (WK [0] (aw rfl rfl ?_)));have e:e9 V.toDk s y op=(fz V.toDk (s6 (dE V.toDk s (kC y)) y op),0):=if_neg h15;exact jX e
theorem pw(x:RowT)(who:Int)(d:RowT):
 DT 108 #[(.agg (ints x.flat).toArray),(.int .i64 (who)),(.agg (ints d.flat).toArray)] T0 [] (RI (.tuple #[.agg (ints (dU x who d).1.flat).toArray, .int .i64 (dU x who d).2]) []):=by
 refine BD 68 Tryz.func108 rfl rfl rfl λw0 F hF=>sr λ_ J1=>XY (ints x.flat) λb3=>?_
 refine XY (ints d.flat) λb5=>?_
 refine XZ vS (ints RowT.zero.flat) λb6=>?_
 refine PS ?_;refine nx J1 (aa λ_ J2=>sr λ_ J3=>PS ?_);refine CE FV (kw who) ID ?_;refine bh ?_ ?_<;>intro h11;have hw:cw who=true:=by simpa using h11
 have hw2:0≤who∧who<5:=of_decide_eq_true hw;refine PS ?_;refine nx J3 (CN (qx J2 (aa λ_ J4=>sr λ_ J5=>PS ?_)));refine FA 29 ez gK ?_;refine IX (29+who.toNat) mX aQ ?_;refine LT 2 Y3 (.int .i64 ((x.heir[who.toNat]'(by omega)))) ?_ (hc:=by exact sa x (who.toNat) (by omega) (by omega) (kG x.heir (by omega)));refine PS ?_;refine aq ?_ ?_<;>intro h18;refine nx J5 (CY (sr λ_ J6=>BV ((ints RowT.zero.flat).toArray) ?_));refine SW 0 bj am ?_;refine PS ?_;refine nx J6 (ak (ae (RT 0 [] ez bj (am _) ?_)));have e:dU x who d=(.zero,8):=by rw[dU,hw,gp,dif_pos hw,if_neg (by decide),if_pos h18]
 exact⟨by rw[e],rfl⟩;refine nx J5 (CN (qx J4 (aa λ_ J7=>D1 1 bo ?_)));refine PD 0 ?_;refine PD 1 ?_;refine FD 2 0 ez aQ ?_;refine LR 3 Y3 (cJ d rfl) ?_;refine ta 4 rfl (cG (r:=(gX (d.version+1))) rfl rfl rfl rfl) ?_;refine FD 5 1 ez lP ?_;refine ta 6 rfl (aL (vs:=ints (bT d.cells.toList)) rfl Bm rfl lP rfl (λ_ h=>h.2.1) (eD d.cells) (DK d 0 rfl (by decide) (bn (eD d.cells)))) ?_;refine FD 7 29 ez gK ?_;refine IY 8 (29+who.toNat) mX aQ ?_;refine FD 10 34 ez BK ?_;refine AL 9 ?_;refine cd (i:=2) (ab rfl) rfl rfl rfl rfl rfl aQ rfl rfl (LB (am _)) (RowT.st_heir x (who.toNat) (by omega) (by omega) (yO x.heir (by omega) _)) rfl (EN (IY 11 (34+who.toNat*28) L1 lP ?_));refine AL 12 ?_;refine bR (vs:=ints (bT d.cells.toList)) (i:=2) (ab rfl) rfl rfl rfl rfl rfl (by rw[(eD d.cells)];exact lP) (bB _) rfl rfl (LC (am _) (eD _)) (RowT.wr_left_ (RowT.mk x.version x.cells (x.heir.set who.toNat (gX (d.version+1)) (by omega)) x.left) (who.toNat*28) (by omega) (by have h1:=(eD d.cells);omega) (wc tP x.left (i:=who.toNat) 0 (by omega) (by omega) (by have h1:=(eD d.cells);omega) (cr ((eD (x.left[who.toNat]'(by omega))).trans (eD d.cells).symm)))) rfl (EN (DN (af J7 (aa λ_ J8=>sr λ_ J9=>FA 29 ez gK ?_))));refine tp (aL (vs:=ints d.heir.toList) rfl mX rfl gK rfl (RO 1) (jL d.heir) (PT d 0 rfl (by decide) (bn (jL d.heir)))) ?_;refine PS ?_;refine nx J9 (av ?_)
 refine bG (α:=(Nat)×(RowT)) (λ⟨k,y⟩=>k≤5∧y=oz x who d k) (λ⟨k,y⟩=>[(1,(.int .i64 (who))),(3,(.pointer (some ⟨b3,0,none⟩))),(5,(.pointer (some ⟨b5,0,none⟩))),(6,(.pointer (some ⟨b6,0,none⟩))),(7,(.int .i64 0)),(32,(.agg (ints d.heir.toList).toArray)),(33,(.int .i64 (((k:Nat):Int))))]) (λ⟨k,y⟩=>[an b6 (ints RowT.zero.flat) 51,an b5 (ints d.flat) 51,an b3 (ints y.flat) 51]) (λ⟨k,y⟩=>5-k) (0,(RowT.mk x.version x.cells (x.heir.set who.toNat (gX (d.version+1)) (by omega)) (x.left.set who.toNat d.cells (by omega))))
  ⟨aP _,by rw[oz,oV,dif_pos hw];rfl⟩ SB
  (λ_ s=>ao [0,0,0] rfl s) (λ⟨k,y⟩ hinv=>?_)
 obtain⟨hk,hy⟩:=hinv;refine sr λ_ J10=>PS ?_
 refine aq ?_ ?_<;>intro h34;refine nx J10 (aa λ_ J11=>CY (qx J11 (aa λ_ J12=>av (sr λ_ J13=>PS ?_))));refine tp (sj (cs:=ints d.heir.toList) (v:=Value.int .i64 (d.heir[k]'(by omega))) (r:=k) rfl mX Y3 rfl aQ rfl rfl (by omega) (by omega) (by omega) (kG d.heir (by omega))) ?_;refine P2 ?_;refine nx J13 (sr λ_ J14=>P3 ?_);refine aq ?_ ?_<;>intro h39;refine P3 ?_;refine aq ?_ ?_<;>intro h42;refine P3 ?_;refine FA 29 ez gK ?_;refine IX (29+k) mX aQ ?_;refine LT 2 Y3 (.int .i64 ((y.heir[k]'(by omega)))) ?_ (hc:=by exact sa y k (by omega) (by omega) (kG y.heir (by omega)));refine PS ?_;refine aq ?_ ?_<;>intro h49;refine PS ?_;refine nx J14 (CY (D1 1 bo ?_));refine PD 0 ?_;refine PD 1 ?_;refine PD 2 ?_;refine PD 3 ?_;refine FD 4 34 ez BK ?_;refine IY 5 (34+k*28) L1 lP ?_;refine ta 6 rfl (aL (vs:=ints (bT (d.left[k]'(by omega)).toList)) rfl Bm rfl lP rfl (λ_ h=>h.2.1) (eD (d.left[k]'(by omega))) (Gl d (k*28) (by omega) (by omega) (kT tP d.left (i:=k) 0 (by omega) (by omega) (by decide) (bn (eD (d.left[k]'(by omega))))))) ?_;refine FD 7 29 ez gK ?_;refine IY 8 (29+k) mX aQ ?_;refine FD 10 34 ez BK ?_;refine AL 9 ?_;refine cd (i:=2) (ab rfl) rfl rfl rfl rfl rfl aQ rfl rfl (LB (am _)) (RowT.st_heir y k (by omega) (by omega) (yO y.heir (by omega) _)) rfl (EN (IY 11 (34+k*28) L1 lP ?_));refine AL 12 ?_
 refine bR (vs:=ints (bT (d.left[k]'(by omega)).toList)) (i:=2) (ab rfl) rfl rfl rfl rfl rfl (by rw[(eD (d.left[k]'(by omega)))];exact lP) (bB _) rfl rfl (LC (am _) (eD _)) (RowT.wr_left_ (RowT.mk y.version y.cells (y.heir.set k (d.heir[k]'(by omega)) (by omega)) y.left) (k*28) (by omega) (by have h1:=(eD (d.left[k]'(by omega)));omega) (wc tP y.left (i:=k) 0 (by omega) (by omega) (by have h1:=(eD (d.left[k]'(by omega)));omega) (cr ((eD (y.left[k]'(by omega))).trans (eD (d.left[k]'(by omega))).symm)))) rfl (EN (DN (ah (af J12 (ag (AD ?_))))));refine PS ?_;refine ax ?_
 exact aN ((k+1,(RowT.mk y.version y.cells (y.heir.set k (d.heir[k]'(by omega)) (by omega)) (y.left.set k (d.left[k]'(by omega)) (by omega)))):(Nat)×(RowT)) ⟨by omega,by rw[pd,←hy,nQ,hZ _ (by omega),hZ _ (by omega),if_pos ⟨by omega,by omega,by omega⟩,Ej _ (by omega),Hq _ (by omega)]⟩ (by show 5- (k+1)<5-k;omega)
  SB
  (λ_ s=>ao [0,0,0] rfl s)
 refine PS ?_;refine nx J14 (CN (aT (ah (af J12 (ag (AD ?_))))));refine PS ?_;refine ax ?_
 exact aN ((k+1,y):(Nat)×(RowT)) ⟨by omega,by rw[pd,←hy,nQ,hZ _ (by omega),hZ _ (by omega),if_neg (by omega)]⟩ (by show 5- (k+1)<5-k;omega)
  SB
  (λ_ s=>ao [0,0,0] rfl s)
 refine P2 ?_
 iterate 5 refine UF ?_
 refine PS ?_;refine nx J14 (CN (aT (ah (af J12 (ag (AD ?_))))));refine PS ?_;refine ax ?_
 exact aN ((k+1,y):(Nat)×(RowT)) ⟨by omega,by rw[pd,←hy,nQ,hZ _ (by omega),hZ _ (by omega),if_neg (by omega)]⟩ (by show 5- (k+1)<5-k;omega)
  SB
  (λ_ s=>ao [0,0,0] rfl s)
 refine PS ?_;refine UF ?_;refine UF ?_;refine P2 ?_
 iterate 5 refine UF ?_
 refine PS ?_;refine nx J14 (CN (aT (ah (af J12 (ag (AD ?_))))));refine PS ?_;refine ax ?_
 exact aN ((k+1,y):(Nat)×(RowT)) ⟨by omega,by rw[pd,←hy,nQ,hZ _ (by omega),hZ _ (by omega),if_neg (by omega)]⟩ (by show 5- (k+1)<5-k;omega)
  SB
  (λ_ s=>ao [0,0,0] rfl s)
 refine nx J10 (aa λ_ J15=>CN (bg (aC (aC (bD (af J8 (sr λ_ J16=>FA 0 ez aQ ?_)))))));refine LU 2 Y3 (cJ y rfl) ?_;refine tp (cG (r:=(gX (y.version+1))) rfl rfl rfl rfl) ?_;refine FA 0 ez aQ ?_;refine cd (i:=2) (ab rfl) rfl rfl rfl rfl rfl aQ rfl rfl (LB (am _)) (xO y rfl _) rfl (nx J16 (sr λ_ J17=>LW 2 ez bj am ?_));refine SW 0 bj am ?_;refine PS ?_;refine nx J17 (ak (RT 0 [] ez bj (am _) ?_));obtain rfl:k=5:=by omega
 subst hy;have e:dU x who d=({oz x who d 5 with version:=gX ((oz x who d 5).version+1)},0):=by rw[dU,hw,gp,dif_pos hw,if_neg (by decide),if_neg h18]
 exact⟨by rw[e],rfl⟩;refine PS ?_;refine nx J3 (CY (sr λ_ J18=>BV ((ints RowT.zero.flat).toArray) ?_));refine SW 0 bj am ?_;refine PS ?_;refine nx J18 (ak (ae (RT 0 [] ez bj (am _) ?_)));have hw:cw who=false:=by simpa using h11
 have e:dU x who d=(.zero,5):=by rw[dU,hw];rfl
 exact⟨by rw[e],rfl⟩
theorem zD{δ:Type}(V:Env δ)(r:Nat)(s:MS δ)[OkR V.toDk s]:
 DT 106 #[(.pointer (some ⟨r,0,none⟩))] T0 [cK V r s] (dL (λr' H=>∃u,r'=u∧H=[own u (bF s).length (ints (bF s)) 3 1,cK V r s])):=by
 refine BD 44 Tryz.func106 rfl rfl rfl λw0 F hF=>sr λ_ J1=>PS ?_
 refine nx J1 (sr λ_ J2=>PS ?_);refine nx J2 (aa λ_ J3=>sr λ_ J4=>PS ?_);refine nx J4 (av ?_)
 refine bG (α:=(Nat)×(Value)) (λ⟨k,u⟩=>k≤5∧u.oneCell'=true) (λ⟨k,u⟩=>[(0,(.pointer (some ⟨r,0,none⟩))),(2,(.slice none 0 0)),(3,u),(7,(.int .i64 (((k:Nat):Int))))]) (λ⟨k,u⟩=>[own u ((iI s k).length) (ints (iI s k)) 3 1,cK V r s]) (λ⟨k,u⟩=>5-k) (0,(.slice none 0 0))
  ⟨aP _,rfl⟩ SB
  (λ_ s=>im 3 1 (ao [0] rfl s)) (λ⟨k,u⟩ hinv=>?_)
 obtain⟨hk,hu⟩:=hinv;have hol:=HC s k;refine sr λ_ J5=>PS ?_
 refine aq ?_ ?_<;>intro h8;refine nx J5 (aa λ_ J6=>CY (qx J6 (aa λ_ J7=>av (sr λ_ J8=>P2 ?_))));refine nx J8 (sr λ_ J9=>P2 ?_);refine FA 2 db be ?_;refine LZ 1 eL be ai s.view ?_ (hc:=by exact λ_=>cT _);refine PS ?_;refine CE Mn (uq s.view ((k:Nat):Int) OkVw.rng) ID ?_;refine P3 ?_;refine bh ?_ ?_<;>intro h18;refine P2 ?_;refine nx J9 (sr λ_ J10=>?_)
 iterate 5 refine PS ?_
 refine FA 0 db aQ ?_;refine LG 1 Y3 (.int .i64 (s.id)) ?_ (hc:=by exact λa_=>(cF _ rfl));refine PS ?_;refine aq ?_ ?_<;>intro h26
 iterate 5 refine PS ?_
 refine FA 9 db bj ?_;refine FA 38 ez gK ?_;refine IX (38+k) mX aQ ?_;refine LG 1 Y3 (.int .i64 ((s.own.heir[k]'(by omega)))) ?_ (hc:=by exact λa_=>(RepT.pt_own (s.rep a_) (29+k) (by omega) (by omega) (sa ((s.rep a_).own) k (by omega) (by omega) (kG (((s.rep a_).own).heir) (by omega)))));refine PS ?_;refine aq ?_ ?_<;>intro h36;refine PS ?_;refine nx J10 (CY (ag (P2 ?_)));refine aZ (cells:=#[(.int .i64 (((k:Nat):Int)))]) (ab rfl) rfl rfl rfl kE rO rfl rfl rfl (by as_aux_lemma=>kernel_rfl) (λb40=>cM (k:=1) (news:=[(.int .i64 (((k:Nat):Int)))]) (nn':=(iI s k).length+1) (xs':=ints (iI s k)++[(.int .i64 (((k:Nat):Int)))]) (ab rfl) rfl rfl rfl kE rO rfl rfl rfl rfl rfl rfl (λ_ _=>jU rfl (RO 0) rfl) (by simp[Value.oneCell']) (by simp only[maxLen];omega) (by omega) (by simp) (by simp) (λv41 ov41=>PS ?_));refine ax (ah (af J7 (ag (AD ?_))));refine PS ?_;refine ax ?_
 exact aN ((k+1,v41):(Nat)×(Value)) ⟨by omega,ov41⟩ (by show 5- (k+1)<5-k;omega)
  SB
  (λ_ q=>by
   show bN [own v41 (iI s (k+1)).length (ints (iI s (k+1))) 3 1,cK V r s] _;rw[show iI s (k+1)=iI s k++[((k:Nat):Int)]by rw[pj,if_pos (MJ h18 h26 (by rw[hZ _ (by omega)];exact h36))],aj,eJ]
   exact ao [1,1] rfl q)
 refine PS ?_;refine nx J10 (CN (aT (ah (af J7 (ag (AD ?_))))));refine PS ?_;refine ax ?_
 exact aN ((k+1,u):(Nat)×(Value)) ⟨by omega,hu⟩ (by show 5- (k+1)<5-k;omega)
  SB
  (λ_ q=>by
   show bN [own u (iI s (k+1)).length (ints (iI s (k+1))) 3 1,cK V r s] _;rw[show iI s (k+1)=iI s k by rw[pj,if_neg (by intro hq;have h2:=AZ hq;rw[hZ _ (by omega)]at h2;first|omega| (simp_all;done)| (simp_all;omega)),aU]]
   exact ao [0,0] rfl q)
 refine P2 ?_
 iterate 8 refine UF ?_
 refine PS ?_;refine nx J10 (CN (aT (ah (af J7 (ag (AD ?_))))));refine PS ?_;refine ax ?_
 exact aN ((k+1,u):(Nat)×(Value)) ⟨by omega,hu⟩ (by show 5- (k+1)<5-k;omega)
  SB
  (λ_ q=>by
   show bN [own u (iI s (k+1)).length (ints (iI s (k+1))) 3 1,cK V r s] _;rw[show iI s (k+1)=iI s k by rw[pj,if_neg (by intro hq;have h2:=AZ hq;rw[hZ _ (by omega)]at h2;first|omega| (simp_all;done)| (simp_all;omega)),aU]]
   exact ao [0,0] rfl q)
 refine P2 ?_;refine nx J9 (sr λ_ J11=>P2 ?_)
 iterate 6 refine UF ?_
 refine P2 ?_
 iterate 8 refine UF ?_
 refine PS ?_;refine nx J11 (CN (aT (ah (af J7 (ag (AD ?_))))));refine PS ?_;refine ax ?_
 exact aN ((k+1,u):(Nat)×(Value)) ⟨by omega,hu⟩ (by show 5- (k+1)<5-k;omega)
  SB
  (λ_ q=>by
   show bN [own u (iI s (k+1)).length (ints (iI s (k+1))) 3 1,cK V r s] _;rw[show iI s (k+1)=iI s k by rw[pj,if_neg (by intro hq;have h2:=AZ hq;rw[hZ _ (by omega)]at h2;first|omega| (simp_all;done)| (simp_all;omega)),aU]]
   exact ao [0,0] rfl q)
 refine nx J5 (aa λ_ J12=>CN (bg (aC (aC (bD (af J3 (sr λ_ J13=>P2 ?_)))))));refine nx J13 (ak (WK [0,0] (aw rfl rfl ?_)));obtain rfl:k=5:=by omega
 exact⟨u,rfl,rfl⟩
theorem nJ{δ:Type}(V:Env δ)(r:Nat)(s:MS δ)(who w:Int)(hm:cw who=true)(hw:0≤w∧w<5):
 DT 107 #[(.pointer (some ⟨r,0,none⟩)),(.int .i64 (who)),(.int .i64 (w))] T0 [cK V r s] (RI (.bool (we s who w)) [cK V r s]):=by
 refine BD 17 Tryz.func107 rfl rfl rfl λw0 F hF=>?_
 have hm2:0≤who∧who<5:=of_decide_eq_true hm;refine sr λ_ J1=>PS ?_
 refine nx J1 (sr λ_ J2=>P3 ?_);refine FA 1943 db gK ?_;refine IX (1943+who.toNat) mX aQ ?_;refine LG 0 Y3 (.int .i64 ((s.told[who.toNat]'(by omega)))) ?_ (hc:=by exact λa_=>(Qr (s.rep a_) (who.toNat) (by omega) (by omega) (kG ((s.rep a_).told) (by omega))));refine PS ?_;refine tp (l7 (r:=((s.told[who.toNat]'(by omega)).fdiv (2^min w.toNat IntKind.i64.bits))) rfl rfl rfl (by omega) rfl) ?_;refine tp (vA (r:=(((s.told[who.toNat]'(by omega)).fdiv (2^min w.toNat IntKind.i64.bits))%2)) rfl rfl rfl (mask (k:=1) (by decide) _)) ?_;refine P2 ?_;refine nx J2 (ak (WK [0] (aw rfl rfl ?_)));exact⟨by rw[we,rl,dif_pos hm],rfl⟩
theorem pm{δ:Type}(V:Env δ)(r:Nat)(s:MS δ)[OkR V.toDk s]:
    DT 64 #[(.pointer (some ⟨r,0,none⟩)),(.iface V.T V.ov)] T0 [cK V r s] (dL (λ_ H=>H=[cK V r (lZ V.toDk s)])):=by
 refine BD 80 Tryz.func64 rfl rfl rfl λw0 F hF=>sr λ_ J1=>PS ?_
 refine CR LF (zD V r s) ID λvR HR hR=>?_
 obtain⟨_,rfl,rfl⟩:=hR;revert vR;intro ud;refine kj 0 rfl rfl (λhlud houd=>PS ?_);refine nx J1 (aa λ_ J2=>sr λ_ J3=>P2 ?_);refine FA 1938 db lm ?_;refine LG 1 Y4 (.bool (s.busy)) ?_ (hc:=by exact λa_=>(yy _ rfl));refine bh ?_ ?_<;>intro h19;refine PS ?_
 iterate 3 refine UT ?_
 refine PS ?_;refine nx J3 (CY (ak (ae (WK [1] (dM rfl ?_)))));exact congrArg (λq=>[cK V r q]) (show s=lZ V.toDk s from(if_pos (by rw[h19];rfl)).symm);refine P2 ?_;refine tq (dW rfl kE rfl hlud) ?_;refine PS ?_;refine aq ?_ ?_<;>intro h23;refine PS ?_;refine nx J3 (CY (ak (ae (WK [1] (dM rfl ?_)))));exact congrArg (λq=>[cK V r q]) (show s=lZ V.toDk s from(if_pos (by rw[h19,decide_eq_true (by omega)];rfl)).symm);refine PS ?_;refine nx J3 (CN (qx J2 (aa λ_ J4=>sr λ_ J5=>PS ?_)));refine tp (dW rfl kE rfl hlud) ?_;refine PS ?_;refine nx J5 (av ?_)
 refine bG (α:=(Nat)) (λk=>k≤(bF s).length∧∀j,j<k→∀w∈iy ((bF s).getD j 0),we s ((bF s).getD j 0) w=true) (λk=>[(0,(.pointer (some ⟨r,0,none⟩))),(1,(.iface V.T V.ov)),(4,ud),(25,ud),(26,(.int .i64 ((((bF s).length:Nat):Int)))),(27,(.int .i64 (((k:Nat):Int))))]) (λk=>[own ud ((bF s).length) (ints (bF s)) 3 1,cK V r s]) (λk=>(bF s).length-k) 0
     ⟨aP _,λj h=>absurd h (by omega)⟩ SB
     (λ_ s=>s) (λk hinv=>?_)
 obtain⟨hk,hal⟩:=hinv;refine sr λ_ J6=>PS ?_
 refine aq ?_ ?_<;>intro h28;refine nx J6 (aa λ_ J7=>CY (qx J7 (aa λ_ J8=>av (sr λ_ J9=>?_))));have hmm1:(bF s).getD k 0∈bF s:=by rw[List.getD_eq_getElem?_getD,List.getElem?_eq_getElem (by omega)];exact eg _
 have hm1:cw ((bF s).getD k 0)=true:=(xv hmm1).1;have hn1:0≤(bF s).getD k 0∧(bF s).getD k 0<5:=of_decide_eq_true hm1;refine kl 0 rfl rfl (by omega) (λge1 ce1 he1 _=>tp (ca (r:=k) he1 rfl kE aQ rfl rfl (by omega) (by omega) (by omega)) ?_);refine tp (de (v:=(.int .i64 (((bF s).getD k 0)))) rfl Y3 rfl rfl (gO 0 rfl he1 rfl) (xm (by omega))) ?_;refine PS ?_;refine nx J9 (sr λ_ J10=>PS ?_);refine CR IS (qI ((bF s).getD k 0) hm1) ID λvR HR hR=>?_
 obtain⟨_,rfl,rfl⟩:=hR;revert vR;intro uw;refine kj 0 rfl rfl (λhluw _=>kl 0 rfl rfl (by omega) (λgw capw hvw hcapw=>tp (dW rfl kE rfl hluw) ?_));refine PS ?_;refine nx J10 (av (sh 2 (sr λ_ J11=>PS ?_)));refine nx J11 (aa λ_ J12=>CY (qx J12 (aa λ_ J13=>av (sr λ_ J14=>tp (ca (r:=0) hvw rfl kE aQ rfl rfl (by omega) (by omega) rfl) ?_))));refine tp (de (v:=(.int .i64 (((((bF s).getD k 0)+1)%5)))) rfl Y3 rfl rfl (gO 0 rfl hvw rfl) rfl) ?_;refine PS ?_;refine nx J14 (sr λ_ J15=>P3 ?_);refine CE FY (nJ V r s ((bF s).getD k 0) ((((bF s).getD k 0)+1)%5) hm1 (by omega)) (SM [2]) ?_;refine bh ?_ ?_<;>intro h41;refine PS ?_;refine nx J15 (CN (aT (ah (af J13 (ag (tp (cG (r:=1) rfl rfl rfl (by decide)) ?_))))));refine PS ?_;refine ax (eM (sr λ_ J16=>PS ?_));refine nx J16 (aa λ_ J17=>CY (qx J17 (aa λ_ J18=>av (sr λ_ J19=>tp (ca (r:=1) hvw rfl kE aQ rfl rfl (by omega) (by omega) rfl) ?_))));refine tp (de (v:=(.int .i64 (((((bF s).getD k 0)+2)%5)))) rfl Y3 rfl rfl (gO 1 rfl hvw rfl) rfl) ?_;refine PS ?_;refine nx J19 (sr λ_ J20=>P3 ?_);refine CE FY (nJ V r s ((bF s).getD k 0) ((((bF s).getD k 0)+2)%5) hm1 (by omega)) ID ?_;refine bh ?_ ?_<;>intro h41;refine PS ?_;refine nx J20 (CN (aT (ah (af J18 (ag (tp (cG (r:=2) rfl rfl rfl (by decide)) ?_))))));refine PS ?_;refine ax (eM (sr λ_ J21=>PS ?_));refine nx J21 (aa λ_ J22=>CN (bg (aC (aC (bD (ah (af J8 (ag (AD ?_)))))))));refine PS ?_
 refine ax ?_
 exact aN ((k+1):(Nat)) ⟨by omega,λj hj=>by
        by_cases q:j=k
        · subst q
          intro w hw;rw[iy,if_pos hm1]at hw;simp only[bV,List.not_mem_nil,or_false]at hw;rcases hw with rfl|rfl<;>assumption
        · exact hal j (by omega)⟩ (by show(bF s).length- (k+1)< (bF s).length-k;omega)
   SB
   (λ_ s=>ao [2,0] rfl s)
 refine PS ?_;refine nx J20 (CY (ak (aI (ae (ae (aI (aI (ae (ae (aI (ae ?_)))))))))));refine WK [0] (dM rfl ?_)
 have hb: ¬vC s=true:=λh=>by
   have h2:=List.all_eq_true.1 (List.all_eq_true.1 h _ hmm1) (((bF s).getD k 0+2)%5) (by rw[iy,if_pos hm1];simp);rw[h41]at h2;cases h2
 exact MQ (by rw[lZ,if_neg (by rw[h19,decide_eq_false (by omega)];decide),if_neg hb]);refine PS ?_;refine nx J15 (CY (ak (aI (ae (ae (aI (aI (ae (ae (aI (ae ?_)))))))))));refine WK [0] (dM rfl ?_)
 have hb: ¬vC s=true:=λh=>by
   have h2:=List.all_eq_true.1 (List.all_eq_true.1 h _ hmm1) (((bF s).getD k 0+1)%5) (by rw[iy,if_pos hm1];simp);rw[h41]at h2;cases h2
 exact MQ (by rw[lZ,if_neg (by rw[h19,decide_eq_false (by omega)];decide),if_neg hb]);refine nx J6 (aa λ_ J23=>CN (bg (aC (aC (bD (af J4 (sr λ_ J24=>P2 ?_)))))));refine FA 9 db bj ?_;refine LZ 1 ez bj am s.own ?_ (hc:=by exact λ_=>L5 _);refine XZ vS (ints RowT.zero.flat) λb9=>?_
 refine SW 0 bj am ?_;refine nx J24 (aa λ_ J25=>sr λ_ J26=>PS ?_);refine tp (dW rfl kE rfl hlud) ?_;refine PS ?_;refine nx J26 (av ?_)
 refine bG (α:=(Nat)×(RowT)) (λ⟨q,y⟩=>q≤(bF s).length∧y=ql s ((bF s).take q)) (λ⟨q,y⟩=>[(0,(.pointer (some ⟨r,0,none⟩))),(1,(.iface V.T V.ov)),(4,ud),(9,(.pointer (some ⟨b9,0,none⟩))),(49,ud),(50,(.int .i64 ((((bF s).length:Nat):Int)))),(51,(.int .i64 (((q:Nat):Int))))]) (λ⟨q,y⟩=>[an b9 (ints y.flat) 51,own ud ((bF s).length) (ints (bF s)) 3 1,cK V r s]) (λ⟨q,y⟩=>(bF s).length-q) (0,s.own)
     ⟨aP _,rfl⟩ SB
     (λ_ s=>ao [0,0,0] rfl s) (λ⟨q,y⟩ hinv=>?_)
 obtain⟨hq,hy⟩:=hinv;refine sr λ_ J27=>PS ?_
 refine aq ?_ ?_<;>intro h52;refine nx J27 (aa λ_ J28=>CY (qx J28 (aa λ_ J29=>av (sr λ_ J30=>?_))));have hmm2:(bF s).getD q 0∈bF s:=by rw[List.getD_eq_getElem?_getD,List.getElem?_eq_getElem (by omega)];exact eg _
 have hm2:cw ((bF s).getD q 0)=true:=(xv hmm2).1;have hn2:0≤(bF s).getD q 0∧(bF s).getD q 0<5:=of_decide_eq_true hm2;refine kl 1 rfl rfl (by omega) (λge1 ce1 he1 _=>tp (ca (r:=q) he1 rfl kE aQ rfl rfl (by omega) (by omega) (by omega)) ?_);refine tp (de (v:=(.int .i64 (((bF s).getD q 0)))) rfl Y3 rfl rfl (gO 1 rfl he1 rfl) (xm (by omega))) ?_;refine PS ?_;refine nx J30 (aa λ_ J31=>sr λ_ J32=>PS ?_);refine FA 29 ez gK ?_;refine IX (29+(((bF s).getD q 0)).toNat) mX aQ ?_;refine LT 0 Y3 (.int .i64 ((y.heir[(((bF s).getD q 0)).toNat]'(by omega)))) ?_ (hc:=by exact sa y ((((bF s).getD q 0)).toNat) (by omega) (by omega) (kG y.heir (by omega)));refine PS ?_;refine aq ?_ ?_<;>intro h59;refine nx J32 (CY (bg (aC (bD (af J29 (ag (AD ?_)))))));refine PS ?_;refine ax ?_
 exact aN ((q+1,y):(Nat)×(RowT)) ⟨by omega,by rw[uY s (by omega),←hy,if_pos (by rw[gp,dif_pos hm2];exact h59)]⟩ (by show(bF s).length- (q+1)< (bF s).length-q;omega)
   SB
   (λ_ s=>ao [0,0,0] rfl s)
 refine nx J32 (CN (qx J31 (aa λ_ J33=>fo (α:=(Nat)) (λ_=>True) (λb12=>[(0,(.pointer (some ⟨r,0,none⟩))),(1,(.iface V.T V.ov)),(4,ud),(9,(.pointer (some ⟨b9,0,none⟩))),(12,(.pointer (some ⟨b12,0,none⟩))),(13,(.int .i64 ((dU y ((bF s).getD q 0) (s.last[(((bF s).getD q 0)).toNat]'(by omega))).2))),(49,ud),(50,(.int .i64 ((((bF s).length:Nat):Int)))),(51,(.int .i64 (((q:Nat):Int))))]) (λb12=>[an b12 (ints ((dU y ((bF s).getD q 0) (s.last[(((bF s).getD q 0)).toNat]'(by omega))).1).flat) 51,an b9 (ints y.flat) 51,own ud ((bF s).length) (ints (bF s)) 3 1,cK V r s]) (λb12 _=>?_) (λtl33=>?_))));refine af J33 (aa λ_ J34=>sr λ_ J35=>P2 ?_);refine aq ?_ ?_<;>intro h73
 · exact absurd (MC hm2 (by rw[gp,dif_pos hm2];exact h59)) h73
 refine nx J35 (CN (qx J34 (ag (LW 0 ez bj am ?_))));refine SW 1 bj am ?_;refine ax (ah (af J29 (ag (AD ?_))));refine PS ?_;refine ax ?_
 exact aN ((q+1,(dU y ((bF s).getD q 0) (s.last[(((bF s).getD q 0)).toNat]'(by omega))).1):(Nat)×(RowT)) ⟨by omega,by rw[uY s (by omega),←hy,if_neg (by rw[gp,dif_pos hm2];exact h59),n5,dif_pos hm2]⟩ (by show(bF s).length- (q+1)< (bF s).length-q;omega)
   SB
   (λ_ s=>ao [1,1,1] rfl s)
 refine DC bo (BL 0) (cV 2 rfl rfl) ?_;refine LY 0 ez bj am ?_;refine PD 1 ?_;refine PD 2 ?_;refine PD 3 ?_;refine PD 4 ?_;refine FD 5 1948 db tT ?_;refine IY 6 (1948+((((bF s).getD q 0)).toNat)*174) HT bj ?_;refine ta 7 rfl (gD (vs:=ints (s.last[(((bF s).getD q 0)).toNat]'(by omega)).flat) rfl ez rfl bj rfl (λ_ h=>h.2.2.1) (am (s.last[(((bF s).getD q 0)).toNat]'(by omega))) (λa_=>(RepT.sub_last (s.rep a_) (((((bF s).getD q 0)).toNat)*174) (by omega) (by omega) (kT dD ((s.rep a_).last) (i:=(((bF s).getD q 0)).toNat) 0 (by omega) (by omega) (by decide) (bn (am (((s.rep a_).last)[(((bF s).getD q 0)).toNat]'(by omega)))))))) ?_;refine cQ [8,12] (by kernel_rfl) rfl (aH rfl ?_ ?_);refine CE Lz (pw y ((bF s).getD q 0) (s.last[(((bF s).getD q 0)).toNat]'(by omega))) ID ?_;refine EN (PD 9 ?_);refine PD 10 ?_;refine PD 11 ?_;refine AL 12 ?_;refine XZ vS (ints RowT.zero.flat) λb12=>?_
 refine EN (AL 13 ?_);refine SW 0 bj am ?_;refine EN (PD 14 ?_);refine DN ?_
 exact aG
   SB
   (λ_ s=>s)
   (tl33 ((b12):(Nat)) trivial)
 refine aH rfl ?_ ?_;refine XZ vS (ints RowT.zero.flat) λb12=>?_
 refine EN (AL 8 ?_);refine CE Lz (pw y ((bF s).getD q 0) (s.last[(((bF s).getD q 0)).toNat]'(by omega))) ID ?_;refine EN (PD 9 ?_);refine PD 10 ?_;refine PD 11 ?_;refine AL 13 ?_;refine SW 0 bj am ?_;refine EN (PD 14 ?_);refine DN ?_
 exact aG
   SB
   (λ_ s=>s)
   (tl33 ((b12):(Nat)) trivial)
 exact bL;refine nx J27 (aa λ_ J36=>CN (bg (aC (aC (bD (af J25 (ag ?_)))))));have hoy:OkRow y:=by rw[hy];exact inferInstance
 refine P2 ?_;refine LW 0 ez bj am ?_;refine CE Mu (rQ V r s y 0) (SM [2]) ?_;refine ax (WK [0] (bE rfl ?_));obtain rfl:k=(bF s).length:=by omega
 obtain rfl:q=(bF s).length:=by omega
 have hb:vC s=true:=List.all_eq_true.2 λi hi=>List.all_eq_true.2 λw hw=>by
   obtain⟨j,hj,rfl⟩:=fB hi;have h2:=hal j (by omega) w;rw[List.getD_eq_getElem?_getD,List.getElem?_eq_getElem hj]at h2;exact h2 hw
 rw[ko]at hy;subst hy;exact MQ (by rw[lZ,if_neg (by rw[h19,decide_eq_false (by omega)];decide),if_pos hb])
theorem yq{δ:Type}(V:Env δ)(r:Nat)(s:MS δ)[OkR V.toDk s](hrs:s.replies.length≤1000000):
 DT 135 #[(.pointer (some ⟨r,0,none⟩)),(.iface V.T V.ov)] T0 [cK V r s] (dL (λ_ H=>H=[cK V r (ld V.toDk s)])):=by
 refine BD 43 Tryz.func135 rfl rfl rfl λw0 F hF=>sr λ_ J1=>P2 ?_
 refine FA 1938 db lm ?_;refine SK 0 lm (λ_=>cU _) ?_ (hc:=by exact λa_=>(P5 _ rfl _));refine nx J1 (aa λ_ J2=>fo (α:=Unit) (λ_u=>True) (λ_u=>[(0,(.pointer (some ⟨r,0,none⟩))),(1,(.iface V.T V.ov))]) (λ_u=>[cK V r (hJ s)]) (λ_u hinv=>?_) (λtl2=>?_));have _:=hinv;refine af J2 (aa λ_ J3=>fo (α:=Unit) (λ_u=>True) (λ_u=>[(0,(.pointer (some ⟨r,0,none⟩))),(1,(.iface V.T V.ov))]) (λ_u=>[cK V r (lM (hJ s))]) (λ_u hinv=>?_) (λtl3=>?_));have _:=hinv;refine af J3 (sr λ_ J4=>P4 ?_);refine FA 9 db bj ?_;refine LZ 0 ez bj am ((lM (hJ s)).own) ?_ (hc:=by exact λ_=>L5 _);refine CZ Mq (m7 V r (lM (hJ s)) ((lM (hJ s)).own)) ID λvR=>?_
 refine nx J4 (ag (P2 ?_));refine CZ KC (pm V r (lC V.toDk (lM (hJ s)) ((lM (hJ s)).own))) ID λvR=>?_
 exact ax (WK [0] (bE rfl rfl));refine sr λ_ J5=>P2 ?_
 refine FA 1940 db aQ ?_;refine LG 0 Y3 (.int .i64 ((hJ s).waits)) ?_ (hc:=by exact λa_=>(RepT.at_waits _ rfl));refine PS ?_;refine aq ?_ ?_<;>intro h23;refine nx J5 (CY (sr λ_ J6=>P3 ?_));refine FA 1940 db aQ ?_;refine LG 0 Y3 (.int .i64 ((hJ s).waits)) ?_ (hc:=by exact λa_=>(RepT.at_waits _ rfl));refine CZ uj (fi V r (hJ s) ((hJ s).waits) 0 0 hrs) ID λvR=>?_
 refine nx J6 (ag (P2 ?_));refine FA 1940 db aQ ?_;refine SK 0 aQ (λ_=>cU _) ?_ (hc:=by exact λa_=>(RepT.set_waits _ rfl _));refine ax ?_
 exact aG
  SB
  (λ_ q=>by
   rw[yL h23]
   exact ao [0] rfl q)
  (tl3 (():Unit) trivial)
 refine nx J5 (CN (aT ?_))
 exact aG
  SB
  (λ_ q=>by
   rw[yM h23]
   exact ao [0] rfl q)
  (tl3 (():Unit) trivial)
 refine D0 bo ?_;refine PD 0 ?_;refine PD 1 ?_;refine FD 2 1068 db BI ?_;refine PD 3 ?_;refine PD 4 ?_;refine FD 5 0 db aQ ?_;refine PD 7 ?_;refine PD 8 ?_;refine FD 9 9 db bj ?_;refine cQ [6,10] (by kernel_rfl) rfl (aH rfl ?_ ?_);refine LG 0 Y3 (.int .i64 (s.id)) ?_ (hc:=by exact λa_=>(cF _ rfl));refine EN (AL 10 ?_);refine LZ 0 ez bj am s.own ?_ (hc:=by exact λ_=>L5 _);refine EN (AL 11 ?_);refine CE I3 (Leg.Does.hid (λa_=>nr r 1068 94 _ (gC ((MS.setBusy s false).rep a_)) (MS.setBusy s false).book s.id s.own (Ou inferInstance))) ID ?_;refine EN (DN ?_)
 exact aG
  SB
  (λ_ s=>ao [0] rfl s)
  (tl2 (():Unit) trivial)
 refine aH rfl ?_ ?_;refine LZ 0 ez bj am s.own ?_ (hc:=by exact λ_=>L5 _);refine EN (AL 6 ?_);refine LG 0 Y3 (.int .i64 (s.id)) ?_ (hc:=by exact λa_=>(cF _ rfl));refine EN (AL 11 ?_);refine CE I3 (Leg.Does.hid (λa_=>nr r 1068 94 _ (gC ((MS.setBusy s false).rep a_)) (MS.setBusy s false).book s.id s.own (Ou inferInstance))) ID ?_;refine EN (DN ?_)
 exact aG
  SB
  (λ_ s=>ao [0] rfl s)
  (tl2 (():Unit) trivial)
 exact bL
theorem wi{δ:Type}(V:Env δ)(r:Nat)(s:MS δ)(from':Int)(m:MsgT)[OkR V.toDk s](hrs:s.replies.length≤1000000):
 DT 99 #[(.pointer (some ⟨r,0,none⟩)),(.iface V.T V.ov),(.int .i64 (from')),(.agg (ints m.flat).toArray)] T0 [cK V r s] (dL (λ_ H=>H=[cK V r (dy V.toDk s from' m)])):=by
 refine BD 64 Tryz.func99 rfl rfl rfl λw0 F hF=>?_
 have hid:cw s.id=true:=OkR.id;have hid2:0≤s.id∧s.id<5:=of_decide_eq_true hid;refine sr λ_ J1=>XY (ints m.flat) λb7=>?_
 refine nx J1 (sr λ_ J2=>P2 ?_);refine FA 0 db aQ ?_;refine LG 1 Y3 (.int .i64 (s.id)) ?_ (hc:=by exact λa_=>(cF _ rfl));refine CR IS (qI s.id hid) ID λvR HR hR=>?_
 obtain⟨_,rfl,rfl⟩:=hR;revert vR;intro uw;refine kj 0 rfl rfl (λhluw _=>kl 0 rfl rfl (by omega) (λgw capw hvw hcapw=>PS ?_));refine nx J2 (aa λ_ J3=>aa λ_ J4=>DC bo (cV 2 rfl rfl) (BL 1) ?_);refine PD 0 ?_;refine PD 1 ?_;refine FD 2 1938 db lm ?_;refine ta 3 rfl (df (v:=(.bool (s.busy))) rfl Y4 rfl rfl (λ_ h=>h.2.1) (λa_=>(yy _ rfl))) ?_;refine rZ ?_ ?_<;>intro h19;refine PD 4 ?_;refine PD 5 ?_;refine FD 6 176 bi aQ ?_;refine LR 7 Y3 (MsgT.at_version m rfl) ?_;refine PD 8 ?_;refine PD 9 ?_;refine FD 10 9 db bj ?_;refine FD 11 9 ez aQ ?_;refine tb 12 rfl (df (v:=(.int .i64 (s.own.version))) rfl Y3 rfl rfl (λ_ h=>h.2.1) (λa_=>(RepT.pt_own (s.rep a_) 0 rfl (by decide) (cJ _ rfl)))) ?_;refine PD 13 ?_;refine jT ?_ ?_<;>intro h29;refine PD 14 ?_;refine PD 15 ?_;refine NT 16 ?_;refine NT 17 ?_;refine NT 18 ?_;refine NT 19 ?_;refine PD 20 ?_;refine DN (af J4 (CY (ak (ae (WK [2] (dM rfl ?_))))));have ew:iy s.id=[(s.id+1)%5,(s.id+2)%5]:=by rw[iy,if_pos hid]
 have e:lF s from' m.version=false:=by rw[lF,ew,decide_eq_false h29,ik,kq]
 exact congrArg (λq=>[cK V r q]) (show s=dy V.toDk s from' m by rw[dy,e];rfl);refine PD 14 ?_;refine PD 15 ?_;refine PD 16 ?_;refine PD 17 ?_;refine AL 18 ?_;refine CF Lu (rc uw [(s.id+1)%5,(s.id+2)%5] from' (by decide:2≤1000000)) ID (F9 (l:=[(s.id+1)%5,(s.id+2)%5]) 0 rfl rfl) ?_;refine aq ?_ ?_<;>intro h34;have hmem:=h34;simp only[bV,List.not_mem_nil,or_false]at hmem;have hfr:0≤from'∧from'<5:=by omega
 refine EN (PD 19 ?_);refine PD 20 ?_;refine DN (af J4 (CN (qx J3 (aa λ_ J5=>D0 bo ?_))));refine PD 0 ?_;refine PD 1 ?_;refine FD 2 1939 db aQ ?_;refine PD 4 ?_;refine ta 5 rfl (yz (r:=(cn from')) rfl rfl rfl (by omega) rfl) ?_;refine AL 3 ?_;refine LG 2 Y3 (.int .i64 (s.kept)) ?_ (hc:=by exact λa_=>(sd _ rfl));refine EN (ta 6 rfl (JM (r:=(gH .i64 s.kept (cn from'))) rfl rfl rfl rfl) ?_);refine PD 7 ?_;refine FD 8 1939 db aQ ?_;refine AL 9 ?_;refine SK 2 aQ (λ_=>cU _) ?_ (hc:=by exact λa_=>(P0 _ rfl _));refine EN (DN (af J5 (aa λ_ J6=>sr λ_ J7=>PS ?_)));refine tp (dW rfl kE rfl hluw) ?_;refine PS ?_;refine nx J7 (av (sh 2 (sr λ_ J8=>PS ?_)));refine nx J8 (aa λ_ J9=>CY (qx J9 (aa λ_ J10=>av (sr λ_ J11=>tp (ca (r:=0) hvw rfl kE aQ rfl rfl (by omega) (by omega) rfl) ?_))));refine tp (de (v:=(.int .i64 (((s.id+1)%5)))) rfl Y3 rfl rfl (gO 0 rfl hvw rfl) rfl) ?_;refine PS ?_;refine nx J11 (sr λ_ J12=>P2 ?_);refine FA 1939 db aQ ?_;refine LG 2 Y3 (.int .i64 ((gH .i64 s.kept (cn from')))) ?_ (hc:=by exact λa_=>(sd _ rfl));refine PS ?_;refine tp (l7 (r:=((gH .i64 s.kept (cn from')).fdiv (2^min (((s.id+1)%5)).toNat IntKind.i64.bits))) rfl rfl rfl (by omega) rfl) ?_;refine tp (vA (r:=(((gH .i64 s.kept (cn from')).fdiv (2^min (((s.id+1)%5)).toNat IntKind.i64.bits))%2)) rfl rfl rfl (mask (k:=1) (by decide) _)) ?_;refine PS ?_;refine aq ?_ ?_<;>intro h59
 refine nx J12 (CY (ak (aI (ae (ae (aI (ae (WK [2] (dM rfl ?_)))))))));have ew:iy s.id=[(s.id+1)%5,(s.id+2)%5]:=by rw[iy,if_pos hid]
 have e:lF s from' m.version=true:=by rw[lF,h19,ew,decide_eq_true (show m.version=s.own.version by omega),decide_eq_true h34];rfl
 have e2:xp (iY s from')=false:=by rw[xp,show iy (iY s from').id=[(s.id+1)%5,(s.id+2)%5]from ew];simp only[List.all_cons,List.all_nil,Bh,iY, *,decide_true,decide_false,Qa,OG,Qb,ny,ik,kq]
 exact congrArg (λq=>[cK V r q]) (show(MS.setKept s (gH .i64 s.kept (cn from')))=dy V.toDk s from' m by rw[dy,e,e2];rfl);refine nx J12 (CN (aT (ah (af J10 (ag (tp (cG (r:=1) rfl rfl rfl (by decide)) ?_))))));refine PS ?_;refine ax (eM (sr λ_ J13=>PS ?_));refine nx J13 (aa λ_ J14=>CY (qx J14 (aa λ_ J15=>av (sr λ_ J16=>tp (ca (r:=1) hvw rfl kE aQ rfl rfl (by omega) (by omega) rfl) ?_))));refine tp (de (v:=(.int .i64 (((s.id+2)%5)))) rfl Y3 rfl rfl (gO 0 rfl hvw rfl) rfl) ?_;refine PS ?_;refine nx J16 (sr λ_ J17=>P2 ?_);refine FA 1939 db aQ ?_;refine LG 2 Y3 (.int .i64 ((gH .i64 s.kept (cn from')))) ?_ (hc:=by exact λa_=>(sd _ rfl));refine PS ?_;refine tp (l7 (r:=((gH .i64 s.kept (cn from')).fdiv (2^min (((s.id+2)%5)).toNat IntKind.i64.bits))) rfl rfl rfl (by omega) rfl) ?_;refine tp (vA (r:=(((gH .i64 s.kept (cn from')).fdiv (2^min (((s.id+2)%5)).toNat IntKind.i64.bits))%2)) rfl rfl rfl (mask (k:=1) (by decide) _)) ?_;refine PS ?_;refine aq ?_ ?_<;>intro h59;refine nx J17 (CY (ak (aI (ae (ae (aI (ae (WK [2] (dM rfl ?_)))))))));have ew:iy s.id=[(s.id+1)%5,(s.id+2)%5]:=by rw[iy,if_pos hid]
 have e:lF s from' m.version=true:=by rw[lF,h19,ew,decide_eq_true (show m.version=s.own.version by omega),decide_eq_true h34];rfl
 have e2:xp (iY s from')=false:=by rw[xp,show iy (iY s from').id=[(s.id+1)%5,(s.id+2)%5]from ew];simp only[List.all_cons,List.all_nil,Bh,iY, *,decide_true,decide_false,Qa,OG,Qb,ny,ik,kq]
 exact congrArg (λq=>[cK V r q]) (show(MS.setKept s (gH .i64 s.kept (cn from')))=dy V.toDk s from' m by rw[dy,e,e2];rfl);refine nx J17 (CN (aT (ah (af J15 (ag (tp (cG (r:=2) rfl rfl rfl (by decide)) ?_))))));refine PS ?_;refine ax (eM (sr λ_ J18=>PS ?_));refine nx J18 (aa λ_ J19=>CN (bg (aC (aC (bD (af J6 (ag (P2 ?_))))))));refine CZ N0 (yq V r (iY s from') hrs) (SM [2]) λvR=>?_
 refine ax (WK [0] (bE rfl ?_));have ew:iy s.id=[(s.id+1)%5,(s.id+2)%5]:=by rw[iy,if_pos hid]
 have e:lF s from' m.version=true:=by rw[lF,h19,ew,decide_eq_true (show m.version=s.own.version by omega),decide_eq_true h34];rfl
 have e2:xp (iY s from')=true:=by rw[xp,show iy (iY s from').id=[(s.id+1)%5,(s.id+2)%5]from ew];simp only[List.all_cons,List.all_nil,Bh,iY, *,decide_true,decide_false,Qa,OG,Qb,ny,ik,kq]
 exact congrArg (λq=>[cK V r q]) (show(ld V.toDk (iY s from'))=dy V.toDk s from' m by rw[dy,e,e2];rfl);refine EN (PD 19 ?_);refine PD 20 ?_;refine DN (af J4 (CY (ak (ae (WK [2] (dM rfl ?_))))));have ew:iy s.id=[(s.id+1)%5,(s.id+2)%5]:=by rw[iy,if_pos hid]
 have e:lF s from' m.version=false:=by rw[lF,ew,decide_eq_false h34];simp
 exact congrArg (λq=>[cK V r q]) (show s=dy V.toDk s from' m by rw[dy,e];rfl);refine PD 4 ?_;refine PD 5 ?_;refine NT 6 ?_;refine NT 7 ?_;refine NT 8 ?_;refine NT 9 ?_;refine NT 10 ?_;refine NT 11 ?_;refine NT 12 ?_;refine NT 13 ?_;refine PD 14 ?_;refine PD 15 ?_;refine NT 16 ?_;refine NT 17 ?_;refine NT 18 ?_;refine NT 19 ?_;refine PD 20 ?_;refine DN (af J4 (CY (ak (ae (WK [2] (dM rfl ?_))))));have ew:iy s.id=[(s.id+1)%5,(s.id+2)%5]:=by rw[iy,if_pos hid]
 have e:lF s from' m.version=false:=by rw[lF,ew,h19];simp
 exact congrArg (λq=>[cK V r q]) (show s=dy V.toDk s from' m by rw[dy,e];rfl)
theorem xW{δ:Type}(V:Env δ)(r:Nat)(s:MS δ)(from':Int)(m:MsgT)[OkR V.toDk s][OkMg m](hto:from'≠s.id):
 DT 98 #[(.pointer (some ⟨r,0,none⟩)),(.iface V.T V.ov),(.int .i64 (from')),(.agg (ints m.flat).toArray)] T0 [cK V r s] (dL (λ_ H=>H=[cK V r (iE V.toDk s from' m)])):=by
 refine BD 56 Tryz.func98 rfl rfl rfl λw0 F hF=>sr λ_ J1=>XY (ints m.flat) λb7=>?_
 refine nx J1 (aa λ_ J2=>aa λ_ J3=>D1 0 bo ?_);refine FD 0 1 bi aQ ?_;refine LR 1 Y3 (cu m rfl) ?_;refine PD 2 ?_;refine PD 3 ?_;refine jT ?_ ?_<;>intro h11;refine PD 4 ?_;refine NT 5 ?_;refine NT 6 ?_;refine NT 7 ?_;refine NT 8 ?_;refine NT 9 ?_;refine NT 10 ?_;refine PD 11 ?_;refine DN (af J3 (CY (ak (ae (WK [1] (dM rfl ?_))))));exact congrArg (λq=>[cK V r q]) (show _=iE V.toDk s from' m from(if_pos (.inl (by omega))).symm);refine PD 4 ?_;refine PD 5 ?_;refine PD 6 ?_;refine FD 7 183 db wl ?_;refine FD 8 1 bi aQ ?_;refine LR 9 Y3 (cu m rfl) ?_;refine AL 10 ?_;refine CE Ns (Leg.Does.hid (λa_=>qj r 183 94 _ (fp (s.rep a_)) s.mirror m.whose)) (SM [1]) ?_;refine bh ?_ ?_<;>intro h18;refine EN (PD 11 ?_);refine DN (af J3 (CY (ak (ae (WK [0] (dM rfl ?_))))));exact congrArg (λq=>[cK V r q]) (show _=iE V.toDk s from' m from(if_pos (.inr h18)).symm);refine EN (PD 11 ?_);refine DN (af J3 (CN (qx J2 (aa λ_ J4=>aa λ_ J5=>D1 1 bo ?_))));refine PD 0 ?_;refine PD 1 ?_;refine FD 2 183 db wl ?_;refine FD 3 1 bi aQ ?_;refine LR 4 Y3 (cu m rfl) ?_;refine FD 5 2 bi bj ?_;refine ta 6 rfl (aL (vs:=ints m.row.flat) rfl ez rfl bj rfl (λ_ h=>h.2.1) (am m.row) (mo m 0 rfl (by decide) (bn (am m.row)))) ?_;refine AL 7 ?_;refine CE Lw (Leg.Does.hid (λa_=>q6 r 183 94 _ (fp (s.rep a_)) s.mirror m.whose m.row (Ou inferInstance))) ID ?_;refine bh ?_ ?_<;>intro h27;refine EN (DN (af J5 (CY (aa λ_ J6=>sr λ_ J7=>PS ?_))))
 refine FA 1 bi aQ ?_;refine LU 1 Y3 (cu m rfl) ?_;refine FA 2 bi bj ?_;refine LV 1 ez bj am MsgT.sp_row (y:=m.row) ?_;refine tp (lu RecT.zero (RecT.mk 1 m.whose m.row 0 BallotT.zero ChangeT.zero ViewT.zero) [(0,[Value.int .i64 1]),(1,[Value.int .i64 m.whose]),(2,ints m.row.flat)] eC fq (g:=RecT.sg)) ?_;refine CE EG (lD V r s (j6 m.whose m.row)) ID ?_;refine PS ?_;refine aq ?_ ?_<;>intro h35;refine nx J7 (CY (ak (ae (ae (WK [0] (dM rfl ?_))))));have hn: ¬(m.whose≠from'∨gL s.mirror m.whose=true):=λh=>h.elim (λh=>by omega) (λh=>by rw[h18]at h;cases h)
 exact MQ (by rw[iE,if_neg hn,if_pos h27,if_pos h35]<;>rfl);refine nx J7 (CN (qx J6 (D1 1 bo ?_)));refine PD 0 ?_;refine PD 1 ?_;refine FD 2 183 db wl ?_;refine FD 3 1 bi aQ ?_;refine LR 4 Y3 (cu m rfl) ?_;refine FD 5 2 bi bj ?_;refine ta 6 rfl (aL (vs:=ints m.row.flat) rfl ez rfl bj rfl (λ_ h=>h.2.1) (am m.row) (mo m 0 rfl (by decide) (bn (am m.row)))) ?_;refine AL 7 ?_;refine CE No (Leg.Does.hid (λa_=>sX r 183 94 _ (fp ((dE V.toDk s (j6 m.whose m.row)).rep a_)) (dE V.toDk s (j6 m.whose m.row)).mirror m.whose m.row (Ou inferInstance))) ID ?_;refine EN (DN (af J4 (D1 1 bo ?_)));refine PD 0 ?_;refine PD 1 ?_;refine PD 2 ?_;refine PD 3 ?_;refine PD 4 ?_;refine FD 5 183 db wl ?_;refine FD 6 1 bi aQ ?_;refine LR 7 Y3 (cu m rfl) ?_;refine AL 8 ?_;refine CE Kz (Leg.Does.hid (λa_=>nN r 183 94 _ (fp ((iO (dE V.toDk s (j6 m.whose m.row)) m.whose m.row).rep a_)) (iO (dE V.toDk s (j6 m.whose m.row)) m.whose m.row).mirror m.whose)) ID ?_;refine EN (ta 9 rfl (PV.field1 (cs:=ints (eI (iO (dE V.toDk s (j6 m.whose m.row)) m.whose m.row).mirror m.whose).flat) (v:=Value.int .i64 ((eI (iO (dE V.toDk s (j6 m.whose m.row)) m.whose m.row).mirror m.whose).version)) rfl ez rfl Y3 rfl rfl (cJ _ rfl)) ?_)
 refine ta 10 rfl (lu MsgT.zero (MsgT.mk 1 0 RowT.zero ((eI (iO (dE V.toDk s (j6 m.whose m.row)) m.whose m.row).mirror m.whose).version) 0 BallotT.zero BallotT.zero ChangeT.zero ViewT.zero) [(0,[Value.int .i64 1]),(3,[Value.int .i64 ((eI (iO (dE V.toDk s (j6 m.whose m.row)) m.whose m.row).mirror m.whose).version)])] bi bv (g:=MsgT.sg)) ?_;refine AL 11 ?_;refine CZ jA (jN V r (iO (dE V.toDk s (j6 m.whose m.row)) m.whose m.row) from' (qO (eI (iO (dE V.toDk s (j6 m.whose m.row)) m.whose m.row).mirror m.whose).version) hto) ID λvR=>?_
 refine EN (DN (WK [0] (bE rfl ?_)));have hn: ¬(m.whose≠from'∨gL s.mirror m.whose=true):=λh=>h.elim (λh=>by omega) (λh=>by rw[h18]at h;cases h)
 exact MQ (by rw[iE,if_neg hn,if_pos h27,if_neg h35]<;>rfl);refine EN (DN (af J5 (CN (qx J4 (D1 1 bo ?_)))));refine PD 0 ?_;refine PD 1 ?_;refine PD 2 ?_;refine PD 3 ?_;refine PD 4 ?_;refine FD 5 183 db wl ?_;refine FD 6 1 bi aQ ?_;refine LR 7 Y3 (cu m rfl) ?_;refine AL 8 ?_;refine CE Kz (Leg.Does.hid (λa_=>nN r 183 94 _ (fp (s.rep a_)) s.mirror m.whose)) ID ?_;refine EN (ta 9 rfl (PV.field1 (cs:=ints (eI s.mirror m.whose).flat) (v:=Value.int .i64 ((eI s.mirror m.whose).version)) rfl ez rfl Y3 rfl rfl (cJ _ rfl)) ?_);refine ta 10 rfl (lu MsgT.zero (MsgT.mk 1 0 RowT.zero ((eI s.mirror m.whose).version) 0 BallotT.zero BallotT.zero ChangeT.zero ViewT.zero) [(0,[Value.int .i64 1]),(3,[Value.int .i64 ((eI s.mirror m.whose).version)])] bi bv (g:=MsgT.sg)) ?_;refine AL 11 ?_;refine CZ jA (jN V r s from' (qO (eI s.mirror m.whose).version) hto) ID λvR=>?_
 refine EN (DN (WK [0] (bE rfl ?_)));have hn: ¬(m.whose≠from'∨gL s.mirror m.whose=true):=λh=>h.elim (λh=>by omega) (λh=>by rw[h18]at h;cases h)
 exact MQ (by rw[iE,if_neg hn,if_neg (by rw[h27];decide)]<;>rfl)
theorem ol{δ:Type}(V:Env δ)(r:Nat)(s:MS δ)(from':Int)(m:MsgT)[OkR V.toDk s][OkMg m]:
 DT 103 #[(.pointer (some ⟨r,0,none⟩)),(.iface V.T V.ov),(.int .i64 (from')),(.agg (ints m.flat).toArray)] T0 [cK V r s] (dL (λ_ H=>H=[cK V r (fD V.toDk s from' m)])):=by
 refine BD 59 Tryz.func103 rfl rfl rfl λw0 F hF=>sr λ_ J1=>XY (ints m.flat) λb7=>?_
 refine nx J1 (aa λ_ J2=>fo (α:=Unit) (λ_u=>True) (λ_u=>[(0,(.pointer (some ⟨r,0,none⟩))),(1,(.iface V.T V.ov))]) (λ_u=>[cK V r (if from'∈iy m.whose then uC s from' m.whose m.row else s)]) (λ_u hinv=>?_) (λtl2=>?_));have _:=hinv;refine af J2 (ag (P2 ?_));refine CZ KC (pm V r (if from'∈iy m.whose then uC s from' m.whose m.row else s)) ID λvR=>?_
 exact ax (WK [0] (bE rfl rfl));refine sr λ_ J3=>FA 1 bi aQ ?_
 refine LU 0 Y3 (cu m rfl) ?_;refine CR IS (pW m.whose) ID λvR HR hR=>?_
 obtain⟨_,rfl,rfl⟩:=hR;revert vR;intro uw;refine PS ?_;refine CF Lu (rc uw (iy m.whose) from' (H7 m.whose)) ID (F9 (l:=(iy m.whose)) 0 rfl rfl) ?_;refine aq ?_ ?_<;>intro h12
 have hm:cw m.whose=true:=by
  unfold iy at h12;split at h12
  · assumption
  · cases h12
 have hm2:0≤m.whose∧m.whose<5:=of_decide_eq_true hm;have hta:rl s m.whose=s.told[m.whose.toNat]'(by omega):=by rw[rl,dif_pos hm]
 have hla:n5 s m.whose=s.last[m.whose.toNat]'(by omega):=by rw[n5,dif_pos hm]
 have hf:0≤from'∧from'<5:=by
  rw[iy,if_pos hm]at h12;simp only[bV,List.not_mem_nil,or_false]at h12;omega
 refine nx J3 (CY (aa λ_ J4=>fo (α:=Unit) (λ_u=>True) (λ_u=>[(0,(.pointer (some ⟨r,0,none⟩))),(1,(.iface V.T V.ov)),(2,(.int .i64 (from'))),(7,(.pointer (some ⟨b7,0,none⟩)))]) (λ_u=>[cK V r (lY s m.whose m.row),an b7 (ints m.flat) 136]) (λ_u hinv=>?_) (λtl4=>?_)));have _:=hinv;refine af J4 (D1 1 bo ?_);refine PD 0 ?_;refine FD 1 1 bi aQ ?_;refine LR 2 Y3 (cu m rfl) ?_;refine PD 3 ?_;refine FD 4 1943 db gK ?_;refine IY 5 (1943+(m.whose).toNat) mX aQ ?_;refine PD 7 ?_;refine ta 8 rfl (yz (r:=(cn from')) rfl rfl rfl (by omega) rfl) ?_;refine PD 10 ?_;refine FD 11 1943 db gK ?_;refine AL 6 ?_;refine LG 0 Y3 (.int .i64 ((((lY s m.whose m.row).told)[(m.whose).toNat]'(by omega)))) ?_ (hc:=by exact λa_=>(Qr ((lY s m.whose m.row).rep a_) ((m.whose).toNat) (by omega) (by omega) (kG (((lY s m.whose m.row).rep a_).told) (by omega))));refine EN (ta 9 rfl (JM (r:=(gH .i64 (s.told[m.whose.toNat]'(by omega)) (cn from'))) rfl rfl rfl rfl) ?_);refine IY 12 (1943+(m.whose).toNat) mX aQ ?_;refine AL 13 ?_;refine SK 0 aQ (λ_=>cU _) ?_ (hc:=by exact λa_=>(RepT.st_told ((lY s m.whose m.row).rep a_) ((m.whose).toNat) (by omega) (by omega) (yO (((lY s m.whose m.row).rep a_).told) (by omega) _)));refine EN (DN ?_)
 exact aG
  SB
  (λ_ q=>by
   rw[if_pos h12,show uC s from' m.whose m.row= {lY s m.whose m.row with told:=s.told.set m.whose.toNat (gH .i64 (s.told[m.whose.toNat]'(by omega)) (cn from')) (by omega)}by rw[uC,B6,dif_pos hm,hta]]
   exact ao [0] rfl q)
  (tl2 (():Unit) trivial)
 refine aa λ_ J5=>DC bo (BL 1) (cV 2 rfl rfl) ?_
 refine PD 0 ?_;refine FD 1 1 bi aQ ?_;refine LR 2 Y3 (cu m rfl) ?_;refine PD 3 ?_;refine FD 4 1943 db gK ?_;refine IY 5 (1943+(m.whose).toNat) mX aQ ?_;refine ta 6 rfl (df (v:=(.int .i64 ((s.told[(m.whose).toNat]'(by omega))))) rfl Y3 rfl rfl (λ_ h=>h.2.2.1) (λa_=>(Qr (s.rep a_) ((m.whose).toNat) (by omega) (by omega) (kG ((s.rep a_).told) (by omega))))) ?_;refine PD 7 ?_;refine jT ?_ ?_<;>intro h20;refine PD 8 ?_;refine NT 9 ?_;refine NT 10 ?_;refine NT 11 ?_;refine NT 12 ?_;refine NT 13 ?_;refine NT 14 ?_;refine NT 15 ?_;refine NT 16 ?_;refine NT 17 ?_;refine NT 18 ?_;refine NT 19 ?_;refine NT 20 ?_;refine PD 21 ?_;refine DN (af J5 (CY (D1 1 bo ?_)));refine PD 0 ?_;refine FD 1 1 bi aQ ?_;refine LR 2 Y3 (cu m rfl) ?_;refine FD 3 2 bi bj ?_;refine ta 4 rfl (aL (vs:=ints m.row.flat) rfl ez rfl bj rfl (λ_ h=>h.2.1) (am m.row) (mo m 0 rfl (by decide) (bn (am m.row)))) ?_;refine PD 5 ?_;refine FD 6 1948 db tT ?_;refine IY 7 (1948+((m.whose).toNat)*174) HT bj ?_;refine AL 8 ?_;refine iw (vs:=ints m.row.flat) (i:=2) (ab rfl) rfl rfl rfl rfl rfl (by rw[(am m.row)];exact bj) (bB _) rfl rfl (λ_=>LC (cU _) (am _)) (λa_=>(RepT.wr_last_ (s.rep a_) (((m.whose).toNat)*174) (by omega) (by have h1:=(am m.row);omega) (wc dD ((s.rep a_).last) (i:=(m.whose).toNat) 0 (by omega) (by omega) (by have h1:=(am m.row);omega) (cr ((am (((s.rep a_).last)[(m.whose).toNat]'(by omega))).trans (am m.row).symm))))) (EN (DN ?_))
 exact aG
  SB
  (λ_ q=>by
   rw[show lY s m.whose m.row= {s with last:=s.last.set m.whose.toNat m.row (by omega)}by rw[lY,if_pos (.inl (hta.trans h20)),B6,dif_pos hm]]
   exact ao [2,1] rfl q)
  (tl4 (():Unit) trivial)
 refine PD 8 ?_;refine FD 9 2 bi bj ?_;refine FD 10 2 ez aQ ?_;refine LX 11 Y3 (.int .i64 (m.row.version)) ?_ (hc:=by exact MsgT.pt_row m 0 rfl (by decide) (cJ m.row rfl));refine PD 12 ?_;refine FD 13 1 bi aQ ?_;refine LR 14 Y3 (cu m rfl) ?_;refine PD 15 ?_;refine FD 16 1948 db tT ?_;refine IY 17 (1948+((m.whose).toNat)*174) HT bj ?_;refine tb 18 rfl (bl (r:=1948+((m.whose).toNat)*174) rfl ez rfl aQ rfl rfl) ?_;refine tb 19 rfl (df (v:=(.int .i64 ((s.last[(m.whose).toNat]'(by omega)).version))) rfl Y3 rfl rfl (λ_ h=>h.2.2.1) (λa_=>(RepT.pt_last (s.rep a_) (((m.whose).toNat)*174) (by omega) (by omega) (pq dD ((s.rep a_).last) (i:=(m.whose).toNat) 0 (by omega) (by omega) (by decide) (cJ _ rfl))))) ?_;refine PD 20 ?_;refine jT ?_ ?_<;>intro h33;refine PD 21 ?_;refine DN (af J5 (CY (D1 1 bo ?_)));refine PD 0 ?_;refine FD 1 1 bi aQ ?_;refine LR 2 Y3 (cu m rfl) ?_;refine FD 3 2 bi bj ?_;refine ta 4 rfl (aL (vs:=ints m.row.flat) rfl ez rfl bj rfl (λ_ h=>h.2.1) (am m.row) (mo m 0 rfl (by decide) (bn (am m.row)))) ?_;refine PD 5 ?_;refine FD 6 1948 db tT ?_;refine IY 7 (1948+((m.whose).toNat)*174) HT bj ?_;refine AL 8 ?_
 refine iw (vs:=ints m.row.flat) (i:=2) (ab rfl) rfl rfl rfl rfl rfl (by rw[(am m.row)];exact bj) (bB _) rfl rfl (λ_=>LC (cU _) (am _)) (λa_=>(RepT.wr_last_ (s.rep a_) (((m.whose).toNat)*174) (by omega) (by have h1:=(am m.row);omega) (wc dD ((s.rep a_).last) (i:=(m.whose).toNat) 0 (by omega) (by omega) (by have h1:=(am m.row);omega) (cr ((am (((s.rep a_).last)[(m.whose).toNat]'(by omega))).trans (am m.row).symm))))) (EN (DN ?_))
 exact aG
  SB
  (λ_ q=>by
   rw[show lY s m.whose m.row= {s with last:=s.last.set m.whose.toNat m.row (by omega)}by rw[lY,if_pos (.inr (by rw[hla];omega)),B6,dif_pos hm]]
   exact ao [2,1] rfl q)
  (tl4 (():Unit) trivial)
 refine PD 21 ?_;refine DN (af J5 (CN (aT ?_)))
 exact aG
  SB
  (λ_ q=>by
   rw[show lY s m.whose m.row= {s with last:=s.last}by rw[lY,if_neg (by rw[hta,hla];omega)]]
   exact ao [2,1] rfl q)
  (tl4 (():Unit) trivial)
 refine nx J3 (CN (aT ?_))
 exact aG
  SB
  (λ_ q=>by
   rw[if_neg h12]
   exact ao [2] rfl q)
  (tl2 (():Unit) trivial)
abbrev TK{δ:Type}(V:Env δ)(r f:Nat)(s:MS δ)(from':Int)(m:MsgT)(s':MS δ):Prop:=Leg.Does Tryz.prog f #[.pointer (some ⟨r,0,none⟩), .iface V.T V.ov, .int .i64 from', .agg (ints m.flat).toArray] (λ_=>True) [cK V r s] (dL (λ_ H=>H=[cK V r s']))
theorem oS{δ:Type}(V:Env δ)(r:Nat)(s s':MS δ)(from':Int)(m:MsgT)[OkMg m](h0:m.kind=0→TK V r 98 s from' m s')(h1:m.kind=1→TK V r 99 s from' m s')(h2:m.kind=2→Dy s m.whose m.row=s')(h7:m.kind=7→DT 101 #[.pointer (some ⟨r,0,none⟩), .iface V.T V.ov, .agg (ints m.view.flat).toArray] T0 [cK V r s] (dL (λv H=>(∃b,v= .bool b)∧H=[cK V r s'])))(h8:m.kind=8→TK V r 102 s from' m s')(h9:m.kind=9→TK V r 103 s from' m s')(hv:m.kind=3∨m.kind=4∨m.kind=5∨m.kind=6→TK V r 104 s from' m s')(hn:m.kind≠0∧m.kind≠1∧m.kind≠2∧m.kind≠7∧m.kind≠8∧m.kind≠9∧m.kind≠3∧m.kind≠4∧m.kind≠5∧m.kind≠6→s=s'):
 DT 62 #[(.pointer (some ⟨r,0,none⟩)),(.iface V.T V.ov),(.int .i64 (from')),(.agg (ints m.flat).toArray)] T0 [cK V r s] (dL (λ_ H=>H=[cK V r s'])):=by
 refine BD 65 Tryz.func62 rfl rfl rfl λw0 F hF=>sr λ_ J1=>XY (ints m.flat) λb7=>?_
 refine nx J1 (sr λ_ J2=>FA 0 bi aQ ?_);refine LU 0 Y3 (fa m rfl) ?_;refine nx J2 (av (sr λ_ J3=>PS ?_));refine aq ?_ ?_<;>intro h11;refine PS ?_;refine nx J3 (CY (ag (P3 ?_)));refine LW 0 bi ci aJ ?_;refine CZ Pe ((h0 h11)) (SM [1]) λvR=>?_
 exact ax (ah (WK [0] (bE rfl rfl)));refine PS ?_;refine nx J3 (CN (sr λ_ J4=>PS ?_));refine aq ?_ ?_<;>intro h18;refine PS ?_;refine nx J4 (CY (ag (P3 ?_)));refine LW 0 bi ci aJ ?_;refine CZ Pd ((h1 h18)) (SM [1]) λvR=>?_
 exact ax (ah (WK [0] (bE rfl rfl)));refine PS ?_;refine nx J4 (CN (sr λ_ J5=>PS ?_));refine aq ?_ ?_<;>intro h25;refine PS ?_;refine nx J5 (CY (D1 0 bo ?_));refine PD 0 ?_;refine PD 1 ?_;refine FD 2 1068 db BI ?_;refine FD 3 1 bi aQ ?_;refine LR 4 Y3 (cu m rfl) ?_;refine FD 5 2 bi bj ?_;refine ta 6 rfl (aL (vs:=ints m.row.flat) rfl ez rfl bj rfl (λ_ h=>h.2.1) (am m.row) (mo m 0 rfl (by decide) (bn (am m.row)))) ?_;refine AL 7 ?_;refine CE I3 (Leg.Does.hid (λa_=>nr r 1068 94 _ (gC (s.rep a_)) s.book m.whose m.row (Ou inferInstance))) (SM [1]) ?_;refine EN (DN (ah (WK [0] (bE rfl ?_))));exact congrArg (λq=>[cK V r q]) (h2 h25);refine PS ?_;refine nx J5 (CN (sr λ_ J6=>PS ?_));refine aq ?_ ?_<;>intro h35;refine PS ?_;refine nx J6 (CY (ag (P2 ?_)));refine FA 185 bi be ?_;refine LV 0 eL be ai MsgT.sp_view (y:=m.view) ?_;refine CR I2 ((h7 h35)) (SM [1]) λvR HR hR=>?_
 obtain⟨_,rfl⟩:=hR;exact ax (ah (WK [0] (bE rfl rfl)));refine PS ?_;refine nx J6 (CN (sr λ_ J7=>PS ?_));refine aq ?_ ?_<;>intro h42;refine PS ?_;refine nx J7 (CY (ag (P3 ?_)));refine LW 0 bi ci aJ ?_;refine CZ N9 ((h8 h42)) (SM [1]) λvR=>?_
 exact ax (ah (WK [0] (bE rfl rfl)));refine PS ?_;refine nx J7 (CN (sr λ_ J8=>PS ?_));refine aq ?_ ?_<;>intro h49;refine PS ?_;refine nx J8 (CY (ag (P3 ?_)));refine LW 0 bi ci aJ ?_;refine CZ N8 ((h9 h49)) (SM [1]) λvR=>?_
 exact ax (ah (WK [0] (bE rfl rfl)));refine PS ?_;refine nx J8 (CN (aa λ_ J9=>sr λ_ J10=>P2 ?_));refine aq ?_ ?_<;>intro h55;refine nx J10 (CY (qx J9 (CY (ag (P3 ?_)))));refine LW 0 bi ci aJ ?_;refine CZ FZ ((hv (by omega))) (SM [1]) λvR=>?_
 exact ax (ah (WK [0] (bE rfl rfl)));refine nx J10 (CN (sr λ_ J11=>P2 ?_));refine aq ?_ ?_<;>intro h55;refine nx J11 (CY (qx J9 (CY (ag (P3 ?_)))));refine LW 0 bi ci aJ ?_;refine CZ FZ ((hv (by omega))) (SM [1]) λvR=>?_
 exact ax (ah (WK [0] (bE rfl rfl)));refine nx J11 (CN (sr λ_ J12=>P2 ?_));refine aq ?_ ?_<;>intro h55;refine nx J12 (CY (qx J9 (CY (ag (P3 ?_)))));refine LW 0 bi ci aJ ?_;refine CZ FZ ((hv (by omega))) (SM [1]) λvR=>?_
 exact ax (ah (WK [0] (bE rfl rfl)));refine nx J12 (CN (ag (PS ?_)));refine aq ?_ ?_<;>intro h59;refine PS ?_;refine nx J9 (CY (ag (P3 ?_)));refine LW 0 bi ci aJ ?_;refine CZ FZ ((hv (by omega))) (SM [1]) λvR=>?_
 exact ax (ah (WK [0] (bE rfl rfl)));refine PS ?_;refine nx J9 (CN (aT (ah (WK [1] (bE rfl ?_)))));exact congrArg (λq=>[cK V r q]) (hn ⟨h11,h18,h25,h35,h42,h49,by omega,by omega,by omega,by omega⟩)
theorem Eg{δ:Type}{V:Env δ}{r:Nat}{s s':MS δ}{from':Int}{m:MsgT}[OkMg m](hk:m.kind=9)(h:TK V r 103 s from' m s'):TK V r 62 s from' m s':=oS V r s s' from' m (λe=>by omega) (λe=>by omega) (λe=>by omega) (λe=>by omega) (λe=>by omega) (λ_=>h) (λe=>by omega) (λe=>by omega)
theorem Eh{δ:Type}{V:Env δ}{r:Nat}{s s':MS δ}{from':Int}{m:MsgT}[OkMg m](hk:m.kind=8)(h:TK V r 102 s from' m s'):TK V r 62 s from' m s':=oS V r s s' from' m (λe=>by omega) (λe=>by omega) (λe=>by omega) (λe=>by omega) (λ_=>h) (λe=>by omega) (λe=>by omega) (λe=>by omega)
theorem oR{δ:Type}{V:Env δ}{r:Nat}{s s':MS δ}{from':Int}{m:MsgT}[OkMg m](hk:m.kind=3∨m.kind=4∨m.kind=5∨m.kind=6)(h:TK V r 104 s from' m s'):TK V r 62 s from' m s':=oS V r s s' from' m (λe=>by omega) (λe=>by omega) (λe=>by omega) (λe=>by omega) (λe=>by omega) (λe=>by omega) (λ_=>h) (λe=>by omega)
theorem wE{δ:Type}(V:Env δ)(r:Nat)(s:MS δ)(w:Int)(y:RowT)[OkR V.toDk s][OkRow y]:TK V r 62 s s.id (hY w y) (fD V.toDk s s.id (hY w y)):=Eg rfl (ol V r s s.id (hY w y))
theorem p6{δ:Type}(V:Env δ)(r:Nat)(s:MS δ)(s':MS δ)(from':Int)(m:MsgT)[OkR V.toDk s'][OkMg m](hl:DT 101 #[.pointer (some ⟨r,0,none⟩), .iface V.T V.ov, .agg (ints m.view.flat).toArray] T0 [cK V r s] (dL (λv H=>(∃b,v= .bool b)∧H=[cK V r s']))):
 DT 102 #[(.pointer (some ⟨r,0,none⟩)),(.iface V.T V.ov),(.int .i64 (from')),(.agg (ints m.flat).toArray)] T0 [cK V r s] (dL (λ_ H=>H=[cK V r (fh V.toDk s' from' m.whose)])):=by
 refine BD 64 Tryz.func102 rfl rfl rfl λw0 F hF=>sr λ_ J1=>XY (ints m.flat) λb7=>?_
 refine nx J1 (sr λ_ J2=>P2 ?_);refine FA 185 bi be ?_;refine LV 0 eL be ai MsgT.sp_view (y:=m.view) ?_;refine CR I2 (hl) (SM [1]) λvR HR hR=>?_
 obtain⟨_,rfl⟩:=hR;refine nx J2 (aa λ_ J3=>aa λ_ J4=>DC bo (cV 0 rfl rfl) (BL 1) ?_);refine PD 0 ?_;refine PD 1 ?_;refine FD 2 2 db be ?_;refine ta 3 rfl (gD (vs:=ints s'.view.flat) rfl eL rfl be rfl (λ_ h=>h.2.1) (ai s'.view) (λa_=>(gy (s'.rep a_) 0 rfl (by decide) (bn (ai ((s'.rep a_).view)))))) ?_;refine FD 4 1 bi aQ ?_;refine LR 5 Y3 (cu m rfl) ?_;refine AL 6 ?_;refine CE Mn (uq s'.view m.whose OkVw.rng) ID ?_;refine EN (PD 7 ?_);refine PD 8 ?_;refine PD 9 ?_;refine rZ ?_ ?_<;>intro h24;refine PD 10 ?_;refine PD 11 ?_;refine DN (af J4 (sr λ_ J5=>PS ?_));refine PS ?_;refine P4 ?_;refine aq ?_ ?_<;>intro h30;refine PS ?_;refine nx J5 (CY (ak (ae (WK [0] (dM rfl ?_)))));exact MQ (by rw[fh,if_pos (λh=>h30 (by rw[h];rfl))]);refine PS ?_;refine nx J5 (CN (qx J3 (aa λ_ J6=>aa λ_ J7=>D1 1 bo ?_)));refine PD 0 ?_;refine PD 1 ?_;refine FD 2 183 db wl ?_;refine FD 3 1 bi aQ ?_;refine LR 4 Y3 (cu m rfl) ?_;refine AL 5 ?_;refine CE Ns (Leg.Does.hid (λa_=>qj r 183 94 _ (fp (s'.rep a_)) s'.mirror m.whose)) ID ?_;refine bh ?_ ?_<;>intro h37;refine EN (PD 6 ?_);refine DN (af J7 (CN (qx J6 (D1 1 bo ?_))));refine PD 0 ?_;refine PD 1 ?_;refine PD 2 ?_;refine FD 3 1 bi aQ ?_;refine LR 4 Y3 (cu m rfl) ?_;refine PD 5 ?_;refine PD 6 ?_;refine FD 7 183 db wl ?_;refine FD 8 1 bi aQ ?_;refine LR 9 Y3 (cu m rfl) ?_;refine AL 10 ?_;refine CE Kz (Leg.Does.hid (λa_=>nN r 183 94 _ (fp (s'.rep a_)) s'.mirror m.whose)) ID ?_
 refine EN (ta 11 rfl (lu MsgT.zero (MsgT.mk 9 m.whose (eI s'.mirror m.whose) 0 0 BallotT.zero BallotT.zero ChangeT.zero ViewT.zero) [(0,[Value.int .i64 9]),(1,[Value.int .i64 m.whose]),(2,ints (eI s'.mirror m.whose).flat)] bi bv (g:=MsgT.sg)) ?_);refine AL 12 ?_;refine CZ jA (gQ V r s' from' (hY m.whose (eI s'.mirror m.whose)) (λs=>fD V.toDk s s.id (hY m.whose (eI s.mirror m.whose))) (λ_=>wE V r s' m.whose _)) ID λvR=>?_
 refine EN (DN (WK [0] (bE rfl ?_)));exact MQ (by rw[fh,if_neg (λh=>h (uo h24 (by omega))),if_pos h37]);refine EN (PD 6 ?_);refine DN (af J7 (CY (aa λ_ J8=>sr λ_ J9=>PS ?_)));refine FA 1 bi aQ ?_;refine LU 1 Y3 (cu m rfl) ?_;refine tp (lu RecT.zero (RecT.mk 2 m.whose RowT.zero 0 BallotT.zero ChangeT.zero ViewT.zero) [(0,[Value.int .i64 2]),(1,[Value.int .i64 m.whose])] eC fq (g:=RecT.sg)) ?_;refine CE EG (lD V r s' (ji m.whose)) ID ?_;refine PS ?_;refine aq ?_ ?_<;>intro h44;refine nx J9 (CY (ak (ae (ae (WK [0] (dM rfl ?_))))));exact MQ (by rw[fh,if_neg (λh=>h (uo h24 (by omega))),if_neg (by rw[h37];decide),if_pos h44]);refine nx J9 (CN (qx J8 (D1 1 bo ?_)));refine PD 0 ?_;refine PD 1 ?_;refine FD 2 183 db wl ?_;refine FD 3 1 bi aQ ?_;refine LR 4 Y3 (cu m rfl) ?_;refine AL 5 ?_;refine CE Nn (Leg.Does.hid (λa_=>sW r 183 94 _ (fp ((dE V.toDk s' (ji m.whose)).rep a_)) (dE V.toDk s' (ji m.whose)).mirror m.whose)) ID ?_;refine EN (DN (af J6 (D1 1 bo ?_)));refine PD 0 ?_;refine PD 1 ?_;refine PD 2 ?_;refine FD 3 1 bi aQ ?_;refine LR 4 Y3 (cu m rfl) ?_;refine PD 5 ?_;refine PD 6 ?_;refine FD 7 183 db wl ?_;refine FD 8 1 bi aQ ?_;refine LR 9 Y3 (cu m rfl) ?_;refine AL 10 ?_;refine CE Kz (Leg.Does.hid (λa_=>nN r 183 94 _ (fp ((lG (dE V.toDk s' (ji m.whose)) m.whose).rep a_)) (lG (dE V.toDk s' (ji m.whose)) m.whose).mirror m.whose)) ID ?_
 refine EN (ta 11 rfl (lu MsgT.zero (MsgT.mk 9 m.whose (eI (lG (dE V.toDk s' (ji m.whose)) m.whose).mirror m.whose) 0 0 BallotT.zero BallotT.zero ChangeT.zero ViewT.zero) [(0,[Value.int .i64 9]),(1,[Value.int .i64 m.whose]),(2,ints (eI (lG (dE V.toDk s' (ji m.whose)) m.whose).mirror m.whose).flat)] bi bv (g:=MsgT.sg)) ?_);refine AL 12 ?_;refine CZ jA (gQ V r (lG (dE V.toDk s' (ji m.whose)) m.whose) from' (hY m.whose (eI (lG (dE V.toDk s' (ji m.whose)) m.whose).mirror m.whose)) (λs=>fD V.toDk s s.id (hY m.whose (eI s.mirror m.whose))) (λ_=>wE V r (lG (dE V.toDk s' (ji m.whose)) m.whose) m.whose _)) ID λvR=>?_
 refine EN (DN (WK [0] (bE rfl ?_)));exact MQ (by rw[fh,if_neg (λh=>h (uo h24 (by omega))),if_neg (by rw[h37];decide),if_neg h44]);refine PD 10 ?_;refine PD 11 ?_;refine DN (af J4 (sr λ_ J10=>PS ?_));refine PS ?_;refine PS ?_
 iterate 3 refine UT ?_
 refine PS ?_;refine nx J10 (CY (ak (ae (WK [0] (dM rfl ?_)))));exact MQ (by rw[fh,if_pos (λh=>by rw[h]at h24;cases h24)])
section
variable {δ:Type} {V:Env δ} {r:Nat} {s:MS δ} {H:List HP} {h:Hl}
theorem F0(q:bN (cK V r s::H) h): ∃vo,bN (vO V r s vo::H) h:=by
 obtain⟨a,q1⟩:=fL q;exact⟨a.vo,br (p:=λa':Nat×Value=>[an r (RepT.cells (s.rep ⟨a'.1,a.vo,a'.2⟩)) 94,V.lg a'.1 s.e,own a'.2 s.replies.length (ints (s.replies.flatMap ReplyT.flat)) 175 3,V.E s.e s.o]) (a.lg,a.rs) (Is (aE [3,0,0,0,0] rfl q1))⟩
theorem CB(q:bN (vO V r s (.pointer none)::H) h):bN (cK V r {s with vote:=none}::H) h:=by
 obtain⟨a,q1⟩:=fL q;have q2:bN (FG (.pointer none) none::([an r (RepT.cells (s.rep ⟨a.1, .pointer none,a.2⟩)) 94,V.lg a.1 s.e,own a.2 s.replies.length (ints (s.replies.flatMap ReplyT.flat)) 175 3,V.E s.e s.o]++H)) h:=⟨em,h,DO h,(ra h).symm,rfl,q1⟩;exact br (p:=λa:Adr=>[an r (RepT.cells ({s with vote:=none}.rep a)) 94,V.lg a.lg {s with vote:=none}.e,own a.rs {s with vote:=none}.replies.length (ints ({s with vote:=none}.replies.flatMap ReplyT.flat)) 175 3,FG a.vo {s with vote:=none}.vote,V.E {s with vote:=none}.e {s with vote:=none}.o]) ⟨a.1, .pointer none,a.2⟩ (aE [1,1,1,0,0] rfl q2)
theorem sV(hv:s.vote=none)(q:bN (cK V r s::H) h):bN (vO V r s (.pointer none)::H) h:=by
 obtain⟨a,q1⟩:=fL q;have q2:=aE [3,0,0,0,0] rfl q1;obtain⟨h1,h2,d,rfl,e,q3⟩:=q2;rw[hv]at e;have e':a.vo= .pointer none:=e;obtain⟨lg,vo,rs⟩:=a;obtain rfl:=e';rw[nP d];exact lQ _ (br (p:=λa':Nat×Value=>[an r (RepT.cells (s.rep ⟨a'.1, .pointer none,a'.2⟩)) 94,V.lg a'.1 s.e,own a'.2 s.replies.length (ints (s.replies.flatMap ReplyT.flat)) 175 3,V.E s.e s.o]) (lg,rs) q3) d.symm
theorem nh{vt:VoteT}(hv:s.vote=some vt)(q:bN (cK V r s::H) h): ∃vb,bN (vO V r s (.pointer (some ⟨vb,0,none⟩))::an vb (VoteT.cells vt) 187::H) h:=by
 obtain⟨a,q1⟩:=fL q;have q2:=aE [3,0,0,0,0] rfl q1;obtain⟨h1,h2,d,rfl,e,q3⟩:=q2;rw[hv]at e;obtain⟨vb,e',e⟩:=e;obtain⟨lg,vo,rs⟩:=a;have e2:vo= .pointer (some ⟨vb,0,none⟩):=e';obtain rfl:=e2;refine⟨vb,eF (List.Perm.swap _ _ _) ?_⟩;exact⟨h1,h2,d,rfl,e,br (p:=λa':Nat×Value=>[an r (RepT.cells (s.rep ⟨a'.1, .pointer (some ⟨vb,0,none⟩),a'.2⟩)) 94,V.lg a'.1 s.e,own a'.2 s.replies.length (ints (s.replies.flatMap ReplyT.flat)) 175 3,V.E s.e s.o]) (lg,rs) q3⟩
theorem ou{vt:VoteT}{vb:Nat}(q:bN (vO V r s (.pointer (some ⟨vb,0,none⟩))::an vb (VoteT.cells vt) 187::H) h):bN (cK V r {s with vote:=some vt}::H) h:=by
 obtain⟨a,q1⟩:=fL q;have q2:bN ([an r (RepT.cells (s.rep ⟨a.1, .pointer (some ⟨vb,0,none⟩),a.2⟩)) 94,V.lg a.1 s.e,own a.2 s.replies.length (ints (s.replies.flatMap ReplyT.flat)) 175 3,V.E s.e s.o]++(FG (.pointer (some ⟨vb,0,none⟩)) (some vt)::H)) h:=GD (λ_ e=>⟨vb,rfl,e⟩) q1;exact br (p:=λa:Adr=>[an r (RepT.cells ({s with vote:=some vt}.rep a)) 94,V.lg a.lg {s with vote:=some vt}.e,own a.rs {s with vote:=some vt}.replies.length (ints ({s with vote:=some vt}.replies.flatMap ReplyT.flat)) 175 3,FG a.vo {s with vote:=some vt}.vote,V.E {s with vote:=some vt}.e {s with vote:=some vt}.o]) ⟨a.1, .pointer (some ⟨vb,0,none⟩),a.2⟩ (aE [0,0,0,1,0] rfl q2)
theorem ow{vt:VoteT}{vb:Nat}(hv:s.vote=some vt)(q:bN (vO V r s (.pointer (some ⟨vb,0,none⟩))::an vb (VoteT.cells vt) 187::H) h):bN (cK V r s::H) h:=by
 have q2:=ou q
 rwa [show({s with vote:=some vt}:MS δ)=s by cases s;simp_all]at q2
end
theorem C7{δ:Type}(V:Env δ)(r:Nat)(s:MS δ)(v:ViewT):
 DT 49 #[(.pointer (some ⟨r,0,none⟩)),(.agg (ints v.flat).toArray)] T0 [cK V r s] (dL (λ_ H=>H=[cK V r (mi s v)])):=by
 refine BD 20 Tryz.func49 rfl rfl rfl λw0 F hF=>sr λ_ J1=>XY (ints v.flat) λb3=>?_
 refine nx J1 (sr λ_ J2=>PS ?_);refine LW 0 eL be ai ?_;refine PS ?_;refine FA 2 db be ?_;refine iw (vs:=ints v.flat) (i:=1) (ab rfl) rfl rfl rfl rfl rfl (by rw[(ai v)];exact be) (bB _) rfl rfl (λ_=>LC (cU _) (ai _)) (λa_=>(PY (s.rep a_) 0 rfl (by have h1:=(ai v);omega) (cr ((ai ((s.rep a_).view)).trans (ai v).symm)))) (nx J2 (sr λ_ J3=>PS ?_));refine FA 0 eL aQ ?_;refine LU 0 Y3 (bf v rfl) ?_;refine tp (lu AccT.zero (AccT.mk v.epoch BallotT.zero BallotT.zero ChangeT.zero) [(0,[Value.int .i64 v.epoch])] pO oL (g:=AccT.sg)) ?_;refine PS ?_;refine FA 1058 db fU ?_;refine iw (vs:=ints (AccT.mk v.epoch BallotT.zero BallotT.zero ChangeT.zero).flat) (i:=1) (ab rfl) rfl rfl rfl rfl rfl (by rw[(bd (AccT.mk v.epoch BallotT.zero BallotT.zero ChangeT.zero))];exact fU) (bB _) rfl rfl (λ_=>LC (cU _) (bd _)) (λa_=>(kP ((MS.setView s v).rep a_) 0 rfl (by have h1:=(bd (AccT.mk v.epoch BallotT.zero BallotT.zero ChangeT.zero));omega) (cr ((bd (((MS.setView s v).rep a_).acc)).trans (bd (AccT.mk v.epoch BallotT.zero BallotT.zero ChangeT.zero)).symm)))) (nx J3 (sr λ_ J4=>cB (λ_ q=>aE [1] rfl q) (L3 (H':=λvo:Value=>vO V r (MS.setAcc (MS.setView s v) (AccT.mk v.epoch BallotT.zero BallotT.zero ChangeT.zero)) vo::[an b3 (ints v.flat) 29]) (λ_ q=>F0 q) (λvo=>P2 ?_))));refine FA 1067 db m8 ?_;refine SK 0 m8 (λ_=>cU _) ?_ (hc:=by exact λa_=>(PZ _ rfl _))
 refine nx J4 (ag (cB (H':=cK V r {{s with view:=v}with acc:= {AccT.zero with epoch:=v.epoch},vote:=none}::[an b3 (ints v.flat) 29]) (λ_ q=>CB (aE [0] rfl q)) (P2 ?_)));refine FA 1066 db aQ ?_;refine SK 0 aQ (λ_=>cU _) ?_ (hc:=by exact λa_=>(l6 _ rfl _));exact ax (WK [0] (bE rfl rfl))
theorem uV{δ:Type}(V:Env δ)(r:Nat)(s:MS δ)(v:ViewT)[OkR V.toDk s][OkVw v](hcl: ¬v.epoch≤s.view.epoch→DT 65 #[.pointer (some ⟨r,0,none⟩), .iface V.T V.ov] T0 [cK V r (mi (dE V.toDk s (gg v)) v)] (dL (λ_ H=>H=[cK V r (qt V.toDk (mi (dE V.toDk s (gg v)) v))]))):
 DT 101 #[(.pointer (some ⟨r,0,none⟩)),(.iface V.T V.ov),(.agg (ints v.flat).toArray)] T0 [cK V r s] (RI (.bool (nO V.toDk s v)) [cK V r (gm V.toDk s v)]):=by
 refine BD 28 Tryz.func101 rfl rfl rfl λw0 F hF=>sr λ_ J1=>XY (ints v.flat) λb5=>?_
 refine PS ?_;refine nx J1 (aa λ_ J2=>aa λ_ J3=>DC bo (BL 0) (cV 1 rfl rfl) ?_);refine FD 0 0 eL aQ ?_;refine LR 1 Y3 (bf v rfl) ?_;refine PD 2 ?_;refine PD 3 ?_;refine FD 4 2 db be ?_;refine FD 5 2 eL aQ ?_;refine ta 6 rfl (df (v:=(.int .i64 (s.view.epoch))) rfl Y3 rfl rfl (λ_ h=>h.2.2.1) (λa_=>(cp (s.rep a_) 0 rfl (by decide) (bf _ rfl)))) ?_;refine PD 7 ?_;refine jT ?_ ?_<;>intro h14;refine PD 8 ?_;refine NT 9 ?_;refine NT 10 ?_;refine NT 11 ?_;refine NT 12 ?_;refine NT 13 ?_;refine PD 14 ?_;refine DN (af J3 (CY (sr λ_ J4=>PS ?_)));refine nx J4 (ak (ae (WK [1] (aw rfl rfl ?_))));have e:gm V.toDk s v=s:=by rw[gm,if_pos h14]
 exact⟨by rw[nO,decide_eq_false (by omega),ik],congrArg (λq=>[cK V r q]) e.symm⟩;refine PD 8 ?_;refine PD 9 ?_;refine LY 10 eL be ai ?_;refine tb 11 rfl (lu RecT.zero (RecT.mk 5 0 RowT.zero 0 BallotT.zero ChangeT.zero v) [(0,[Value.int .i64 5]),(6,ints v.flat)] eC fq (g:=RecT.sg)) ?_;refine AL 12 ?_;refine CE EG (lD V r s (gg v)) (SM [1]) ?_;refine EN (PD 13 ?_);refine jT ?_ ?_<;>intro h20;refine PD 14 ?_;refine DN (af J3 (CY (sr λ_ J5=>PS ?_)));refine nx J5 (ak (ae (WK [0] (aw rfl rfl ?_))));have e:gm V.toDk s v=(dE V.toDk s (gg v)):=by rw[gm,if_neg h14,if_pos h20]
 exact⟨by rw[nO,decide_eq_true (by omega),decide_eq_false h20,ny],congrArg (λq=>[cK V r q]) e.symm⟩;refine PD 14 ?_;refine DN (af J3 (CN (qx J2 (sr λ_ J6=>PS ?_))));refine LW 1 eL be ai ?_;refine CZ Mv (C7 V r (dE V.toDk s (gg v)) v) ID λvR=>?_
 refine nx J6 (sr λ_ J7=>P2 ?_);refine CZ Ms ((hcl (by omega))) ID λvR=>?_
 refine nx J7 (sr λ_ J8=>PS ?_);refine nx J8 (ak (WK [0] (aw rfl rfl ?_)));have e:gm V.toDk s v=(qt V.toDk (mi (dE V.toDk s (gg v)) v)):=by rw[gm,if_neg h14,if_neg h20]
 exact⟨by rw[nO,decide_eq_true (by omega),decide_eq_true (by omega),ny],congrArg (λq=>[cK V r q]) e.symm⟩
theorem CI{δ:Type}(V:Env δ)(r:Nat)(s:MS δ)(v:ViewT)[OkR V.toDk s][OkVw v](h:v.epoch≤s.view.epoch):DT 101 #[.pointer (some ⟨r,0,none⟩), .iface V.T V.ov, .agg (ints v.flat).toArray] T0 [cK V r s] (dL (λq H=>(∃b,q= .bool b)∧H=[cK V r s])):=
 (uV V r s v (λq=>absurd h q)).mono λe H hp=>by
  cases e with
  |returned q=>exact⟨⟨_,hp.1⟩,hp.2.trans (by rw[gm,if_pos h])⟩
  |panicked c=>exact hp.elim
  |outgrown=>exact hp.elim
theorem wF{δ:Type}(V:Env δ)(r:Nat)(s:MS δ)(i:Int)[OkR V.toDk s]:TK V r 62 s s.id (iz i s.view) (fh V.toDk s s.id i):=Eh rfl (p6 V r s s s.id (iz i s.view) (CI V r s s.view (Int.le_refl _)))
theorem qq{δ:Type}(V:Env δ)(r:Nat)(s:MS δ)[OkR V.toDk s]:
 DT 65 #[(.pointer (some ⟨r,0,none⟩)),(.iface V.T V.ov)] T0 [cK V r s] (dL (λ_ H=>H=[cK V r (qt V.toDk s)])):=by
 refine BD 39 Tryz.func65 rfl rfl rfl λw0 F hF=>sr λ_ J1=>PS ?_
 refine CR LF (zD V r s) ID λvR HR hR=>?_
 obtain⟨_,rfl,rfl⟩:=hR;revert vR;intro ud;refine kj 0 rfl rfl (λhlud houd=>tp (dW rfl kE rfl hlud) ?_);refine PS ?_;refine nx J1 (av ?_)
 refine bG (α:=(Nat)) (λk=>k≤(bF s).length) (λk=>[(0,(.pointer (some ⟨r,0,none⟩))),(1,(.iface V.T V.ov)),(9,ud),(10,(.int .i64 ((((bF s).length:Nat):Int)))),(11,(.int .i64 (((k:Nat):Int))))]) (λk=>[own ud ((bF s).length) (ints (bF s)) 3 1,cK V r (gq V.toDk ((bF s).take k) s)]) (λk=>(bF s).length-k) 0
  (aP _) SB
  (λ_ s=>s) (λk hinv=>?_)
 obtain hk:=hinv;have hcl:OkR V.toDk (gq V.toDk ((bF s).take k) s):=ux _ _ inferInstance;refine sr λ_ J2=>PS ?_
 refine aq ?_ ?_<;>intro h12;refine nx J2 (aa λ_ J3=>CY (qx J3 (aa λ_ J4=>av (sr λ_ J5=>?_))));have hmm1:(bF s).getD k 0∈bF s:=by rw[List.getD_eq_getElem?_getD,List.getElem?_eq_getElem (by omega)];exact eg _
 have hm1:cw ((bF s).getD k 0)=true:=(xv hmm1).1;have hn1:0≤(bF s).getD k 0∧(bF s).getD k 0<5:=of_decide_eq_true hm1;refine kl 0 rfl rfl (by omega) (λge1 ce1 he1 _=>tp (ca (r:=k) he1 rfl kE aQ rfl rfl (by omega) (by omega) (by omega)) ?_);refine tp (de (v:=(.int .i64 (((bF s).getD k 0)))) rfl Y3 rfl rfl (gO 0 rfl he1 rfl) (xm (by omega))) ?_;refine PS ?_;refine nx J5 (sr λ_ J6=>PS ?_);refine CR IS (qI ((bF s).getD k 0) hm1) ID λvR HR hR=>?_
 obtain⟨_,rfl,rfl⟩:=hR;revert vR;intro uw;refine kj 0 rfl rfl (λhluw _=>kl 0 rfl rfl (by omega) (λgw capw hvw hcapw=>tp (dW rfl kE rfl hluw) ?_));refine PS ?_;refine nx J6 (av (sh 2 (sr λ_ J7=>PS ?_)));refine nx J7 (aa λ_ J8=>CY (qx J8 (aa λ_ J9=>fo (α:=Unit) (λ_u=>True) (λ_u=>[(0,(.pointer (some ⟨r,0,none⟩))),(1,(.iface V.T V.ov)),(5,(.int .i64 (((bF s).getD k 0)))),(9,ud),(10,(.int .i64 ((((bF s).length:Nat):Int)))),(11,(.int .i64 (((k:Nat):Int)))),(16,uw),(17,(.int .i64 2)),(18,(.int .i64 0)),(19,(.bool true))]) (λ_u=>[cK V r (hO V.toDk (gq V.toDk ((bF s).take k) s) ((bF s).getD k 0) ((((bF s).getD k 0)+1)%5)),own uw (2) ([.int .i64 ((((bF s).getD k 0)+1)%5), .int .i64 ((((bF s).getD k 0)+2)%5)]) 3 1,own ud ((bF s).length) (ints (bF s)) 3 1]) (λ_u hinv=>?_) (λtl9=>?_))));have _:=hinv;refine af J9 (ag (tp (cG (r:=1) rfl rfl rfl (by decide)) ?_));refine PS ?_;refine ax (eM (sr λ_ J10=>PS ?_))
 refine nx J10 (aa λ_ J11=>CY (qx J11 (aa λ_ J12=>fo (α:=Unit) (λ_u=>True) (λ_u=>[(0,(.pointer (some ⟨r,0,none⟩))),(1,(.iface V.T V.ov)),(5,(.int .i64 (((bF s).getD k 0)))),(9,ud),(10,(.int .i64 ((((bF s).length:Nat):Int)))),(11,(.int .i64 (((k:Nat):Int)))),(16,uw),(17,(.int .i64 2)),(18,(.int .i64 1)),(19,(.bool true)),(37,(.int .i64 1))]) (λ_u=>[cK V r (hO V.toDk (hO V.toDk (gq V.toDk ((bF s).take k) s) ((bF s).getD k 0) ((((bF s).getD k 0)+1)%5)) ((bF s).getD k 0) ((((bF s).getD k 0)+2)%5)),own uw (2) ([.int .i64 ((((bF s).getD k 0)+1)%5), .int .i64 ((((bF s).getD k 0)+2)%5)]) 3 1,own ud ((bF s).length) (ints (bF s)) 3 1]) (λ_u hinv=>?_) (λtl12=>?_))));have _:=hinv;refine af J12 (ag (tp (cG (r:=2) rfl rfl rfl (by decide)) ?_));refine PS ?_;refine ax (eM (sr λ_ J13=>PS ?_));refine nx J13 (aa λ_ J14=>CN (bg (aC (aC (bD (ah (af J4 (ag (AD ?_)))))))));refine PS ?_;refine ax ?_
 exact aN ((k+1):(Nat)) (by omega) (by show(bF s).length- (k+1)< (bF s).length-k;omega)
  SB
  (λ_ q=>by
   rw[Ds V.toDk (by omega) s]
   exact ao [2,0] rfl q)
 refine av (sr λ_ J15=>tp (ca (r:=1) hvw rfl kE aQ rfl rfl (by omega) (by omega) rfl) ?_);refine tp (de (v:=(.int .i64 (((((bF s).getD k 0)+2)%5)))) rfl Y3 rfl rfl (gO 1 rfl hvw rfl) rfl) ?_;refine PS ?_;refine nx J15 (sr λ_ J16=>P3 ?_);refine CE FY (nJ V r (hO V.toDk (gq V.toDk ((bF s).take k) s) ((bF s).getD k 0) ((((bF s).getD k 0)+1)%5)) ((bF s).getD k 0) ((((bF s).getD k 0)+2)%5) hm1 (by omega)) ID ?_;refine bh ?_ ?_<;>intro h25;refine PS ?_;refine nx J16 (CN (aT (ah ?_)))
 exact aG
  SB
  (λ_ q=>by
   rw[hO,if_pos h25]
   exact ao [0,0,0] rfl q)
  (tl12 (():Unit) trivial)
 refine PS ?_;refine nx J16 (CY (ag ?_))
 iterate 6 refine PS ?_
 refine FA 2 db be ?_;refine LZ 0 eL be ai ((hO V.toDk (gq V.toDk ((bF s).take k) s) ((bF s).getD k 0) ((((bF s).getD k 0)+1)%5)).view) ?_ (hc:=by exact λ_=>cT _);refine tp (lu MsgT.zero (MsgT.mk 8 ((bF s).getD k 0) RowT.zero 0 0 BallotT.zero BallotT.zero ChangeT.zero ((hO V.toDk (gq V.toDk ((bF s).take k) s) ((bF s).getD k 0) ((((bF s).getD k 0)+1)%5)).view)) [(0,[Value.int .i64 8]),(1,[Value.int .i64 ((bF s).getD k 0)]),(8,ints ((hO V.toDk (gq V.toDk ((bF s).take k) s) ((bF s).getD k 0) ((((bF s).getD k 0)+1)%5)).view).flat)] bi bv (g:=MsgT.sg)) ?_;refine CZ jA (gQ V r (hO V.toDk (gq V.toDk ((bF s).take k) s) ((bF s).getD k 0) ((((bF s).getD k 0)+1)%5)) ((((bF s).getD k 0)+2)%5) (iz ((bF s).getD k 0) (hO V.toDk (gq V.toDk ((bF s).take k) s) ((bF s).getD k 0) ((((bF s).getD k 0)+1)%5)).view) (λs_=>fh V.toDk s_ s_.id ((bF s).getD k 0)) (λ_=>wF V r (hO V.toDk (gq V.toDk ((bF s).take k) s) ((bF s).getD k 0) ((((bF s).getD k 0)+1)%5)) ((bF s).getD k 0))) ID λvR=>?_
 refine ax (ah ?_)
 exact aG
  SB
  (λ_ q=>by
   rw[hO,if_neg (by rw[h25];decide)]
   exact ao [0,0,0] rfl q)
  (tl12 (():Unit) trivial)
 refine av (sr λ_ J17=>tp (ca (r:=0) hvw rfl kE aQ rfl rfl (by omega) (by omega) rfl) ?_);refine tp (de (v:=(.int .i64 (((((bF s).getD k 0)+1)%5)))) rfl Y3 rfl rfl (gO 0 rfl hvw rfl) rfl) ?_;refine PS ?_;refine nx J17 (sr λ_ J18=>P3 ?_);refine CE FY (nJ V r (gq V.toDk ((bF s).take k) s) ((bF s).getD k 0) ((((bF s).getD k 0)+1)%5) hm1 (by omega)) (SM [2]) ?_;refine bh ?_ ?_<;>intro h25;refine PS ?_;refine nx J18 (CN (aT (ah ?_)))
 exact aG
  SB
  (λ_ q=>by
   rw[hO,if_pos h25]
   exact ao [0,0,0] rfl q)
  (tl9 (():Unit) trivial)
 refine PS ?_;refine nx J18 (CY (ag ?_))
 iterate 6 refine PS ?_
 refine FA 2 db be ?_;refine LZ 0 eL be ai ((gq V.toDk ((bF s).take k) s).view) ?_ (hc:=by exact λ_=>cT _);refine tp (lu MsgT.zero (MsgT.mk 8 ((bF s).getD k 0) RowT.zero 0 0 BallotT.zero BallotT.zero ChangeT.zero ((gq V.toDk ((bF s).take k) s).view)) [(0,[Value.int .i64 8]),(1,[Value.int .i64 ((bF s).getD k 0)]),(8,ints ((gq V.toDk ((bF s).take k) s).view).flat)] bi bv (g:=MsgT.sg)) ?_;refine CZ jA (gQ V r (gq V.toDk ((bF s).take k) s) ((((bF s).getD k 0)+1)%5) (iz ((bF s).getD k 0) (gq V.toDk ((bF s).take k) s).view) (λs_=>fh V.toDk s_ s_.id ((bF s).getD k 0)) (λ_=>wF V r (gq V.toDk ((bF s).take k) s) ((bF s).getD k 0))) ID λvR=>?_
 refine ax (ah ?_)
 exact aG
  SB
  (λ_ q=>by
   rw[hO,if_neg (by rw[h25];decide)]
   exact ao [0,0,0] rfl q)
  (tl9 (():Unit) trivial)
 refine nx J2 (aa λ_ J19=>CN (bg (aC (aC (bD (WK [1] (bE rfl ?_)))))));obtain rfl:k=(bF s).length:=by omega
 exact MQ (by rw[ko];rfl)
theorem uW{δ:Type}(V:Env δ)(r:Nat)(s:MS δ)(v:ViewT)[OkR V.toDk s][OkVw v]:DT 101 #[.pointer (some ⟨r,0,none⟩), .iface V.T V.ov, .agg (ints v.flat).toArray] T0 [cK V r s] (RI (.bool (nO V.toDk s v)) [cK V r (gm V.toDk s v)]):=uV V r s v λ_=>qq V r _
theorem uX{δ:Type}(V:Env δ)(r:Nat)(s:MS δ)(v:ViewT)[OkR V.toDk s][OkVw v]:DT 101 #[.pointer (some ⟨r,0,none⟩), .iface V.T V.ov, .agg (ints v.flat).toArray] T0 [cK V r s] (dL (λq H=>(∃b,q= .bool b)∧H=[cK V r (gm V.toDk s v)])):=
 (uW V r s v).mono λe H hp=>by
  cases e with
  |returned q=>exact⟨⟨_,hp.1⟩,hp.2⟩
  |panicked c=>exact hp.elim
  |outgrown=>exact hp.elim
theorem wh{δ:Type}(V:Env δ)(r:Nat)(s:MS δ)(from':Int)(m:MsgT)[OkR V.toDk s][OkMg m]:TK V r 102 s from' m (kH V.toDk s from' m):=p6 V r s _ from' m (uX V r s m.view)
theorem Mf:Tryz.prog.eqGuardType Tryz.prog.depth 87=false:=by kernel_rfl
theorem Me:Tryz.prog.keyTypeAt 6 87=true:=by kernel_rfl
theorem MI:oA Tryz.prog 6 87=some 2:=by kernel_rfl
theorem HA:(match Tryz.prog.underlying 87 with|some (.struct _)|some (.array _ _)=>true|_=>false)=true:=by kernel_rfl
theorem HL:Tryz.prog.cellsOf 87=2:=by kernel_rfl
theorem O8:Tryz.prog.eqGuardType Tryz.prog.depth 89=false:=by kernel_rfl
theorem O3:Tryz.prog.keyTypeAt 6 89=true:=by kernel_rfl
theorem PO:oA Tryz.prog 6 89=some 8:=by kernel_rfl
theorem Oe:(match Tryz.prog.underlying 89 with|some (.struct _)|some (.array _ _)=>true|_=>false)=true:=by kernel_rfl
theorem Oi:Tryz.prog.cellsOf 89=8:=by kernel_rfl
theorem zn(a b:BallotT):
 DT 156 #[(.agg (ints a.flat).toArray),(.agg (ints b.flat).toArray)] T0 [] (RI (.bool (xg a b)) []):=by
 refine BD 20 Tryz.func156 rfl rfl rfl λw0 F hF=>sr λ_ J1=>XY (ints a.flat) λb2=>?_
 refine XY (ints b.flat) λb3=>?_
 refine PS ?_;refine nx J1 (aa λ_ J2=>sr λ_ J3=>FA 0 kB aQ ?_);refine LU 1 Y3 (fx a rfl) ?_;refine FA 0 kB aQ ?_;refine LU 0 Y3 (fx b rfl) ?_;refine PS ?_;refine aq ?_ ?_<;>intro h9;refine nx J3 (CY (sr λ_ J4=>FA 0 kB aQ ?_));refine LU 1 Y3 (fx a rfl) ?_;refine FA 0 kB aQ ?_;refine LU 0 Y3 (fx b rfl) ?_;refine P2 ?_;refine nx J4 (ak (ae (WK [] (aw rfl rfl ?_))));exact⟨congrArg Value.bool (by simp[xg, *]),rfl⟩;refine nx J3 (CN (qx J2 (sr λ_ J5=>FA 1 kB aQ ?_)));refine LU 1 Y3 (BallotT.at_who a rfl) ?_;refine FA 1 kB aQ ?_;refine LU 0 Y3 (BallotT.at_who b rfl) ?_;refine P2 ?_;refine nx J5 (ak (WK [] (aw rfl rfl ?_)));exact⟨congrArg Value.bool (by simp[xg, *]),rfl⟩
theorem sQ(a:AccT)(ep:Int)(b:BallotT):
 DT 141 #[(.agg (ints a.flat).toArray),(.int .i64 (ep)),(.agg (ints b.flat).toArray)] T0 [] (RI (.bool (qz a ep b)) []):=by
 refine BD 22 Tryz.func141 rfl rfl rfl λw0 F hF=>sr λ_ J1=>XY (ints a.flat) λb3=>?_
 refine XY (ints b.flat) λb5=>?_
 refine PS ?_;refine nx J1 (sr λ_ J2=>PS ?_);refine FA 0 pO aQ ?_;refine LU 1 Y3 (AccT.at_epoch a rfl) ?_;refine PS ?_;refine aq ?_ ?_<;>intro h10;refine PS ?_
 iterate 3 refine UT ?_
 refine P2 ?_
 iterate 4 refine UT ?_
 refine P2 ?_;refine nx J2 (ak (WK [] (aw rfl rfl ?_)));exact⟨congrArg Value.bool (by simp[qz, *]),rfl⟩;refine PS ?_;refine FA 0 kB aQ ?_;refine LU 0 Y3 (fx b rfl) ?_;refine PS ?_;refine aq ?_ ?_<;>intro h14;refine P2 ?_
 iterate 4 refine UT ?_
 refine P2 ?_;refine nx J2 (ak (WK [] (aw rfl rfl ?_)));exact⟨congrArg Value.bool (by simp[qz, *]),rfl⟩;refine P2 ?_;refine LW 0 kB cA ap ?_;refine FA 1 pO cA ?_;refine LV 1 kB cA ap AccT.sp_vow (y:=a.vow) ?_;refine CE Ln (zn b a.vow) ID ?_;refine P2 ?_;refine nx J2 (ak (WK [] (aw rfl rfl ?_)));exact⟨congrArg Value.bool (by simp[qz, *]),rfl⟩
theorem nU(a:AccT)(ep:Int)(b:BallotT):
 DT 109 #[(.agg (ints a.flat).toArray),(.int .i64 (ep)),(.agg (ints b.flat).toArray)] T0 [] (RI (.tuple #[.agg (ints (bC a ep b).1.flat).toArray, .bool (bC a ep b).2]) []):=by
 refine BD 16 Tryz.func109 rfl rfl rfl λw0 F hF=>sr λ_ J1=>XY (ints a.flat) λb3=>?_
 refine XY (ints b.flat) λb5=>?_
 refine XZ H3 (ints AccT.zero.flat) λb6=>?_
 refine PS ?_;refine nx J1 (aa λ_ J2=>sr λ_ J3=>LW 2 pO fU bd ?_);refine PS ?_;refine LW 1 kB cA ap ?_;refine CE Lt (sQ a ep b) ID ?_;refine bh ?_ ?_<;>intro h11;refine nx J3 (CY (sr λ_ J4=>LW 2 pO fU bd ?_));refine SW 0 fU bd ?_;refine PS ?_;refine nx J4 (ak (ae (RT 0 [] pO fU (bd _) ?_)));exact⟨by rw[bC];simp_all,rfl⟩;refine nx J3 (CN (qx J2 (sr λ_ J5=>LW 1 kB cA ap ?_)));refine FA 1 pO cA ?_;refine SP 2 cA ap bd AccT.wp_vow ?_;refine nx J5 (sr λ_ J6=>LW 2 pO fU bd ?_);refine SW 0 fU bd ?_;refine PS ?_;refine nx J6 (ak (RT 0 [] pO fU (bd _) ?_));exact⟨by rw[bC];simp_all,rfl⟩
theorem vf(a:AccT)(ep:Int)(b:BallotT)(ch:ChangeT):
 DT 155 #[(.agg (ints a.flat).toArray),(.int .i64 (ep)),(.agg (ints b.flat).toArray),(.agg (ints ch.flat).toArray)] T0 [] (RI (.tuple #[.agg (ints (fP a ep b ch).1.flat).toArray, .bool (fP a ep b ch).2]) []):=by
 refine BD 22 Tryz.func155 rfl rfl rfl λw0 F hF=>sr λ_ J1=>XY (ints a.flat) λb4=>?_
 refine XY (ints b.flat) λb6=>?_
 refine XY (ints ch.flat) λb7=>?_
 refine XZ H3 (ints AccT.zero.flat) λb8=>?_
 refine PS ?_;refine nx J1 (aa λ_ J2=>sr λ_ J3=>LW 3 pO fU bd ?_);refine PS ?_;refine LW 2 kB cA ap ?_;refine CE Lt (sQ a ep b) ID ?_;refine bh ?_ ?_<;>intro h13;refine nx J3 (CY (sr λ_ J4=>LW 3 pO fU bd ?_));refine SW 0 fU bd ?_;refine PS ?_;refine nx J4 (ak (ae (RT 0 [] pO fU (bd _) ?_)));exact⟨by rw[fP];simp_all,rfl⟩;refine nx J3 (CN (qx J2 (aa λ_ J5=>D2 2 1 bo ?_)));refine LY 0 kB cA ap ?_;refine LY 1 kB cA ap ?_;refine LY 2 nt fR aK ?_;refine FD 3 1 pO cA ?_;refine AL 4 ?_;refine SP 3 cA ap bd AccT.wp_vow ?_;refine EN (FD 5 3 pO cA ?_);refine AL 6 ?_;refine SP 3 cA ap bd AccT.wp_had ?_;refine EN (FD 7 5 pO fR ?_);refine AL 8 ?_;refine SP 3 fR aK bd AccT.wp_change ?_;refine EN (DN (af J5 (sr λ_ J6=>LW 3 pO fU bd ?_)));refine SW 0 fU bd ?_;refine PS ?_;refine nx J6 (ak (RT 0 [] pO fU (bd _) ?_));exact⟨by rw[fP];simp_all,rfl⟩
theorem uS(b:Int):
 DT 161 #[(.int .i64 (b))] T0 [] (dL (λr' H=>∃u,r'=u∧H=[own u (x7 b).length (ints (x7 b)) 3 1])):=by
 refine BD 19 Tryz.func161 rfl rfl rfl λw0 F hF=>sr λ_ J1=>PS ?_
 refine nx J1 (sr λ_ J2=>PS ?_);refine nx J2 (aa λ_ J3=>sr λ_ J4=>PS ?_);refine nx J4 (av ?_)
 refine bG (α:=(Nat)×(Value)) (λ⟨k,u⟩=>k≤5∧u.oneCell'=true) (λ⟨k,u⟩=>[(0,(.int .i64 (b))),(2,(.slice none 0 0)),(3,u),(5,(.int .i64 (((k:Nat):Int))))]) (λ⟨k,u⟩=>[own u ((kJ b k).length) (ints (kJ b k)) 3 1]) (λ⟨k,u⟩=>5-k) (0,(.slice none 0 0))
  ⟨aP _,rfl⟩ SB
  (λ_ s=>im 3 1 (ao [] rfl s)) (λ⟨k,u⟩ hinv=>?_)
 obtain⟨hk,hu⟩:=hinv;have hol:=tW b k;refine sr λ_ J5=>PS ?_
 refine aq ?_ ?_<;>intro h6;refine nx J5 (aa λ_ J6=>CY (qx J6 (aa λ_ J7=>av (sr λ_ J8=>P2 ?_))));refine nx J8 (sr λ_ J9=>P2 ?_);refine tp (l7 (r:=(b.fdiv (2^min ((k:Nat):Int).toNat IntKind.i64.bits))) rfl rfl rfl (by omega) rfl) ?_;refine tp (vA (r:=((b.fdiv (2^min ((k:Nat):Int).toNat IntKind.i64.bits))%2)) rfl rfl rfl (mask (k:=1) (by decide) _)) ?_;refine PS ?_;refine aq ?_ ?_<;>intro h12;refine nx J9 (CY (ag (P2 ?_)));refine aZ (cells:=#[(.int .i64 (((k:Nat):Int)))]) (ab rfl) rfl rfl rfl kE rO rfl rfl rfl (by as_aux_lemma=>kernel_rfl) (λb15=>cM (k:=1) (news:=[(.int .i64 (((k:Nat):Int)))]) (nn':=(kJ b k).length+1) (xs':=ints (kJ b k)++[(.int .i64 (((k:Nat):Int)))]) (ab rfl) rfl rfl rfl kE rO rfl rfl rfl rfl rfl rfl (λ_ _=>jU rfl (RO 0) rfl) (by simp[Value.oneCell']) (by simp only[maxLen];omega) (by omega) (by simp) (by simp) (λv16 ov16=>PS ?_));refine ax (ah (af J7 (ag (AD ?_))));refine PS ?_;refine ax ?_
 exact aN ((k+1,v16):(Nat)×(Value)) ⟨by omega,ov16⟩ (by show 5- (k+1)<5-k;omega)
  SB
  (λ_ q=>by
   show bN [own v16 (kJ b (k+1)).length (ints (kJ b (k+1))) 3 1] _;rw[show kJ b (k+1)=kJ b k++[((k:Nat):Int)]by rw[ww,if_pos (by rw[j7,decide_eq_true (by assumption)])],aj,eJ]
   exact ao [1] rfl q)
 refine nx J9 (CN (aT (ah (af J7 (ag (AD ?_))))));refine PS ?_;refine ax ?_
 exact aN ((k+1,u):(Nat)×(Value)) ⟨by omega,hu⟩ (by show 5- (k+1)<5-k;omega)
  SB
  (λ_ q=>by
   show bN [own u (kJ b (k+1)).length (ints (kJ b (k+1))) 3 1] _;rw[show kJ b (k+1)=kJ b k by rw[ww,if_neg (by rw[j7,decide_eq_false (by assumption)];decide),aU]]
   exact ao [0] rfl q)
 refine nx J5 (aa λ_ J10=>CN (bg (aC (aC (bD (af J3 (sr λ_ J11=>P2 ?_)))))));refine nx J11 (ak (WK [0] (aw rfl rfl ?_)));obtain rfl:k=5:=by omega
 exact⟨u,rfl,rfl⟩
theorem AH(part all:Int):
 DT 160 #[(.int .i64 (part)),(.int .i64 (all))] T0 [] (RI (.bool (I8 part all)) []):=by
 refine BD 15 Tryz.func160 rfl rfl rfl λw0 F hF=>sr λ_ J1=>PS ?_
 refine nx J1 (sr λ_ J2=>P2 ?_);refine tp (vA (r:=(qU .i64 part all)) rfl rfl rfl rfl) ?_;refine CR Ll (uS (qU .i64 part all)) ID λvR HR hR=>?_
 obtain⟨_,rfl,rfl⟩:=hR;revert vR;intro us1;refine kj 0 rfl rfl (λhlus1 _=>?_);have hzus1:=tW (qU .i64 part all) 5;change (x7 (qU .i64 part all)).length≤5 at hzus1;refine tp (dW rfl kE rfl hlus1) ?_;refine tp (Lh (r:=(2* (((x7 (qU .i64 part all)).length:Nat):Int))) rfl rfl rfl (bO (by omega) (by omega))) ?_;refine PS ?_;refine CR Ll (uS all) ID λvR HR hR=>?_
 obtain⟨_,rfl,rfl⟩:=hR;revert vR;intro us2;refine kj 0 rfl rfl (λhlus2 _=>?_);have hzus2:=tW all 5;change (x7 all).length≤5 at hzus2;refine tp (dW rfl kE rfl hlus2) ?_;refine P2 ?_;exact nx J2 (ak (WK [] (aw rfl rfl ⟨rfl,rfl⟩)))
theorem jE(v:ViewT)(bits:Int):
 DT 157 #[(.agg (ints v.flat).toArray),(.int .i64 (bits))] T0 [] (RI (.bool (dY v bits)) []):=by
 refine BD 9 Tryz.func157 rfl rfl rfl λw0 F hF=>sr λ_ J1=>XY (ints v.flat) λb2=>?_
 refine PS ?_;refine nx J1 (sr λ_ J2=>PS ?_);refine FA 1 eL aQ ?_;refine LU 0 Y3 (ml v rfl) ?_;refine CE NO (AH bits v.members) ID ?_;refine PS ?_;exact nx J2 (ak (WK [] (aw rfl rfl ⟨rfl,rfl⟩)))
theorem Ab(v:ViewT)(b:BallotT)(ch:ChangeT):
 DT 110 #[(.agg (ints v.flat).toArray),(.agg (ints b.flat).toArray),(.agg (ints ch.flat).toArray)] T0 [] (dL (λr' H=>∃vb,r'= .pointer (some ⟨vb,0,none⟩)∧H=[an vb (VoteT.cells (iA v b ch)) 187])):=by
 refine BD 12 Tryz.func110 rfl rfl rfl λw0 F hF=>sr λ_ J1=>XY (ints v.flat) λb3=>?_
 refine XY (ints b.flat) λb4=>?_
 refine XY (ints ch.flat) λb5=>?_
 refine PS ?_;refine nx J1 (sr λ_ J2=>LW 2 eL be ai ?_);refine LW 1 kB cA ap ?_;refine LW 0 nt fR aK ?_;refine tp (yC (cs:=VoteT.cells (VoteT.mk v b ch BallotT.zero 0 0 false)) (segs:=[ints ViewT.zero.flat,ints BallotT.zero.flat,ints ChangeT.zero.flat,ints BallotT.zero.flat,[Value.int .i64 0],[Value.int .i64 0],[Value.bool false]]) (res:=[ints v.flat,ints b.flat,ints ch.flat,ints BallotT.zero.flat,[Value.int .i64 0],[Value.int .i64 0],[Value.bool false]]) (parts:=[(0,ints v.flat),(1,ints b.flat),(2,ints ch.flat)]) rfl rfl jS (by kernel_rfl) (by kernel_rfl) rfl (fA rfl ((ai v).trans (ai ViewT.zero).symm) (fA rfl ((ap b).trans (ap BallotT.zero).symm) (fA rfl ((aK ch).trans (aK ChangeT.zero).symm) lS))) (fN (VoteT.mk v b ch BallotT.zero 0 0 false)).symm) ?_;refine XY (VoteT.cells (VoteT.mk v b ch BallotT.zero 0 0 false)) λb11=>?_
 refine PS ?_;exact nx J2 (ak (WK [0] (aw rfl rfl ⟨b11,rfl,rfl⟩)))
theorem bK(vb:Nat)(v:VoteT):
 DT 111 #[(.pointer (some ⟨vb,0,none⟩))] T0 [an vb (VoteT.cells v) 187] (RI (.agg (ints v.ballot.flat).toArray) [an vb (VoteT.cells v) 187]):=by
 refine BD 7 Tryz.func111 rfl rfl rfl λw0 F hF=>sr λ_ J1=>XZ ON (ints BallotT.zero.flat) λb2=>?_
 refine nx J1 (sr λ_ J2=>P2 ?_);refine FA 7 jS cA ?_;refine LV 1 kB cA ap VoteT.sp_ballot (y:=v.ballot) ?_;refine SW 0 cA ap ?_;refine nx J2 (ak (RC 0 [1] kB cA (ap _) ?_));exact⟨rfl,rfl⟩
theorem c8(vb:Nat)(v:VoteT):
 DT 69 #[(.pointer (some ⟨vb,0,none⟩))] T0 [an vb (VoteT.cells v) 187] (RI (.agg (ints v.change.flat).toArray) [an vb (VoteT.cells v) 187]):=by
 refine BD 7 Tryz.func69 rfl rfl rfl λw0 F hF=>sr λ_ J1=>XZ OO (ints ChangeT.zero.flat) λb2=>?_
 refine nx J1 (sr λ_ J2=>P2 ?_);refine FA 9 jS fR ?_;refine LV 1 nt fR aK VoteT.sp_change (y:=v.change) ?_;refine SW 0 fR aK ?_;refine nx J2 (ak (RC 0 [1] nt fR (aK _) ?_));exact⟨rfl,rfl⟩
theorem oh(vb:Nat)(v:VoteT):
 DT 112 #[(.pointer (some ⟨vb,0,none⟩))] T0 [an vb (VoteT.cells v) 187] (RI (.bool v.putting) [an vb (VoteT.cells v) 187]):=by
 refine BD 7 Tryz.func112 rfl rfl rfl λw0 F hF=>sr λ_ J1=>PS ?_
 refine nx J1 (sr λ_ J2=>P2 ?_);refine FA 16 jS lm ?_;refine LU 0 Y4 (mj v rfl) ?_;refine PS ?_;exact nx J2 (ak (WK [0] (aw rfl rfl ⟨rfl,rfl⟩)))
theorem D5(vb:Nat)(v:VoteT)(who:Int)(b had:BallotT)(ch:ChangeT)(hb:WF b.flat)(hvb:WF v.ballot.flat):
 DT 138 #[(.pointer (some ⟨vb,0,none⟩)),(.int .i64 (who)),(.agg (ints b.flat).toArray),(.agg (ints had.flat).toArray),(.agg (ints ch.flat).toArray)] T0 [an vb (VoteT.cells v) 187] (RI (.bool (dT v who b had ch).2) [an vb (VoteT.cells (dT v who b had ch).1) 187]):=by
 refine BD 76 Tryz.func138 rfl rfl rfl λw0 F hF=>sr λ_ J1=>XY (ints b.flat) λb7=>?_
 refine XY (ints had.flat) λb8=>?_
 refine XY (ints ch.flat) λb9=>?_
 refine PS ?_;refine nx J1 (aa λ_ J2=>aa λ_ J3=>D2 3 2 bo ?_);refine PD 0 ?_;refine PD 1 ?_;refine FD 2 16 jS lm ?_;refine LR 3 Y4 (mj v rfl) ?_;refine rZ ?_ ?_<;>intro h14;refine PD 4 ?_;refine NT 5 ?_;refine NT 6 ?_;refine NT 7 ?_;refine NT 8 ?_;refine NT 9 ?_;refine NT 10 ?_;refine PD 11 ?_;refine PD 12 ?_;refine NT 13 ?_;refine NT 14 ?_;refine NT 15 ?_;refine NT 16 ?_;refine NT 17 ?_;refine NT 18 ?_;refine NT 19 ?_;refine PD 20 ?_;refine DN (af J3 (CY (sr λ_ J4=>PS ?_)));refine nx J4 (ak (ae (WK [3] (aw rfl rfl ?_))));have e:dT v who b had ch=(v,false):=by rw[dT,h14,if_pos (by rfl)]
 exact⟨congrArg (λq:VoteT×Bool=>Value.bool q.2) e.symm,congrArg (λq:VoteT×Bool=>[an vb (VoteT.cells q.1) 187]) e.symm⟩;refine PD 4 ?_;refine LY 5 kB cA ap ?_;refine PD 6 ?_;refine PD 7 ?_;refine FD 8 7 jS cA ?_;refine tb 9 rfl (aL (vs:=ints v.ballot.flat) rfl kB rfl cA rfl (λ_ h=>h.2.1) (ap v.ballot) (Ld v 0 rfl (by decide) (bn (ap v.ballot)))) ?_;refine tb 10 rfl (DV (a:=b.flat) (b:=v.ballot.flat) (m:=6) (c:=2) Mf Me rfl MI (du (ap b)) (du (ap v.ballot)) ⟨gh HA HL (du (ap b)),gh HA HL (du (ap v.ballot))⟩ hb hvb rfl rfl rfl) ?_;refine jT ?_ ?_<;>intro h21;refine PD 11 ?_;refine PD 12 ?_;refine NT 13 ?_;refine NT 14 ?_;refine NT 15 ?_;refine NT 16 ?_;refine NT 17 ?_;refine NT 18 ?_;refine NT 19 ?_;refine PD 20 ?_;refine DN (af J3 (CY (sr λ_ J5=>PS ?_)));refine nx J5 (ak (ae (WK [3] (aw rfl rfl ?_))));have e:dT v who b had ch=(v,false):=by rw[dT,kU,decide_eq_false h21,if_pos (by rw[h14];rfl)]
 exact⟨congrArg (λq:VoteT×Bool=>Value.bool q.2) e.symm,congrArg (λq:VoteT×Bool=>[an vb (VoteT.cells q.1) 187]) e.symm⟩;refine PD 11 ?_;refine PD 12 ?_;refine PD 13 ?_;refine PD 14 ?_;refine FD 15 0 jS be ?_;refine tb 16 rfl (aL (vs:=ints v.view.flat) rfl eL rfl be rfl (λ_ h=>h.2.1) (ai v.view) (DI v 0 rfl (by decide) (bn (ai v.view)))) ?_;refine PD 17 ?_;refine AL 18 ?_;refine CE qh (dH v.view who) ID ?_;refine bh ?_ ?_<;>intro h29;have hw:0≤who∧who<5:=by unfold gA cw at h29;simp only[au,decide_eq_true_eq]at h29;exact h29.1
 refine EN (PD 19 ?_);refine PD 20 ?_;refine DN (af J3 (CN (qx J2 (aa λ_ J6=>D0 bo ?_))));refine PD 0 ?_;refine PD 1 ?_;refine FD 2 14 jS aQ ?_;refine PD 4 ?_;refine ta 5 rfl (yz (r:=(cn who)) rfl rfl rfl (by omega) rfl) ?_;refine AL 3 ?_;refine LU 3 Y3 (l4 v rfl) ?_;refine EN (ta 6 rfl (JM (r:=(gH .i64 v.vowed (cn who))) rfl rfl rfl rfl) ?_);refine PD 7 ?_;refine FD 8 14 jS aQ ?_;refine AL 9 ?_;refine SS 3 aQ (nW _) (VoteT.set_vowed v rfl _) ?_;refine EN (DN (af J6 (aa λ_ J7=>aa λ_ J8=>D2 1 3 bo ?_)));refine FD 0 0 kB aQ ?_;refine LR 1 Y3 (fx had rfl) ?_;refine PD 2 ?_;refine jT ?_ ?_<;>intro h43;refine PD 3 ?_;refine PD 4 ?_;refine PD 5 ?_;refine FD 6 12 jS cA ?_;refine tb 7 rfl (aL (vs:=ints v.best.flat) rfl kB rfl cA rfl (λ_ h=>h.2.2.1) (ap v.best) (VoteT.sub_best (VoteT.mk v.view v.ballot v.change v.best (gH .i64 v.vowed (cn who)) v.took v.putting) 0 rfl (by decide) (bn (ap v.best)))) ?_;refine LY 8 kB cA ap ?_;refine AL 9 ?_;refine CE Ln (zn v.best had) ID ?_;refine bh ?_ ?_<;>intro h50;refine EN (PD 10 ?_);refine DN (af J8 (CY (D2 1 0 bo ?_)));refine PD 0 ?_;refine PD 1 ?_;refine LY 2 kB cA ap ?_;refine LY 3 nt fR aK ?_;refine PD 4 ?_;refine FD 5 12 jS cA ?_;refine AL 6 ?_;refine SP 3 cA ap nW VoteT.wp_best ?_;refine EN (PD 7 ?_);refine FD 8 9 jS fR ?_;refine AL 9 ?_;refine SP 3 fR aK nW VoteT.wp_change ?_
 refine EN (DN (af J7 (aa λ_ J9=>fo (α:=Unit) (λ_=>True) (λ_u=>[(0,(.pointer (some ⟨vb,0,none⟩))),(10,(.bool false))]) (λ_u=>[an b9 (ints ch.flat) 33,an b8 (ints had.flat) 87,an b7 (ints b.flat) 87,an vb (VoteT.cells (VoteT.mk v.view v.ballot ch had (gH .i64 v.vowed (cn who)) v.took (dY v.view (gH .i64 v.vowed (cn who))))) 187]) (λ_u _=>?_) (λtl9=>?_))));refine af J9 (sr λ_ J10=>P2 ?_);refine FA 16 jS lm ?_;refine LT 3 Y4 (.bool (dY v.view (gH .i64 v.vowed (cn who)))) ?_ (hc:=by exact mj _ rfl);refine PS ?_;refine nx J10 (ak (WK [3] (aw rfl rfl ?_)));have e:dT v who b had ch=((VoteT.mk v.view v.ballot ch had (gH .i64 v.vowed (cn who)) v.took (dY v.view (gH .i64 v.vowed (cn who)))),dY v.view (gH .i64 v.vowed (cn who))):=by rw[dT,kU,decide_eq_true (show b.flat=v.ballot.flat from Decidable.not_not.1 h21),h29,h14,if_neg (by decide),cN,decide_eq_true (show 0<had.round by omega),h50,if_pos (by decide)]
 exact⟨congrArg (λq:VoteT×Bool=>Value.bool q.2) e.symm,congrArg (λq:VoteT×Bool=>[an vb (VoteT.cells q.1) 187]) e.symm⟩;refine D0 bo ?_;refine PD 0 ?_;refine PD 1 ?_;refine PD 2 ?_;refine FD 3 0 jS be ?_;refine PD 5 ?_;refine PD 6 ?_;refine FD 7 14 jS aQ ?_;refine cQ [4,8] (by kernel_rfl) rfl (aH rfl ?_ ?_);refine LV 3 eL be ai pQ (y:=v.view) ?_;refine EN (AL 8 ?_);refine LT 3 Y3 (.int .i64 ((gH .i64 v.vowed (cn who)))) ?_ (hc:=by exact l4 _ rfl);refine EN (AL 9 ?_);refine CE w3 (jE v.view (gH .i64 v.vowed (cn who))) ID ?_;refine EN (PD 10 ?_);refine FD 11 16 jS lm ?_;refine AL 12 ?_;refine SS 3 lm (nW _) (ly _ rfl _) ?_;refine EN (DN ?_)
 exact aG
  SB
  (λ_ s=>s)
  (tl9 (():Unit) trivial)
 refine aH rfl ?_ ?_;refine LT 3 Y3 (.int .i64 ((gH .i64 v.vowed (cn who)))) ?_ (hc:=by exact l4 _ rfl);refine EN (AL 4 ?_);refine LV 3 eL be ai pQ (y:=v.view) ?_;refine EN (AL 9 ?_);refine CE w3 (jE v.view (gH .i64 v.vowed (cn who))) ID ?_;refine EN (PD 10 ?_);refine FD 11 16 jS lm ?_;refine AL 12 ?_;refine SS 3 lm (nW _) (ly _ rfl _) ?_;refine EN (DN ?_)
 exact aG
  SB
  (λ_ s=>s)
  (tl9 (():Unit) trivial)
 exact bL;refine EN (PD 10 ?_);refine DN (af J8 (CN (qx J7 (aa λ_ J11=>fo (α:=Unit) (λ_=>True) (λ_u=>[(0,(.pointer (some ⟨vb,0,none⟩))),(10,(.bool false))]) (λ_u=>[an b9 (ints ch.flat) 33,an b8 (ints had.flat) 87,an b7 (ints b.flat) 87,an vb (VoteT.cells (VoteT.mk v.view v.ballot v.change v.best (gH .i64 v.vowed (cn who)) v.took (dY v.view (gH .i64 v.vowed (cn who))))) 187]) (λ_u _=>?_) (λtl11=>?_)))));refine af J11 (sr λ_ J12=>P2 ?_);refine FA 16 jS lm ?_;refine LT 3 Y4 (.bool (dY v.view (gH .i64 v.vowed (cn who)))) ?_ (hc:=by exact mj _ rfl);refine PS ?_;refine nx J12 (ak (WK [3] (aw rfl rfl ?_)));have e:dT v who b had ch=((VoteT.mk v.view v.ballot v.change v.best (gH .i64 v.vowed (cn who)) v.took (dY v.view (gH .i64 v.vowed (cn who)))),dY v.view (gH .i64 v.vowed (cn who))):=by rw[dT,kU,decide_eq_true (show b.flat=v.ballot.flat from Decidable.not_not.1 h21),h29,h14,if_neg (by decide),cN,h50,kq,if_neg (by decide)]
 exact⟨congrArg (λq:VoteT×Bool=>Value.bool q.2) e.symm,congrArg (λq:VoteT×Bool=>[an vb (VoteT.cells q.1) 187]) e.symm⟩;refine D0 bo ?_;refine PD 0 ?_;refine PD 1 ?_;refine PD 2 ?_;refine FD 3 0 jS be ?_;refine PD 5 ?_;refine PD 6 ?_;refine FD 7 14 jS aQ ?_;refine cQ [4,8] (by kernel_rfl) rfl (aH rfl ?_ ?_);refine LV 3 eL be ai pQ (y:=v.view) ?_;refine EN (AL 8 ?_);refine LT 3 Y3 (.int .i64 ((gH .i64 v.vowed (cn who)))) ?_ (hc:=by exact l4 _ rfl);refine EN (AL 9 ?_);refine CE w3 (jE v.view (gH .i64 v.vowed (cn who))) ID ?_;refine EN (PD 10 ?_);refine FD 11 16 jS lm ?_;refine AL 12 ?_;refine SS 3 lm (nW _) (ly _ rfl _) ?_;refine EN (DN ?_)
 exact aG
  SB
  (λ_ s=>s)
  (tl11 (():Unit) trivial)
 refine aH rfl ?_ ?_;refine LT 3 Y3 (.int .i64 ((gH .i64 v.vowed (cn who)))) ?_ (hc:=by exact l4 _ rfl);refine EN (AL 4 ?_);refine LV 3 eL be ai pQ (y:=v.view) ?_;refine EN (AL 9 ?_);refine CE w3 (jE v.view (gH .i64 v.vowed (cn who))) ID ?_;refine EN (PD 10 ?_);refine FD 11 16 jS lm ?_;refine AL 12 ?_;refine SS 3 lm (nW _) (ly _ rfl _) ?_;refine EN (DN ?_)
 exact aG
  SB
  (λ_ s=>s)
  (tl11 (():Unit) trivial)
 exact bL;refine PD 3 ?_;refine NT 4 ?_;refine NT 5 ?_;refine NT 6 ?_;refine NT 7 ?_;refine NT 8 ?_;refine NT 9 ?_;refine PD 10 ?_;refine DN (af J8 (CN (qx J7 (aa λ_ J13=>fo (α:=Unit) (λ_=>True) (λ_u=>[(0,(.pointer (some ⟨vb,0,none⟩))),(10,(.bool false))]) (λ_u=>[an b9 (ints ch.flat) 33,an b8 (ints had.flat) 87,an b7 (ints b.flat) 87,an vb (VoteT.cells (VoteT.mk v.view v.ballot v.change v.best (gH .i64 v.vowed (cn who)) v.took (dY v.view (gH .i64 v.vowed (cn who))))) 187]) (λ_u _=>?_) (λtl13=>?_)))));refine af J13 (sr λ_ J14=>P2 ?_);refine FA 16 jS lm ?_;refine LT 3 Y4 (.bool (dY v.view (gH .i64 v.vowed (cn who)))) ?_ (hc:=by exact mj _ rfl);refine PS ?_;refine nx J14 (ak (WK [3] (aw rfl rfl ?_)));have e:dT v who b had ch=((VoteT.mk v.view v.ballot v.change v.best (gH .i64 v.vowed (cn who)) v.took (dY v.view (gH .i64 v.vowed (cn who)))),dY v.view (gH .i64 v.vowed (cn who))):=by rw[dT,kU,decide_eq_true (show b.flat=v.ballot.flat from Decidable.not_not.1 h21),h29,h14,if_neg (by decide),cN,decide_eq_false (show ¬0<had.round by omega),ik,if_neg (by decide)]
 exact⟨congrArg (λq:VoteT×Bool=>Value.bool q.2) e.symm,congrArg (λq:VoteT×Bool=>[an vb (VoteT.cells q.1) 187]) e.symm⟩;refine D0 bo ?_;refine PD 0 ?_;refine PD 1 ?_;refine PD 2 ?_;refine FD 3 0 jS be ?_;refine PD 5 ?_;refine PD 6 ?_;refine FD 7 14 jS aQ ?_;refine cQ [4,8] (by kernel_rfl) rfl (aH rfl ?_ ?_);refine LV 3 eL be ai pQ (y:=v.view) ?_;refine EN (AL 8 ?_);refine LT 3 Y3 (.int .i64 ((gH .i64 v.vowed (cn who)))) ?_ (hc:=by exact l4 _ rfl);refine EN (AL 9 ?_);refine CE w3 (jE v.view (gH .i64 v.vowed (cn who))) ID ?_;refine EN (PD 10 ?_);refine FD 11 16 jS lm ?_;refine AL 12 ?_;refine SS 3 lm (nW _) (ly _ rfl _) ?_;refine EN (DN ?_)
 exact aG
  SB
  (λ_ s=>s)
  (tl13 (():Unit) trivial)
 refine aH rfl ?_ ?_;refine LT 3 Y3 (.int .i64 ((gH .i64 v.vowed (cn who)))) ?_ (hc:=by exact l4 _ rfl);refine EN (AL 4 ?_);refine LV 3 eL be ai pQ (y:=v.view) ?_;refine EN (AL 9 ?_);refine CE w3 (jE v.view (gH .i64 v.vowed (cn who))) ID ?_;refine EN (PD 10 ?_);refine FD 11 16 jS lm ?_;refine AL 12 ?_;refine SS 3 lm (nW _) (ly _ rfl _) ?_;refine EN (DN ?_)
 exact aG
  SB
  (λ_ s=>s)
  (tl13 (():Unit) trivial)
 exact bL;refine EN (PD 19 ?_);refine PD 20 ?_;refine DN (af J3 (CY (sr λ_ J15=>PS ?_)));refine nx J15 (ak (ae (WK [3] (aw rfl rfl ?_))));have e:dT v who b had ch=(v,false):=by rw[dT,kU,h29,if_pos (by rw[h14,kq];rfl)]
 exact⟨congrArg (λq:VoteT×Bool=>Value.bool q.2) e.symm,congrArg (λq:VoteT×Bool=>[an vb (VoteT.cells q.1) 187]) e.symm⟩
theorem Ef(vb:Nat)(v:VoteT)(who:Int)(b:BallotT)(hb:WF b.flat)(hvb:WF v.ballot.flat):
 DT 139 #[(.pointer (some ⟨vb,0,none⟩)),(.int .i64 (who)),(.agg (ints b.flat).toArray)] T0 [an vb (VoteT.cells v) 187] (RI (.bool (fl v who b).2) [an vb (VoteT.cells (fl v who b).1) 187]):=by
 refine BD 47 Tryz.func139 rfl rfl rfl λw0 F hF=>sr λ_ J1=>XY (ints b.flat) λb5=>?_
 refine PS ?_;refine nx J1 (aa λ_ J2=>aa λ_ J3=>D2 1 0 bo ?_);refine PD 0 ?_;refine PD 1 ?_;refine FD 2 16 jS lm ?_;refine LR 3 Y4 (mj v rfl) ?_;refine rZ ?_ ?_<;>intro h10;refine PD 4 ?_;refine PD 5 ?_;refine LY 6 kB cA ap ?_;refine PD 7 ?_;refine PD 8 ?_;refine FD 9 7 jS cA ?_;refine tb 10 rfl (aL (vs:=ints v.ballot.flat) rfl kB rfl cA rfl (λ_ h=>h.2.1) (ap v.ballot) (Ld v 0 rfl (by decide) (bn (ap v.ballot)))) ?_;refine tb 11 rfl (DV (a:=b.flat) (b:=v.ballot.flat) (m:=6) (c:=2) Mf Me rfl MI (du (ap b)) (du (ap v.ballot)) ⟨gh HA HL (du (ap b)),gh HA HL (du (ap v.ballot))⟩ hb hvb rfl rfl rfl) ?_;refine jT ?_ ?_<;>intro h18;refine PD 12 ?_;refine PD 13 ?_;refine NT 14 ?_;refine NT 15 ?_;refine NT 16 ?_;refine NT 17 ?_;refine NT 18 ?_;refine NT 19 ?_;refine NT 20 ?_;refine PD 21 ?_;refine DN (af J3 (CY (sr λ_ J4=>PS ?_)));refine nx J4 (ak (ae (WK [1] (aw rfl rfl ?_))));have e:fl v who b=(v,false):=by rw[fl,kU,decide_eq_false h18,if_pos (by rw[h10];rfl)]
 exact⟨congrArg (λq:VoteT×Bool=>Value.bool q.2) e.symm,congrArg (λq:VoteT×Bool=>[an vb (VoteT.cells q.1) 187]) e.symm⟩;refine PD 12 ?_;refine PD 13 ?_;refine PD 14 ?_;refine PD 15 ?_;refine FD 16 0 jS be ?_;refine tb 17 rfl (aL (vs:=ints v.view.flat) rfl eL rfl be rfl (λ_ h=>h.2.1) (ai v.view) (DI v 0 rfl (by decide) (bn (ai v.view)))) ?_;refine PD 18 ?_;refine AL 19 ?_;refine CE qh (dH v.view who) ID ?_;refine bh ?_ ?_<;>intro h26;have hw:0≤who∧who<5:=by unfold gA cw at h26;simp only[au,decide_eq_true_eq]at h26;exact h26.1
 refine EN (PD 20 ?_);refine PD 21 ?_;refine DN (af J3 (CN (qx J2 (aa λ_ J5=>D0 bo ?_))));refine PD 0 ?_;refine PD 1 ?_;refine FD 2 15 jS aQ ?_;refine PD 4 ?_;refine ta 5 rfl (yz (r:=(cn who)) rfl rfl rfl (by omega) rfl) ?_;refine AL 3 ?_;refine LU 1 Y3 (VoteT.at_took v rfl) ?_;refine EN (ta 6 rfl (JM (r:=(gH .i64 v.took (cn who))) rfl rfl rfl rfl) ?_);refine PD 7 ?_;refine FD 8 15 jS aQ ?_;refine AL 9 ?_;refine SS 1 aQ (nW _) (VoteT.set_took v rfl _) ?_;refine EN (DN (af J5 (aa λ_ J6=>D1 1 bo ?_)));refine PD 0 ?_;refine PD 1 ?_;refine FD 2 0 jS be ?_;refine ta 3 rfl (aL (vs:=ints v.view.flat) rfl eL rfl be rfl (λ_ h=>h.2.1) (ai v.view) (DI (VoteT.mk v.view v.ballot v.change v.best v.vowed (gH .i64 v.took (cn who)) v.putting) 0 rfl (by decide) (bn (ai v.view)))) ?_;refine PD 4 ?_;refine PD 5 ?_;refine FD 6 15 jS aQ ?_;refine LX 7 Y3 (.int .i64 ((gH .i64 v.took (cn who)))) ?_ (hc:=by exact VoteT.at_took _ rfl);refine AL 8 ?_;refine CE w3 (jE v.view (gH .i64 v.took (cn who))) ID ?_;refine EN (PD 9 ?_);refine DN (af J6 (ak (WK [1] (aw rfl rfl ?_))));have e:fl v who b=((VoteT.mk v.view v.ballot v.change v.best v.vowed (gH .i64 v.took (cn who)) v.putting),dY v.view (gH .i64 v.took (cn who))):=by rw[fl,kU,decide_eq_true (show b.flat=v.ballot.flat from Decidable.not_not.1 h18),h26,h10,if_neg (by decide)]
 exact⟨congrArg (λq:VoteT×Bool=>Value.bool q.2) e.symm,congrArg (λq:VoteT×Bool=>[an vb (VoteT.cells q.1) 187]) e.symm⟩;refine EN (PD 20 ?_);refine PD 21 ?_;refine DN (af J3 (CY (sr λ_ J7=>PS ?_)));refine nx J7 (ak (ae (WK [1] (aw rfl rfl ?_))));have e:fl v who b=(v,false):=by rw[fl,kU,h26,if_pos (by rw[h10,kq];rfl)]
 exact⟨congrArg (λq:VoteT×Bool=>Value.bool q.2) e.symm,congrArg (λq:VoteT×Bool=>[an vb (VoteT.cells q.1) 187]) e.symm⟩;refine PD 4 ?_;refine PD 5 ?_;refine NT 6 ?_;refine NT 7 ?_;refine NT 8 ?_;refine NT 9 ?_;refine NT 10 ?_;refine NT 11 ?_;refine PD 12 ?_;refine PD 13 ?_;refine NT 14 ?_;refine NT 15 ?_;refine NT 16 ?_;refine NT 17 ?_;refine NT 18 ?_;refine NT 19 ?_;refine NT 20 ?_;refine PD 21 ?_;refine DN (af J3 (CY (sr λ_ J8=>PS ?_)));refine nx J8 (ak (ae (WK [1] (aw rfl rfl ?_))));have e:fl v who b=(v,false):=by rw[fl,h10,if_pos (by rfl)]
 exact⟨congrArg (λq:VoteT×Bool=>Value.bool q.2) e.symm,congrArg (λq:VoteT×Bool=>[an vb (VoteT.cells q.1) 187]) e.symm⟩
theorem A9{δ:Type}(V:Env δ)(r vb:Nat)(s:MS δ)(vt:VoteT)(hv:s.vote=some vt)[OkR V.toDk s]:
 DT 140 #[(.pointer (some ⟨r,0,none⟩)),(.iface V.T V.ov)] T0 [vO V r s (.pointer (some ⟨vb,0,none⟩)),an vb (VoteT.cells vt) 187] (dL (λ_ H=>H=[cK V r (ky V.toDk s vt.change)])):=by
 refine BD 32 Tryz.func140 rfl rfl rfl λw0 F hF=>aa λ_ J1=>fo (α:=(Nat)) (λ_=>True) (λb4=>[(0,(.pointer (some ⟨r,0,none⟩))),(1,(.iface V.T V.ov)),(4,(.pointer (some ⟨b4,0,none⟩))),(5,(.int .i64 ((cm s.view vt.change).2)))]) (λb4=>[an b4 (ints ((cm s.view vt.change).1).flat) 29,an vb (VoteT.cells vt) 187,vO V r s (.pointer (some ⟨vb,0,none⟩))]) (λb4 _=>?_) (λtl1=>?_)
 refine af J1 (aa λ_ J2=>sr λ_ J3=>cB (H':=cK V r s::[an b4 (ints ((cm s.view vt.change).1).flat) 29]) (λ_ q=>ow hv (aE [2,1] rfl q)) (P2 ?_));refine aq ?_ ?_<;>intro h20;refine PS ?_
 iterate 5 refine UT ?_
 refine PS ?_;refine nx J3 (CY (ak (ae (WK [0] (dM rfl ?_)))));exact MQ (by rw[ky,if_pos h20]);refine P3 ?_;refine LW 1 eL be ai ?_;refine CE I2 (uW V r s ((cm s.view vt.change).1)) ID ?_;refine bh ?_ ?_<;>intro h25;refine PS ?_;refine PS ?_;refine nx J3 (CN (qx J2 (ag (P2 ?_))));refine LW 1 eL be ai ?_;refine CZ Mr (m6 V r (gm V.toDk s ((cm s.view vt.change).1)) ((cm s.view vt.change).1)) ID λvR=>?_
 refine ax (WK [0] (bE rfl ?_));exact MQ (by rw[ky,if_neg h20,h25,if_pos rfl]);refine PS ?_;refine PS ?_;refine nx J3 (CY (ak (ae (WK [0] (dM rfl ?_)))));exact MQ (by rw[ky,if_neg h20,h25,if_neg (by decide)]);refine D1 1 bo ?_;refine PD 0 ?_;refine PD 1 ?_;refine FD 2 2 db be ?_;refine PD 4 ?_;refine PD 5 ?_;refine FD 6 1067 db m8 ?_;refine cQ [3,7,13] (by kernel_rfl) rfl (aH rfl ?_ ?_);refine LZ 0 eL be ai s.view ?_ (hc:=by exact λ_=>cT _);refine EN (cQ [7,13] (by kernel_rfl) rfl (aH rfl ?_ ?_));refine LG 0 pI (.pointer (some ⟨vb,0,none⟩)) ?_ (hc:=by exact λa_=>(bZ _ rfl));refine EN (cQ [8,13] (by kernel_rfl) rfl (aH rfl ?_ ?_));refine CE ui (c8 vb vt) (SM [1]) ?_;refine EN (cQ [9,13] (by kernel_rfl) rfl (aH rfl ?_ ?_));refine CE mI (dq s.view vt.change OkVw.rng) ID ?_;refine EN (PD 10 ?_);refine PD 11 ?_;refine PD 12 ?_;refine AL 13 ?_;refine XZ pM (ints ViewT.zero.flat) λb4=>?_
 refine EN (AL 14 ?_);refine SW 0 be ai ?_;refine EN (PD 15 ?_);refine DN ?_
 exact aG
  SB
  (λ_ s=>s)
  (tl1 ((b4):(Nat)) trivial)
 refine aH rfl ?_ ?_;refine XZ pM (ints ViewT.zero.flat) λb4=>?_
 refine EN (AL 9 ?_);refine CE mI (dq s.view vt.change OkVw.rng) ID ?_;refine EN (PD 10 ?_);refine PD 11 ?_;refine PD 12 ?_;refine AL 14 ?_;refine SW 0 be ai ?_;refine EN (PD 15 ?_);refine DN ?_
 exact aG
  SB
  (λ_ s=>s)
  (tl1 ((b4):(Nat)) trivial)
 exact bL;refine aH rfl ?_ ?_;refine XZ pM (ints ViewT.zero.flat) λb4=>?_
 refine EN (AL 8 ?_);refine CE ui (c8 vb vt) (SM [2]) ?_;refine EN (AL 9 ?_);refine CE mI (dq s.view vt.change OkVw.rng) ID ?_;refine EN (PD 10 ?_);refine PD 11 ?_;refine PD 12 ?_;refine AL 14 ?_;refine SW 1 be ai ?_;refine EN (PD 15 ?_);refine DN ?_
 exact aG
  SB
  (λ_ s=>ao [1,0,0] rfl s)
  (tl1 ((b4):(Nat)) trivial)
 exact bL;refine aH rfl ?_ ?_;refine XZ pM (ints ViewT.zero.flat) λb4=>?_
 refine EN (AL 7 ?_);refine LG 1 pI (.pointer (some ⟨vb,0,none⟩)) ?_ (hc:=by exact λa_=>(bZ _ rfl));refine EN (AL 8 ?_);refine CE ui (c8 vb vt) (SM [2]) ?_;refine EN (AL 9 ?_);refine CE mI (dq s.view vt.change OkVw.rng) ID ?_;refine EN (PD 10 ?_);refine PD 11 ?_;refine PD 12 ?_;refine AL 14 ?_;refine SW 1 be ai ?_;refine EN (PD 15 ?_);refine DN ?_
 exact aG
  SB
  (λ_ s=>ao [1,0,0] rfl s)
  (tl1 ((b4):(Nat)) trivial)
 exact bL;refine aH rfl ?_ ?_;refine LG 0 pI (.pointer (some ⟨vb,0,none⟩)) ?_ (hc:=by exact λa_=>(bZ _ rfl));refine EN (cQ [3,8,13] (by kernel_rfl) rfl (aH rfl ?_ ?_));refine LZ 0 eL be ai s.view ?_ (hc:=by exact λ_=>cT _);refine EN (cQ [8,13] (by kernel_rfl) rfl (aH rfl ?_ ?_));refine CE ui (c8 vb vt) (SM [1]) ?_;refine EN (cQ [9,13] (by kernel_rfl) rfl (aH rfl ?_ ?_));refine CE mI (dq s.view vt.change OkVw.rng) ID ?_;refine EN (PD 10 ?_);refine PD 11 ?_;refine PD 12 ?_;refine AL 13 ?_;refine XZ pM (ints ViewT.zero.flat) λb4=>?_
 refine EN (AL 14 ?_);refine SW 0 be ai ?_;refine EN (PD 15 ?_);refine DN ?_
 exact aG
  SB
  (λ_ s=>s)
  (tl1 ((b4):(Nat)) trivial)
 refine aH rfl ?_ ?_;refine XZ pM (ints ViewT.zero.flat) λb4=>?_
 refine EN (AL 9 ?_);refine CE mI (dq s.view vt.change OkVw.rng) ID ?_;refine EN (PD 10 ?_);refine PD 11 ?_;refine PD 12 ?_;refine AL 14 ?_;refine SW 0 be ai ?_;refine EN (PD 15 ?_);refine DN ?_
 exact aG
  SB
  (λ_ s=>s)
  (tl1 ((b4):(Nat)) trivial)
 exact bL;refine aH rfl ?_ ?_;refine XZ pM (ints ViewT.zero.flat) λb4=>?_
 refine EN (AL 8 ?_);refine CE ui (c8 vb vt) (SM [2]) ?_;refine EN (AL 9 ?_);refine CE mI (dq s.view vt.change OkVw.rng) ID ?_;refine EN (PD 10 ?_);refine PD 11 ?_;refine PD 12 ?_;refine AL 14 ?_;refine SW 1 be ai ?_;refine EN (PD 15 ?_);refine DN ?_
 exact aG
  SB
  (λ_ s=>ao [1,0,0] rfl s)
  (tl1 ((b4):(Nat)) trivial)
 exact bL;refine aH rfl ?_ ?_;refine CE ui (c8 vb vt) (SM [1]) ?_;refine EN (cQ [3,13] (by kernel_rfl) rfl (aH rfl ?_ ?_));refine LZ 1 eL be ai s.view ?_ (hc:=by exact λ_=>cT _);refine EN (cQ [9,13] (by kernel_rfl) rfl (aH rfl ?_ ?_));refine CE mI (dq s.view vt.change OkVw.rng) ID ?_;refine EN (PD 10 ?_);refine PD 11 ?_;refine PD 12 ?_;refine AL 13 ?_;refine XZ pM (ints ViewT.zero.flat) λb4=>?_
 refine EN (AL 14 ?_);refine SW 0 be ai ?_;refine EN (PD 15 ?_);refine DN ?_
 exact aG
  SB
  (λ_ s=>s)
  (tl1 ((b4):(Nat)) trivial)
 refine aH rfl ?_ ?_;refine XZ pM (ints ViewT.zero.flat) λb4=>?_
 refine EN (AL 9 ?_);refine CE mI (dq s.view vt.change OkVw.rng) ID ?_;refine EN (PD 10 ?_);refine PD 11 ?_;refine PD 12 ?_;refine AL 14 ?_;refine SW 0 be ai ?_;refine EN (PD 15 ?_);refine DN ?_
 exact aG
  SB
  (λ_ s=>s)
  (tl1 ((b4):(Nat)) trivial)
 exact bL;refine aH rfl ?_ ?_;refine XZ pM (ints ViewT.zero.flat) λb4=>?_
 refine EN (AL 3 ?_);refine LZ 2 eL be ai s.view ?_ (hc:=by exact λ_=>cT _);refine EN (AL 9 ?_);refine CE mI (dq s.view vt.change OkVw.rng) ID ?_;refine EN (PD 10 ?_);refine PD 11 ?_;refine PD 12 ?_;refine AL 14 ?_;refine SW 0 be ai ?_;refine EN (PD 15 ?_);refine DN ?_
 exact aG
  SB
  (λ_ s=>s)
  (tl1 ((b4):(Nat)) trivial)
 exact bL;refine aH rfl ?_ ?_;refine XZ pM (ints ViewT.zero.flat) λb4=>?_
 refine EN (cQ [3,8] (by kernel_rfl) rfl (aH rfl ?_ ?_));refine LZ 1 eL be ai s.view ?_ (hc:=by exact λ_=>cT _);refine EN (AL 8 ?_);refine CE ui (c8 vb vt) (SM [2]) ?_;refine EN (AL 9 ?_);refine CE mI (dq s.view vt.change OkVw.rng) ID ?_;refine EN (PD 10 ?_);refine PD 11 ?_;refine PD 12 ?_;refine AL 14 ?_;refine SW 1 be ai ?_;refine EN (PD 15 ?_);refine DN ?_
 exact aG
  SB
  (λ_ s=>ao [1,0,0] rfl s)
  (tl1 ((b4):(Nat)) trivial)
 refine aH rfl ?_ ?_;refine CE ui (c8 vb vt) (SM [2]) ?_;refine EN (AL 3 ?_);refine LZ 2 eL be ai s.view ?_ (hc:=by exact λ_=>cT _);refine EN (AL 9 ?_);refine CE mI (dq s.view vt.change OkVw.rng) ID ?_;refine EN (PD 10 ?_);refine PD 11 ?_;refine PD 12 ?_;refine AL 14 ?_;refine SW 1 be ai ?_;refine EN (PD 15 ?_);refine DN ?_
 exact aG
  SB
  (λ_ s=>ao [1,0,0] rfl s)
  (tl1 ((b4):(Nat)) trivial)
 exact bL;exact bL;refine aH rfl ?_ ?_;refine XZ pM (ints ViewT.zero.flat) λb4=>?_
 refine EN (cQ [3,7] (by kernel_rfl) rfl (aH rfl ?_ ?_));refine LZ 1 eL be ai s.view ?_ (hc:=by exact λ_=>cT _);refine EN (AL 7 ?_);refine LG 1 pI (.pointer (some ⟨vb,0,none⟩)) ?_ (hc:=by exact λa_=>(bZ _ rfl));refine EN (AL 8 ?_);refine CE ui (c8 vb vt) (SM [2]) ?_;refine EN (AL 9 ?_);refine CE mI (dq s.view vt.change OkVw.rng) ID ?_;refine EN (PD 10 ?_);refine PD 11 ?_;refine PD 12 ?_;refine AL 14 ?_;refine SW 1 be ai ?_;refine EN (PD 15 ?_);refine DN ?_
 exact aG
  SB
  (λ_ s=>ao [1,0,0] rfl s)
  (tl1 ((b4):(Nat)) trivial)
 refine aH rfl ?_ ?_;refine LG 1 pI (.pointer (some ⟨vb,0,none⟩)) ?_ (hc:=by exact λa_=>(bZ _ rfl));refine EN (cQ [3,8] (by kernel_rfl) rfl (aH rfl ?_ ?_));refine LZ 1 eL be ai s.view ?_ (hc:=by exact λ_=>cT _);refine EN (AL 8 ?_);refine CE ui (c8 vb vt) (SM [2]) ?_;refine EN (AL 9 ?_);refine CE mI (dq s.view vt.change OkVw.rng) ID ?_;refine EN (PD 10 ?_);refine PD 11 ?_;refine PD 12 ?_;refine AL 14 ?_;refine SW 1 be ai ?_;refine EN (PD 15 ?_);refine DN ?_
 exact aG
  SB
  (λ_ s=>ao [1,0,0] rfl s)
  (tl1 ((b4):(Nat)) trivial)
 refine aH rfl ?_ ?_;refine CE ui (c8 vb vt) (SM [2]) ?_;refine EN (AL 3 ?_);refine LZ 2 eL be ai s.view ?_ (hc:=by exact λ_=>cT _);refine EN (AL 9 ?_);refine CE mI (dq s.view vt.change OkVw.rng) ID ?_;refine EN (PD 10 ?_);refine PD 11 ?_;refine PD 12 ?_;refine AL 14 ?_;refine SW 1 be ai ?_;refine EN (PD 15 ?_);refine DN ?_
 exact aG
  SB
  (λ_ s=>ao [1,0,0] rfl s)
  (tl1 ((b4):(Nat)) trivial)
 exact bL;exact bL;exact bL
theorem A8{δ:Type}(V:Env δ)(r:Nat)(s:MS δ)(vt:VoteT)(hv:s.vote=some vt)[OkR V.toDk s]:DT 140 #[.pointer (some ⟨r,0,none⟩), .iface V.T V.ov] T0 [cK V r s] (dL (λ_ H=>H=[cK V r (ky V.toDk s vt.change)])):=
 Leg.Does.ex (λ_ q=>nh hv q) λvb=>A9 V r vb s vt hv
theorem ox{δ:Type}{V:Env δ}{r:Nat}{s:MS δ}{H:List HP}{h:Hl}(hv:s.vote=none)(q:bN (vO V r s (.pointer none)::H) h):bN (cK V r s::H) h:=by
 have q2:=CB q
 rwa [show({s with vote:=none}:MS δ)=s by cases s;simp_all]at q2
theorem kW{δ:Type}(V:Env δ)(r:Nat)(s:MS δ)(f:MS δ→MS δ)(from':Int)(m:MsgT)[OkR V.toDk s][OkMg m](hfe:from'=s.id→m.epoch=s.view.epoch)(h3:m.kind=3→m.epoch=s.view.epoch→TK V r 136 (dp s (max s.round m.ballot.round)) from' m (f (dp s (max s.round m.ballot.round))))(h5:m.kind=5→m.epoch=s.view.epoch→TK V r 137 (dp s (max s.round m.ballot.round)) from' m (f (dp s (max s.round m.ballot.round))))(hn:m.kind≠3∧m.kind≠5→f (dp s (max s.round m.ballot.round))=(dp s (max s.round m.ballot.round)))(hv:m.kind=4∨m.kind=6→s.vote=none):
 DT 104 #[(.pointer (some ⟨r,0,none⟩)),(.iface V.T V.ov),(.int .i64 (from')),(.agg (ints m.flat).toArray)] T0 [cK V r s] (dL (λ_ H=>H=[cK V r (eT V.toDk f s from' m)])):=by
 refine BD 124 Tryz.func104 rfl rfl rfl λw0 F hF=>sr λ_ J1=>XY (ints m.flat) λb7=>?_
 refine nx J1 (aa λ_ J2=>aa λ_ J3=>DC bo (BL 0) (cV 1 rfl rfl) ?_);refine FD 0 177 bi aQ ?_;refine LR 1 Y3 (eZ m rfl) ?_;refine PD 2 ?_;refine PD 3 ?_;refine FD 4 2 db be ?_;refine FD 5 2 eL aQ ?_;refine ta 6 rfl (df (v:=(.int .i64 (s.view.epoch))) rfl Y3 rfl rfl (λ_ h=>h.2.2.1) (λa_=>(cp (s.rep a_) 0 rfl (by decide) (bf _ rfl)))) ?_;refine PD 7 ?_;refine jT ?_ ?_<;>intro h15;refine DN (af J3 (CY (aa λ_ J4=>sr λ_ J5=>FA 0 bi aQ ?_)));refine LU 0 Y3 (fa m rfl) ?_;refine PS ?_;refine aq ?_ ?_<;>intro h18;refine PS ?_
 iterate 3 refine UT ?_
 refine PS ?_;refine nx J5 (CY (ag ?_))
 iterate 5 refine PS ?_
 refine FA 2 db be ?_;refine LZ 1 eL be ai s.view ?_ (hc:=by exact λ_=>cT _);refine tp (lu MsgT.zero (MsgT.mk 7 0 RowT.zero 0 0 BallotT.zero BallotT.zero ChangeT.zero s.view) [(0,[Value.int .i64 7]),(8,ints s.view.flat)] bi bv (g:=MsgT.sg)) ?_;refine CZ jA (jN V r s from' (fI s.view) (λe=>absurd (hfe e) (by omega))) (SM [1]) λvR=>?_
 refine nx J4 (ak (ae (WK [0] (dM rfl ?_))));exact congrArg (λq=>[cK V r q]) (show(iN V.toDk s ([SaidT.mk from' (fI s.view)]))=eT V.toDk f s from' m by rw[eT,if_pos h15,if_pos (.inl h18)];rfl);refine PS ?_;refine FA 0 bi aQ ?_;refine LU 0 Y3 (fa m rfl) ?_;refine PS ?_;refine aq ?_ ?_<;>intro h22;refine PS ?_;refine nx J5 (CY (ag ?_))
 iterate 5 refine PS ?_
 refine FA 2 db be ?_;refine LZ 1 eL be ai s.view ?_ (hc:=by exact λ_=>cT _);refine tp (lu MsgT.zero (MsgT.mk 7 0 RowT.zero 0 0 BallotT.zero BallotT.zero ChangeT.zero s.view) [(0,[Value.int .i64 7]),(8,ints s.view.flat)] bi bv (g:=MsgT.sg)) ?_;refine CZ jA (jN V r s from' (fI s.view) (λe=>absurd (hfe e) (by omega))) (SM [1]) λvR=>?_
 refine nx J4 (ak (ae (WK [0] (dM rfl ?_))));exact congrArg (λq=>[cK V r q]) (show(iN V.toDk s ([SaidT.mk from' (fI s.view)]))=eT V.toDk f s from' m by rw[eT,if_pos h15,if_pos (.inr h22)];rfl);refine PS ?_;refine nx J5 (CN (qx J4 (ak (ae (WK [1] (dM rfl ?_))))));exact congrArg (λq=>[cK V r q]) (show s=eT V.toDk f s from' m by rw[eT,if_pos h15,if_neg (by omega)]);refine DN (af J3 (CN (qx J2 (aa λ_ J6=>aa λ_ J7=>DC bo (BL 0) (cV 1 rfl rfl) ?_))));refine FD 0 177 bi aQ ?_;refine LR 1 Y3 (eZ m rfl) ?_;refine PD 2 ?_;refine PD 3 ?_;refine FD 4 2 db be ?_;refine FD 5 2 eL aQ ?_;refine ta 6 rfl (df (v:=(.int .i64 (s.view.epoch))) rfl Y3 rfl rfl (λ_ h=>h.2.2.1) (λa_=>(cp (s.rep a_) 0 rfl (by decide) (bf _ rfl)))) ?_;refine PD 7 ?_;refine jT ?_ ?_<;>intro h40;refine PD 8 ?_;refine NT 9 ?_;refine NT 10 ?_;refine NT 11 ?_;refine NT 12 ?_;refine NT 13 ?_;refine NT 14 ?_;refine NT 15 ?_;refine NT 16 ?_;refine NT 17 ?_;refine NT 18 ?_;refine PD 19 ?_;refine DN (af J7 (CY (ak (ae (WK [1] (dM rfl ?_))))));exact congrArg (λq=>[cK V r q]) (show s=eT V.toDk f s from' m by rw[eT,if_neg h15,if_pos (.inl (by omega))]);refine PD 8 ?_;refine PD 9 ?_;refine PD 10 ?_;refine FD 11 2 db be ?_;refine tb 12 rfl (gD (vs:=ints s.view.flat) rfl eL rfl be rfl (λ_ h=>h.2.2.1) (ai s.view) (λa_=>(gy (s.rep a_) 0 rfl (by decide) (bn (ai ((s.rep a_).view)))))) ?_;refine PD 13 ?_;refine PD 14 ?_;refine FD 15 0 db aQ ?_
 refine tb 16 rfl (df (v:=(.int .i64 (s.id))) rfl Y3 rfl rfl (λ_ h=>h.2.2.1) (λa_=>(cF _ rfl))) ?_;refine AL 17 ?_;refine CE qh (dH s.view s.id) ID ?_;refine bh ?_ ?_<;>intro h50;refine EN (PD 18 ?_);refine PD 19 ?_;refine DN (af J7 (CN (qx J6 (aa λ_ J8=>D1 0 bo ?_))));refine PD 0 ?_;refine PD 1 ?_;refine PD 2 ?_;refine FD 3 1066 db aQ ?_;refine FD 5 178 bi cA ?_;refine FD 6 178 kB aQ ?_;refine LX 7 Y3 (.int .i64 (m.ballot.round)) ?_ (hc:=by exact MsgT.pt_ballot m 0 rfl (by decide) (fx m.ballot rfl));refine AL 4 ?_;refine LG 1 Y3 (.int .i64 (s.round)) ?_ (hc:=by exact λa_=>(vz _ rfl));refine EN (ta 8 rfl (yB rfl rfl rfl) ?_);refine PD 9 ?_;refine FD 10 1066 db aQ ?_;refine AL 11 ?_;refine SK 1 aQ (λ_=>cU _) ?_ (hc:=by exact λa_=>(l6 _ rfl _));refine EN (DN (af J8 (sr λ_ J9=>FA 0 bi aQ ?_)));refine LU 0 Y3 (fa m rfl) ?_;refine nx J9 (av (sr λ_ J10=>PS ?_));refine aq ?_ ?_<;>intro h67;refine PS ?_;refine nx J10 (CY (ag (P3 ?_)));refine LW 0 bi ci aJ ?_;refine CZ NZ ((h3 (by omega) (by omega))) (SM [1]) λvR=>?_
 refine ax (ah (WK [0] (bE rfl ?_)));exact congrArg (λq=>[cK V r q]) (show(f (dp s (max s.round m.ballot.round)))=eT V.toDk f s from' m by rw[eT,if_neg h15,if_neg (λh=>h.elim (λh=>absurd h (by omega)) (λh=>by rw[h50]at h;cases h))]);refine PS ?_;refine nx J10 (CN (sr λ_ J11=>PS ?_));refine aq ?_ ?_<;>intro h74;refine PS ?_;refine nx J11 (CY (ag (P3 ?_)));refine LW 0 bi ci aJ ?_;refine CZ NX ((h5 (by omega) (by omega))) (SM [1]) λvR=>?_
 refine ax (ah (WK [0] (bE rfl ?_)));exact congrArg (λq=>[cK V r q]) (show(f (dp s (max s.round m.ballot.round)))=eT V.toDk f s from' m by rw[eT,if_neg h15,if_neg (λh=>h.elim (λh=>absurd h (by omega)) (λh=>by rw[h50]at h;cases h))]);refine PS ?_;refine nx J11 (CN (sr λ_ J12=>PS ?_));refine aq ?_ ?_<;>intro h81;refine cB (H':=vO V r (dp s (max s.round m.ballot.round)) (.pointer none)::[an b7 (ints m.flat) 136]) (λ_ q=>sV (hv (by omega)) (aE [1] rfl q)) (PS ?_);refine nx J12 (CY (aa λ_ J13=>DC bo (cV 0 rfl rfl) (BL 1) ?_));refine PD 0 ?_;refine PD 1 ?_;refine FD 2 1067 db m8 ?_;refine ta 3 rfl (df (v:=(.pointer none)) rfl pI rfl rfl (λ_ h=>h.2.1) (λa_=>(bZ _ rfl))) ?_;refine ta 4 rfl (jo rfl pI rfl rfl) ?_;refine PD 5 ?_;refine NT 6 ?_;refine NT 7 ?_;refine NT 8 ?_;refine NT 9 ?_;refine NT 10 ?_;refine NT 11 ?_;refine NT 12 ?_;refine NT 13 ?_;refine NT 14 ?_;refine NT 15 ?_;refine NT 16 ?_;refine NT 17 ?_;refine PD 18 ?_;refine DN (af J13 (CN (aT (ah (aG (H':=[cK V r (dp s (max s.round m.ballot.round))]) (dP _) (λ_ q=>ox (hv (by omega)) (ao [0] rfl q)) (bE rfl ?_))))));exact congrArg (λq=>[cK V r q]) (show(dp s (max s.round m.ballot.round))=eT V.toDk f s from' m by rw[eT,if_neg h15,if_neg (λh=>h.elim (λh=>absurd h (by omega)) (λh=>by rw[h50]at h;cases h)),hn (by omega)]);refine PS ?_;refine nx J12 (CN (sr λ_ J14=>PS ?_));refine aq ?_ ?_<;>intro h105
 refine cB (H':=vO V r (dp s (max s.round m.ballot.round)) (.pointer none)::[an b7 (ints m.flat) 136]) (λ_ q=>sV (hv (by omega)) (aE [1] rfl q)) (PS ?_);refine nx J14 (CY (aa λ_ J15=>DC bo (cV 0 rfl rfl) (BL 1) ?_));refine PD 0 ?_;refine PD 1 ?_;refine FD 2 1067 db m8 ?_;refine ta 3 rfl (df (v:=(.pointer none)) rfl pI rfl rfl (λ_ h=>h.2.1) (λa_=>(bZ _ rfl))) ?_;refine ta 4 rfl (jo rfl pI rfl rfl) ?_;refine PD 5 ?_;refine NT 6 ?_;refine NT 7 ?_;refine NT 8 ?_;refine NT 9 ?_;refine NT 10 ?_;refine NT 11 ?_;refine NT 12 ?_;refine NT 13 ?_;refine PD 14 ?_;refine DN (af J15 (CN (aT (ah (aG (H':=[cK V r (dp s (max s.round m.ballot.round))]) (dP _) (λ_ q=>ox (hv (by omega)) (ao [0] rfl q)) (bE rfl ?_))))));exact congrArg (λq=>[cK V r q]) (show(dp s (max s.round m.ballot.round))=eT V.toDk f s from' m by rw[eT,if_neg h15,if_neg (λh=>h.elim (λh=>absurd h (by omega)) (λh=>by rw[h50]at h;cases h)),hn (by omega)]);refine PS ?_;refine nx J14 (CN (aT (ah (WK [1] (bE rfl ?_)))));exact congrArg (λq=>[cK V r q]) (show(dp s (max s.round m.ballot.round))=eT V.toDk f s from' m by rw[eT,if_neg h15,if_neg (λh=>h.elim (λh=>absurd h (by omega)) (λh=>by rw[h50]at h;cases h)),hn (by omega)]);refine EN (PD 18 ?_);refine PD 19 ?_;refine DN (af J7 (CY (ak (ae (WK [1] (dM rfl ?_))))));exact congrArg (λq=>[cK V r q]) (show s=eT V.toDk f s from' m by rw[eT,if_neg h15,if_pos (.inr h50)])
theorem Ah(v:VoteT)(w:Int)(b:BallotT):(fl v w b).1.change=v.change:=by unfold fl;split<;>rfl
theorem p5{δ:Type}(V:Env δ)(r:Nat)(s:MS δ)(vt:VoteT)(from':Int)(m:MsgT)[OkR V.toDk s][OkMg m](hfe:from'=s.id→m.epoch=s.view.epoch)(hk:m.kind=4∨m.kind=6)(hv:s.vote=some vt)(hp:m.kind=4→(dT vt from' m.ballot m.had m.change).2=true→DT 71 #[.pointer (some ⟨r,0,none⟩), .iface V.T V.ov] T0 [cK V r (jr (dp s (max s.round m.ballot.round)) (dT vt from' m.ballot m.had m.change).1)] (dL (λ_ H=>H=[cK V r (jw V.toDk (jr (dp s (max s.round m.ballot.round)) (dT vt from' m.ballot m.had m.change).1) (dT vt from' m.ballot m.had m.change).1)]))):
    DT 104 #[(.pointer (some ⟨r,0,none⟩)),(.iface V.T V.ov),(.int .i64 (from')),(.agg (ints m.flat).toArray)] T0 [cK V r s] (dL (λ_ H=>H=[cK V r (eT V.toDk (λs_=>if m.kind=4 then oQ V.toDk from' m s_ else kV V.toDk from' m s_) s from' m)])):=by
 refine BD 124 Tryz.func104 rfl rfl rfl λw0 F hF=>?_
 have hov:OkVt vt:=OkR.vote vt hv;refine sr λ_ J1=>XY (ints m.flat) λb7=>?_
 refine nx J1 (aa λ_ J2=>aa λ_ J3=>DC bo (BL 0) (cV 1 rfl rfl) ?_);refine FD 0 177 bi aQ ?_;refine LR 1 Y3 (eZ m rfl) ?_;refine PD 2 ?_;refine PD 3 ?_;refine FD 4 2 db be ?_;refine FD 5 2 eL aQ ?_;refine ta 6 rfl (df (v:=(.int .i64 (s.view.epoch))) rfl Y3 rfl rfl (λ_ h=>h.2.2.1) (λa_=>(cp (s.rep a_) 0 rfl (by decide) (bf _ rfl)))) ?_;refine PD 7 ?_;refine jT ?_ ?_<;>intro h15;refine DN (af J3 (CY (aa λ_ J4=>sr λ_ J5=>FA 0 bi aQ ?_)));refine LU 0 Y3 (fa m rfl) ?_;refine PS ?_;refine aq ?_ ?_<;>intro h18;refine PS ?_
 iterate 3 refine UT ?_
 refine PS ?_;refine nx J5 (CY (ag ?_))
 iterate 5 refine PS ?_
 refine FA 2 db be ?_;refine LZ 1 eL be ai s.view ?_ (hc:=by exact λ_=>cT _);refine tp (lu MsgT.zero (MsgT.mk 7 0 RowT.zero 0 0 BallotT.zero BallotT.zero ChangeT.zero s.view) [(0,[Value.int .i64 7]),(8,ints s.view.flat)] bi bv (g:=MsgT.sg)) ?_;refine CZ jA (jN V r s from' (fI s.view) (λe=>absurd (hfe e) (by omega))) (SM [1]) λvR=>?_
 refine nx J4 (ak (ae (WK [0] (dM rfl ?_))));exact MQ (by rw[eT,if_pos h15,if_pos (.inl h18)];rfl);refine PS ?_;refine FA 0 bi aQ ?_;refine LU 0 Y3 (fa m rfl) ?_;refine PS ?_;refine aq ?_ ?_<;>intro h22;refine PS ?_;refine nx J5 (CY (ag ?_))
 iterate 5 refine PS ?_
 refine FA 2 db be ?_;refine LZ 1 eL be ai s.view ?_ (hc:=by exact λ_=>cT _);refine tp (lu MsgT.zero (MsgT.mk 7 0 RowT.zero 0 0 BallotT.zero BallotT.zero ChangeT.zero s.view) [(0,[Value.int .i64 7]),(8,ints s.view.flat)] bi bv (g:=MsgT.sg)) ?_;refine CZ jA (jN V r s from' (fI s.view) (λe=>absurd (hfe e) (by omega))) (SM [1]) λvR=>?_
 refine nx J4 (ak (ae (WK [0] (dM rfl ?_))));exact MQ (by rw[eT,if_pos h15,if_pos (.inr h22)];rfl);refine PS ?_;refine nx J5 (CN (qx J4 (ak (ae (WK [1] (dM rfl ?_))))));exact MQ (by rw[eT,if_pos h15,if_neg (by omega)]);refine DN (af J3 (CN (qx J2 (aa λ_ J6=>aa λ_ J7=>DC bo (BL 0) (cV 1 rfl rfl) ?_))));refine FD 0 177 bi aQ ?_;refine LR 1 Y3 (eZ m rfl) ?_;refine PD 2 ?_;refine PD 3 ?_;refine FD 4 2 db be ?_;refine FD 5 2 eL aQ ?_;refine ta 6 rfl (df (v:=(.int .i64 (s.view.epoch))) rfl Y3 rfl rfl (λ_ h=>h.2.2.1) (λa_=>(cp (s.rep a_) 0 rfl (by decide) (bf _ rfl)))) ?_;refine PD 7 ?_;refine jT ?_ ?_<;>intro h40;refine PD 8 ?_;refine NT 9 ?_;refine NT 10 ?_;refine NT 11 ?_;refine NT 12 ?_;refine NT 13 ?_;refine NT 14 ?_;refine NT 15 ?_;refine NT 16 ?_;refine NT 17 ?_;refine NT 18 ?_;refine PD 19 ?_;refine DN (af J7 (CY (ak (ae (WK [1] (dM rfl ?_))))));exact MQ (by rw[eT,if_neg h15,if_pos (.inl (by omega))]);refine PD 8 ?_;refine PD 9 ?_;refine PD 10 ?_;refine FD 11 2 db be ?_;refine tb 12 rfl (gD (vs:=ints s.view.flat) rfl eL rfl be rfl (λ_ h=>h.2.2.1) (ai s.view) (λa_=>(gy (s.rep a_) 0 rfl (by decide) (bn (ai ((s.rep a_).view)))))) ?_;refine PD 13 ?_;refine PD 14 ?_;refine FD 15 0 db aQ ?_;refine tb 16 rfl (df (v:=(.int .i64 (s.id))) rfl Y3 rfl rfl (λ_ h=>h.2.2.1) (λa_=>(cF _ rfl))) ?_;refine AL 17 ?_;refine CE qh (dH s.view s.id) ID ?_;refine bh ?_ ?_<;>intro h50;refine EN (PD 18 ?_);refine PD 19 ?_
 refine DN (af J7 (CN (qx J6 (aa λ_ J8=>D1 0 bo ?_))));refine PD 0 ?_;refine PD 1 ?_;refine PD 2 ?_;refine FD 3 1066 db aQ ?_;refine FD 5 178 bi cA ?_;refine FD 6 178 kB aQ ?_;refine LX 7 Y3 (.int .i64 (m.ballot.round)) ?_ (hc:=by exact MsgT.pt_ballot m 0 rfl (by decide) (fx m.ballot rfl));refine AL 4 ?_;refine LG 1 Y3 (.int .i64 (s.round)) ?_ (hc:=by exact λa_=>(vz _ rfl));refine EN (ta 8 rfl (yB rfl rfl rfl) ?_);refine PD 9 ?_;refine FD 10 1066 db aQ ?_;refine AL 11 ?_;refine SK 1 aQ (λ_=>cU _) ?_ (hc:=by exact λa_=>(l6 _ rfl _));refine EN (DN (af J8 (sr λ_ J9=>FA 0 bi aQ ?_)));refine LU 0 Y3 (fa m rfl) ?_;refine nx J9 (av (sr λ_ J10=>PS ?_));refine aq ?_ ?_<;>intro h67
 · exact absurd h67 (by omega)
 refine PS ?_;refine nx J10 (CN (sr λ_ J11=>PS ?_));refine aq ?_ ?_<;>intro h74
 · exact absurd h74 (by omega)
 refine PS ?_;refine nx J11 (CN (sr λ_ J12=>PS ?_));refine aq ?_ ?_<;>intro h81;refine L3 (H':=λvb:Nat=>vO V r (dp s (max s.round m.ballot.round)) (.pointer (some ⟨vb,0,none⟩))::an vb (VoteT.cells vt) 187::[an b7 (ints m.flat) 136]) (λ_ q=>nh (s:=(dp s (max s.round m.ballot.round))) hv (aE [1] rfl q)) (λvb=>PS ?_);refine nx J12 (CY (aa λ_ J13=>D1 2 bo ?_));refine PD 0 ?_;refine PD 1 ?_;refine FD 2 1067 db m8 ?_;refine AL 3 ?_;refine LG 0 pI (.pointer (some ⟨vb,0,none⟩)) ?_ (hc:=by exact λa_=>(bZ _ rfl));refine EN (ta 4 rfl (jI rfl pI rfl rfl) ?_);refine PD 5 ?_;refine PD 6 ?_;refine PD 7 ?_;refine FD 8 1067 db m8 ?_;refine PD 10 ?_;refine FD 11 178 bi cA ?_;refine tb 12 rfl (aL (vs:=ints m.ballot.flat) rfl kB rfl cA rfl (λ_ h=>h.2.1) (ap m.ballot) (jp m 0 rfl (by decide) (bn (ap m.ballot)))) ?_;refine FD 13 180 bi cA ?_;refine tb 14 rfl (aL (vs:=ints m.had.flat) rfl kB rfl cA rfl (λ_ h=>h.2.1) (ap m.had) (Qx m 0 rfl (by decide) (bn (ap m.had)))) ?_;refine FD 15 182 bi fR ?_;refine tb 16 rfl (aL (vs:=ints m.change.flat) rfl nt rfl fR rfl (λ_ h=>h.2.1) (aK m.change) (nB m 0 rfl (by decide) (bn (aK m.change)))) ?_;refine AL 9 ?_;refine LG 0 pI (.pointer (some ⟨vb,0,none⟩)) ?_ (hc:=by exact λa_=>(bZ _ rfl));refine EN (AL 17 ?_);refine CE NW (D5 vb vt from' m.ballot m.had m.change (OkMg.ballot) hov.ballot) (SM [1]) ?_;refine bh ?_ ?_<;>intro h99;refine EN (PD 18 ?_)
 refine DN (af J13 (CY (ag (cB (H':=cK V r (jr (dp s (max s.round m.ballot.round)) ((dT vt from' m.ballot m.had m.change).1))::[an b7 (ints m.flat) 136]) (λ_ q=>ou (aE [1,0] rfl q)) (P2 ?_)))));refine CZ KA ((hp (by omega) h99)) ID λvR=>?_
 refine ax (ah (WK [0] (bE rfl ?_)))
 exact congrArg (λq=>[cK V r q]) (show _=eT V.toDk (λs_=>if m.kind=4 then oQ V.toDk from' m s_ else kV V.toDk from' m s_) s from' m by
                              rw[eT,if_neg h15,if_neg (λh=>h.elim (λh=>absurd h (by omega)) (λh=>by rw[h50]at h;cases h)),if_pos (by omega),oQ];simp only[show(dp s (max s.round m.ballot.round)).vote=some vt from hv]
                              rw[if_pos h99])
 refine EN (PD 18 ?_);refine DN (af J13 (CN (aT (ah (aG (H':=[cK V r (jr (dp s (max s.round m.ballot.round)) (dT vt from' m.ballot m.had m.change).1)]) (dP _) (λ_ q=>ou (ao [1,0] rfl q)) (bE rfl ?_))))))
 exact congrArg (λq=>[cK V r q]) (show(jr (dp s (max s.round m.ballot.round)) (dT vt from' m.ballot m.had m.change).1)=eT V.toDk (λs_=>if m.kind=4 then oQ V.toDk from' m s_ else kV V.toDk from' m s_) s from' m by
                              rw[eT,if_neg h15,if_neg (λh=>h.elim (λh=>absurd h (by omega)) (λh=>by rw[h50]at h;cases h)),if_pos (by omega),oQ];simp only[show(dp s (max s.round m.ballot.round)).vote=some vt from hv]
                              rw[if_neg (by rw[h99];decide)])
 refine PS ?_;refine nx J12 (CN (sr λ_ J14=>PS ?_));refine aq ?_ ?_<;>intro h105;refine L3 (H':=λvb:Nat=>vO V r (dp s (max s.round m.ballot.round)) (.pointer (some ⟨vb,0,none⟩))::an vb (VoteT.cells vt) 187::[an b7 (ints m.flat) 136]) (λ_ q=>nh (s:=(dp s (max s.round m.ballot.round))) hv (aE [1] rfl q)) (λvb=>PS ?_);refine nx J14 (CY (aa λ_ J15=>D1 2 bo ?_));refine PD 0 ?_;refine PD 1 ?_;refine FD 2 1067 db m8 ?_;refine AL 3 ?_;refine LG 0 pI (.pointer (some ⟨vb,0,none⟩)) ?_ (hc:=by exact λa_=>(bZ _ rfl));refine EN (ta 4 rfl (jI rfl pI rfl rfl) ?_);refine PD 5 ?_;refine PD 6 ?_;refine PD 7 ?_;refine FD 8 1067 db m8 ?_;refine PD 10 ?_;refine FD 11 178 bi cA ?_;refine tb 12 rfl (aL (vs:=ints m.ballot.flat) rfl kB rfl cA rfl (λ_ h=>h.2.1) (ap m.ballot) (jp m 0 rfl (by decide) (bn (ap m.ballot)))) ?_;refine AL 9 ?_;refine LG 0 pI (.pointer (some ⟨vb,0,none⟩)) ?_ (hc:=by exact λa_=>(bZ _ rfl));refine EN (AL 13 ?_);refine CE NV (Ef vb vt from' m.ballot (OkMg.ballot) hov.ballot) (SM [1]) ?_;refine bh ?_ ?_<;>intro h119;refine EN (PD 14 ?_);refine DN (af J15 (CY (ag (cB (H':=cK V r (jr (dp s (max s.round m.ballot.round)) ((fl vt from' m.ballot).1))::[an b7 (ints m.flat) 136]) (λ_ q=>ou (aE [1,0] rfl q)) (P2 ?_)))));refine CZ NU (A8 V r (jr (dp s (max s.round m.ballot.round)) (fl vt from' m.ballot).1) (fl vt from' m.ballot).1 rfl) ID λvR=>?_
 refine ax (ah (WK [0] (bE rfl ?_)))
 exact congrArg (λq=>[cK V r q]) (show _=eT V.toDk (λs_=>if m.kind=4 then oQ V.toDk from' m s_ else kV V.toDk from' m s_) s from' m by
                                rw[eT,if_neg h15,if_neg (λh=>h.elim (λh=>absurd h (by omega)) (λh=>by rw[h50]at h;cases h)),if_neg (by omega),kV];simp only[show(dp s (max s.round m.ballot.round)).vote=some vt from hv]
                                rw[if_pos h119,Ah])
 refine EN (PD 14 ?_);refine DN (af J15 (CN (aT (ah (aG (H':=[cK V r (jr (dp s (max s.round m.ballot.round)) (fl vt from' m.ballot).1)]) (dP _) (λ_ q=>ou (ao [1,0] rfl q)) (bE rfl ?_))))))
 exact congrArg (λq=>[cK V r q]) (show(jr (dp s (max s.round m.ballot.round)) (fl vt from' m.ballot).1)=eT V.toDk (λs_=>if m.kind=4 then oQ V.toDk from' m s_ else kV V.toDk from' m s_) s from' m by
                                rw[eT,if_neg h15,if_neg (λh=>h.elim (λh=>absurd h (by omega)) (λh=>by rw[h50]at h;cases h)),if_neg (by omega),kV];simp only[show(dp s (max s.round m.ballot.round)).vote=some vt from hv]
                                rw[if_neg (by rw[h119];decide)])
 · exact absurd h105 (by omega)
 refine EN (PD 18 ?_);refine PD 19 ?_;refine DN (af J7 (CY (ak (ae (WK [1] (dM rfl ?_))))));exact MQ (by rw[eT,if_neg h15,if_pos (.inr h50)])
theorem ru{δ:Type}(V:Env δ)(r:Nat)(s:MS δ)(from':Int)(m:MsgT)[OkR V.toDk s][OkMg m](hfe:from'=s.id→m.epoch=s.view.epoch)(hk:m.kind=6):TK V r 62 s from' m (p7 V.toDk s from' m):=oR (.inr (.inr (.inr hk))) (by
 cases hv:s.vote with
 |none=>exact kW V r s (kV V.toDk from' m) from' m hfe (λe=>by omega) (λe=>by omega) (λ_=>by rw[kV,show(dp s (max s.round m.ballot.round)).vote=none from hv]) (λ_=>hv)
 |some vt=>
  have h:=p5 V r s vt from' m hfe (.inr hk) hv (λe=>by omega)
  rwa [show(λs_:MS δ=>if m.kind=4 then oQ V.toDk from' m s_ else kV V.toDk from' m s_)=kV V.toDk from' m from funext λ_=>if_neg (by omega)]at h)
theorem xX{δ:Type}(V:Env δ)(r:Nat)(s:MS δ)(from':Int)(m:MsgT)[OkR V.toDk s][OkMg m](hep:m.epoch=s.view.epoch):
 DT 137 #[(.pointer (some ⟨r,0,none⟩)),(.iface V.T V.ov),(.int .i64 (from')),(.agg (ints m.flat).toArray)] T0 [cK V r s] (dL (λ_ H=>H=[cK V r (nL V.toDk from' m s)])):=by
 refine BD 69 Tryz.func137 rfl rfl rfl λw0 F hF=>sr λ_ J1=>XY (ints m.flat) λb7=>?_
 refine nx J1 (aa λ_ J2=>aa λ_ J3=>fo (α:=Unit) (λ_u=>True) (λ_u=>[(0,(.pointer (some ⟨r,0,none⟩))),(1,(.iface V.T V.ov)),(2,(.int .i64 (from'))),(7,(.pointer (some ⟨b7,0,none⟩))),(9,(.int .i64 ((cm s.view m.change).2)))]) (λ_u=>[cK V r s,an b7 (ints m.flat) 136]) (λ_u hinv=>?_) (λtl3=>?_));have _:=hinv;refine af J3 (sr λ_ J4=>P2 ?_);refine aq ?_ ?_<;>intro h23;refine nx J4 (CY (ak (ae (WK [0] (dM rfl ?_)))));exact MQ (by rw[nL,if_pos h23]);refine nx J4 (CN (qx J2 (aa λ_ J5=>fo (α:=(Nat)) (λb10=>True) (λb10=>[(0,(.pointer (some ⟨r,0,none⟩))),(1,(.iface V.T V.ov)),(2,(.int .i64 (from'))),(7,(.pointer (some ⟨b7,0,none⟩))),(10,(.pointer (some ⟨b10,0,none⟩))),(11,(.bool ((fP s.acc m.epoch m.ballot m.change).2)))]) (λb10=>[cK V r s,an b7 (ints m.flat) 136,an b10 (ints ((fP s.acc m.epoch m.ballot m.change).1).flat) 89]) (λb10 hinv=>?_) (λtl5=>?_))));have _:=hinv;refine af J5 (aa λ_ J6=>sr λ_ J7=>PS ?_);refine bh ?_ ?_<;>intro h38;refine PS ?_;refine nx J7 (CN (qx J6 (aa λ_ J8=>aa λ_ J9=>DC bo (BL 2) (cV 0 rfl rfl) ?_)));refine LY 0 pO fU bd ?_;refine PD 1 ?_;refine PD 2 ?_;refine FD 3 1058 db fU ?_;refine ta 4 rfl (gD (vs:=ints s.acc.flat) rfl pO rfl fU rfl (λ_ h=>h.2.2.1) (bd s.acc) (λa_=>(yx (s.rep a_) 0 rfl (by decide) (bn (bd ((s.rep a_).acc)))))) ?_
 refine ta 5 rfl (DV (a:=((fP s.acc m.epoch m.ballot m.change).1).flat) (b:=s.acc.flat) (m:=6) (c:=8) O8 O3 rfl PO (du (bd ((fP s.acc m.epoch m.ballot m.change).1))) (du (bd s.acc)) ⟨gh Oe Oi (du (bd ((fP s.acc m.epoch m.ballot m.change).1))),gh Oe Oi (du (bd s.acc))⟩ (OkAc.wf) (OkAc.wf) rfl rfl rfl) ?_;refine jT ?_ ?_<;>intro h45;refine DN (af J9 (CY (aa λ_ J10=>sr λ_ J11=>PS ?_)));refine FA 177 bi aQ ?_;refine LU 1 Y3 (eZ m rfl) ?_;refine FA 178 bi cA ?_;refine LV 1 kB cA ap oI (y:=m.ballot) ?_;refine FA 182 bi fR ?_;refine LV 1 nt fR aK MsgT.sp_change (y:=m.change) ?_;refine tp (lu RecT.zero (RecT.mk 4 0 RowT.zero m.epoch m.ballot m.change ViewT.zero) [(0,[Value.int .i64 4]),(3,[Value.int .i64 m.epoch]),(4,ints m.ballot.flat),(5,ints m.change.flat)] eC fq (g:=RecT.sg)) ?_;refine CE EG (lD V r s (gE m.epoch m.ballot m.change)) ID ?_;refine PS ?_;refine aq ?_ ?_<;>intro h55;refine nx J11 (CY (ak (ae (ae (WK [0] (dM rfl ?_))))));exact MQ (by rw[nL,if_neg h23,if_neg (by rw[h38];decide),if_pos h45,if_pos h55]);refine nx J11 (CN (qx J10 (ag (PS ?_))));refine LW 2 pO fU bd ?_;refine PS ?_;refine FA 1058 db fU ?_
 refine iw (vs:=ints ((fP s.acc m.epoch m.ballot m.change).1).flat) (i:=0) (ab rfl) rfl rfl rfl rfl rfl (by rw[(bd ((fP s.acc m.epoch m.ballot m.change).1))];exact fU) (bB _) rfl rfl (λ_=>LC (cU _) (bd _)) (λa_=>(kP ((dE V.toDk s (gE m.epoch m.ballot m.change)).rep a_) 0 rfl (by have h1:=(bd ((fP s.acc m.epoch m.ballot m.change).1));omega) (cr ((bd (((dE V.toDk s (gE m.epoch m.ballot m.change)).rep a_).acc)).trans (bd ((fP s.acc m.epoch m.ballot m.change).1)).symm)))) (nx J8 (ag (P3 ?_)));refine FA 177 bi aQ ?_;refine LU 1 Y3 (eZ m rfl) ?_;refine FA 178 bi cA ?_;refine LV 1 kB cA ap oI (y:=m.ballot) ?_;refine tp (lu MsgT.zero (MsgT.mk 6 0 RowT.zero 0 m.epoch m.ballot BallotT.zero ChangeT.zero ViewT.zero) [(0,[Value.int .i64 6]),(4,[Value.int .i64 m.epoch]),(5,ints m.ballot.flat)] bi bv (g:=MsgT.sg)) ?_;refine CZ jA (gQ V r (tC (dE V.toDk s (gE m.epoch m.ballot m.change)) (fP s.acc m.epoch m.ballot m.change).1) from' (eU m.epoch m.ballot) (λs_=>p7 V.toDk s_ s_.id (eU m.epoch m.ballot)) (λ_=>ru V r (tC (dE V.toDk s (gE m.epoch m.ballot m.change)) (fP s.acc m.epoch m.ballot m.change).1) (tC (dE V.toDk s (gE m.epoch m.ballot m.change)) (fP s.acc m.epoch m.ballot m.change).1).id (eU m.epoch m.ballot) (λ_=>hep) rfl)) ID λvR=>?_
 refine ax (WK [0] (bE rfl ?_));exact MQ (by rw[nL,if_neg h23,if_neg (by rw[h38];decide),if_pos h45,if_neg h55];rfl);refine DN (af J9 (CN (qx J8 (ag (P3 ?_)))));refine FA 177 bi aQ ?_;refine LU 1 Y3 (eZ m rfl) ?_;refine FA 178 bi cA ?_;refine LV 1 kB cA ap oI (y:=m.ballot) ?_;refine tp (lu MsgT.zero (MsgT.mk 6 0 RowT.zero 0 m.epoch m.ballot BallotT.zero ChangeT.zero ViewT.zero) [(0,[Value.int .i64 6]),(4,[Value.int .i64 m.epoch]),(5,ints m.ballot.flat)] bi bv (g:=MsgT.sg)) ?_;refine CZ jA (gQ V r s from' (eU m.epoch m.ballot) (λs_=>p7 V.toDk s_ s_.id (eU m.epoch m.ballot)) (λ_=>ru V r s s.id (eU m.epoch m.ballot) (λ_=>hep) rfl)) ID λvR=>?_
 refine ax (WK [0] (bE rfl ?_));exact MQ (by rw[nL,if_neg h23,if_neg (by rw[h38];decide),if_neg h45];rfl);refine PS ?_;refine nx J7 (CY (ak (ae (WK [0] (dM rfl ?_)))));exact MQ (by rw[nL,if_neg h23,if_pos h38]);refine DC bo (cV 0 rfl rfl) (BL 1) ?_;refine PD 0 ?_;refine PD 1 ?_;refine FD 2 1058 db fU ?_;refine ta 3 rfl (gD (vs:=ints s.acc.flat) rfl pO rfl fU rfl (λ_ h=>h.2.1) (bd s.acc) (λa_=>(yx (s.rep a_) 0 rfl (by decide) (bn (bd ((s.rep a_).acc)))))) ?_;refine FD 4 177 bi aQ ?_;refine LR 5 Y3 (eZ m rfl) ?_;refine FD 6 178 bi cA ?_;refine ta 7 rfl (aL (vs:=ints m.ballot.flat) rfl kB rfl cA rfl (λ_ h=>h.2.2.1) (ap m.ballot) (jp m 0 rfl (by decide) (bn (ap m.ballot)))) ?_;refine FD 8 182 bi fR ?_;refine ta 9 rfl (aL (vs:=ints m.change.flat) rfl nt rfl fR rfl (λ_ h=>h.2.2.1) (aK m.change) (nB m 0 rfl (by decide) (bn (aK m.change)))) ?_;refine cQ [10,14] (by kernel_rfl) rfl (aH rfl ?_ ?_);refine CE Lo (vf s.acc m.epoch m.ballot m.change) ID ?_;refine EN (PD 11 ?_);refine PD 12 ?_;refine PD 13 ?_;refine rZ ?_ ?_<;>intro h37;refine AL 14 ?_;refine XZ H3 (ints AccT.zero.flat) λb10=>?_
 refine EN (AL 15 ?_);refine SW 0 fU bd ?_;refine EN (PD 16 ?_);refine DN ?_
 exact aG
  (aW (aW (aW (aW (aW (bJ rfl (by rw[h37]) SB))))))
  (λ_ s=>ao [1,1,0] rfl s)
  (tl5 ((b10):(Nat)) trivial)
 refine AL 14 ?_;refine XZ H3 (ints AccT.zero.flat) λb10=>?_
 refine EN (AL 15 ?_);refine SW 0 fU bd ?_;refine EN (PD 16 ?_);refine DN ?_
 exact aG
  (aW (aW (aW (aW (aW (bJ rfl (by rw[h37]) SB))))))
  (λ_ s=>ao [1,1,0] rfl s)
  (tl5 ((b10):(Nat)) trivial)
 refine aH rfl ?_ ?_;refine XZ H3 (ints AccT.zero.flat) λb10=>?_
 refine EN (AL 10 ?_);refine CE Lo (vf s.acc m.epoch m.ballot m.change) ID ?_;refine EN (PD 11 ?_);refine PD 12 ?_;refine PD 13 ?_;refine rZ ?_ ?_<;>intro h37;refine AL 15 ?_;refine SW 0 fU bd ?_;refine EN (PD 16 ?_);refine DN ?_
 exact aG
  (aW (aW (aW (aW (aW (bJ rfl (by rw[h37]) SB))))))
  (λ_ s=>ao [1,1,0] rfl s)
  (tl5 ((b10):(Nat)) trivial)
 refine AL 15 ?_;refine SW 0 fU bd ?_;refine EN (PD 16 ?_);refine DN ?_
 exact aG
  (aW (aW (aW (aW (aW (bJ rfl (by rw[h37]) SB))))))
  (λ_ s=>ao [1,1,0] rfl s)
  (tl5 ((b10):(Nat)) trivial)
 exact bL;refine DC bo (cV 1 rfl rfl) (BL 0) ?_;refine PD 0 ?_;refine PD 1 ?_;refine FD 2 2 db be ?_;refine ta 3 rfl (gD (vs:=ints s.view.flat) rfl eL rfl be rfl (λ_ h=>h.2.1) (ai s.view) (λa_=>(gy (s.rep a_) 0 rfl (by decide) (bn (ai ((s.rep a_).view)))))) ?_;refine FD 4 182 bi fR ?_;refine ta 5 rfl (aL (vs:=ints m.change.flat) rfl nt rfl fR rfl (λ_ h=>h.2.2.1) (aK m.change) (nB m 0 rfl (by decide) (bn (aK m.change)))) ?_;refine cQ [6,10] (by kernel_rfl) rfl (aH rfl ?_ ?_);refine CE mI (dq s.view m.change OkVw.rng) ID ?_;refine EN (PD 7 ?_);refine PD 8 ?_;refine PD 9 ?_;refine AL 10 ?_;refine XZ pM (ints ViewT.zero.flat) λb8=>?_
 refine EN (AL 11 ?_);refine SW 0 be ai ?_;refine EN (PD 12 ?_);refine DN ?_
 exact aG
  SB
  (λ_ s=>ao [2,1] rfl s)
  (tl3 (():Unit) trivial)
 refine aH rfl ?_ ?_;refine XZ pM (ints ViewT.zero.flat) λb8=>?_
 refine EN (AL 6 ?_);refine CE mI (dq s.view m.change OkVw.rng) ID ?_;refine EN (PD 7 ?_);refine PD 8 ?_;refine PD 9 ?_;refine AL 11 ?_;refine SW 0 be ai ?_;refine EN (PD 12 ?_);refine DN ?_
 exact aG
  SB
  (λ_ s=>ao [2,1] rfl s)
  (tl3 (():Unit) trivial)
 exact bL
theorem wj{δ:Type}(V:Env δ)(r:Nat)(s:MS δ)(from':Int)(m:MsgT)[OkR V.toDk s][OkMg m](hfe:from'=s.id→m.epoch=s.view.epoch)(hk:m.kind=5):TK V r 62 s from' m (ry V.toDk s from' m):=oR (by omega) (kW V r s (nL V.toDk from' m) from' m hfe (λe _=>by omega) (λ_ hep=>xX V r (dp s (max s.round m.ballot.round)) from' m hep) (λe=>by omega) (λe=>by omega))
theorem yc{δ:Type}(V:Env δ)(r vb:Nat)(s:MS δ)(vt:VoteT)(hv:s.vote=some vt)(hpt:vt.putting=true)[OkR V.toDk s][OkVt vt]:
 DT 71 #[(.pointer (some ⟨r,0,none⟩)),(.iface V.T V.ov)] T0 [vO V r s (.pointer (some ⟨vb,0,none⟩)),an vb (VoteT.cells vt) 187] (dL (λ_ H=>H=[cK V r (jw V.toDk s vt)])):=by
 refine BD 68 Tryz.func71 rfl rfl rfl λw0 F hF=>aa λ_ J1=>fo (α:=(Nat)) (λb4=>True) (λb4=>[(0,(.pointer (some ⟨r,0,none⟩))),(1,(.iface V.T V.ov)),(4,(.pointer (some ⟨b4,0,none⟩)))]) (λb4=>[vO V r s (.pointer (some ⟨vb,0,none⟩)),an vb (VoteT.cells vt) 187,an b4 (ints (fm s.view.epoch vt.ballot).flat) 136]) (λb4 hinv=>?_) (λtl1=>?_)
 have _:=hinv;refine af J1 (aa λ_ J2=>sr λ_ J3=>P2 ?_);refine FA 1067 db m8 ?_;refine LG 0 pI (.pointer (some ⟨vb,0,none⟩)) ?_ (hc:=by exact λa_=>(bZ _ rfl));refine CE Ly (oh vb vt) (SM [1]) ?_;refine bh ?_ ?_<;>intro h22;refine nx J3 (CY (ag (P2 ?_)));refine FA 1067 db m8 ?_;refine LG 1 pI (.pointer (some ⟨vb,0,none⟩)) ?_ (hc:=by exact λa_=>(bZ _ rfl));refine CE ui (c8 vb vt) ID ?_;refine FA 0 bi aQ ?_;refine SS 2 aQ (aJ _) (MsgT.set_kind _ rfl _) ?_;refine FA 182 bi fR ?_;refine SP 2 fR aK aJ Ov ?_;refine nx J2 (sr λ_ J4=>cB (H':=cK V r s::[an b4 (ints (MsgT.mk 5 ((fm s.view.epoch vt.ballot).whose) ((fm s.view.epoch vt.ballot).row) ((fm s.view.epoch vt.ballot).version) ((fm s.view.epoch vt.ballot).epoch) ((fm s.view.epoch vt.ballot).ballot) ((fm s.view.epoch vt.ballot).had) vt.change ((fm s.view.epoch vt.ballot).view)).flat) 136]) (λ_ q=>ow hv (aE [1,0] rfl q)) (P2 ?_));refine FA 2 db be ?_;refine LZ 0 eL be ai s.view ?_ (hc:=by exact λ_=>cT _);refine XZ pM (ints ViewT.zero.flat) λb5=>?_
 refine SW 0 be ai ?_;refine nx J4 (aa λ_ J5=>sr λ_ J6=>PS ?_);refine nx J6 (av ?_)
 refine bG (α:=(Nat)) (λk=>k≤5) (λk=>[(0,(.pointer (some ⟨r,0,none⟩))),(1,(.iface V.T V.ov)),(4,(.pointer (some ⟨b4,0,none⟩))),(5,(.pointer (some ⟨b5,0,none⟩))),(34,(.int .i64 (((k:Nat):Int))))]) (λk=>[an b5 (ints s.view.flat) 29,an b4 (ints (ff s.view.epoch vt.ballot vt.change).flat) 136,cK V r (iN V.toDk s (nf s.id (ff s.view.epoch vt.ballot vt.change) (λi=>gA s.view ((i:Nat):Int)) k))]) (λk=>5-k) 0
  (aP _) SB
  (λ_ q=>by
  rw[show nf s.id (ff s.view.epoch vt.ballot vt.change) (λi=>gA s.view ((i:Nat):Int)) 0=[]from rfl,qb]
  exact ao [0,1,0] rfl q) (λk hinv=>?_)
 obtain hk:=hinv;refine sr λ_ J7=>PS ?_
 refine aq ?_ ?_<;>intro h35;refine nx J7 (aa λ_ J8=>CY (qx J8 (aa λ_ J9=>av (sr λ_ J10=>P2 ?_))));refine nx J10 (sr λ_ J11=>P3 ?_);refine FA 0 db aQ ?_;refine LG 2 Y3 (.int .i64 (s.id)) ?_ (hc:=by exact λa_=>(cF _ rfl));refine PS ?_;refine aq ?_ ?_<;>intro h42;refine PS ?_;refine LW 0 eL be ai ?_;refine PS ?_;refine CE qh (dH s.view ((k:Nat):Int)) ID ?_;refine bh ?_ ?_<;>intro h46;refine PS ?_;refine nx J11 (CY (ag (P3 ?_)));refine LW 1 bi ci aJ ?_;refine CZ jA (oq V r s (nf s.id (ff s.view.epoch vt.ballot vt.change) (λi=>gA s.view ((i:Nat):Int)) k) ((k:Nat):Int) (ff s.view.epoch vt.ballot vt.change) h42) (SM [2]) λvR=>?_
 refine ax (ah (af J9 (ag (AD ?_))));refine PS ?_;refine ax ?_
 exact aN ((k+1):(Nat)) (by omega) (by show 5- (k+1)<5-k;omega)
  SB
  (λ_ q=>by
   rw[je,if_pos ⟨h42,h46⟩]
   exact ao [1,1,0] rfl q)
 refine PS ?_;refine nx J11 (CN (aT (ah (af J9 (ag (AD ?_))))));refine PS ?_;refine ax ?_
 exact aN ((k+1):(Nat)) (by omega) (by show 5- (k+1)<5-k;omega)
  SB
  (λ_ q=>by
   rw[je,if_neg (λh=>by have:=h.2;rw[h46]at this;cases this)];rw[aU]
   exact ao [0,0,0] rfl q)
 refine PS ?_
 iterate 3 refine UF ?_
 refine PS ?_;refine nx J11 (CN (aT (ah (af J9 (ag (AD ?_))))));refine PS ?_;refine ax ?_
 exact aN ((k+1):(Nat)) (by omega) (by show 5- (k+1)<5-k;omega)
  SB
  (λ_ q=>by
   rw[je,if_neg (λh=>h42 h.1)];rw[aU]
   exact ao [0,0,0] rfl q)
 obtain rfl:k=5:=by omega
 refine nx J7 (aa λ_ J12=>CN (bg (aC (aC (bD (af J5 (aa λ_ J13=>DC bo (BL 0) (cV 2 rfl rfl) ?_)))))));refine LY 0 eL be ai ?_;refine PD 1 ?_;refine PD 2 ?_;refine FD 3 0 db aQ ?_;refine ta 4 rfl (df (v:=(.int .i64 ((iF V.toDk s (ff s.view.epoch vt.ballot vt.change)).id))) rfl Y3 rfl rfl (λ_ h=>h.2.2.1) (λa_=>(cF _ rfl))) ?_;refine AL 5 ?_;refine CE qh (dH s.view ((iF V.toDk s (ff s.view.epoch vt.ballot vt.change)).id)) ID ?_;refine bh ?_ ?_<;>intro h59;refine EN (DN (af J13 (CY (D1 1 bo ?_))));refine PD 0 ?_;refine PD 1 ?_;refine PD 2 ?_;refine PD 3 ?_;refine FD 4 0 db aQ ?_;refine LY 6 bi ci aJ ?_;refine AL 5 ?_;refine LG 2 Y3 (.int .i64 ((iF V.toDk s (ff s.view.epoch vt.ballot vt.change)).id)) ?_ (hc:=by exact λa_=>(cF _ rfl));refine EN (AL 7 ?_);refine CZ jA (gQ V r (iF V.toDk s (ff s.view.epoch vt.ballot vt.change)) s.id (ff s.view.epoch vt.ballot vt.change) (λs_=>ry V.toDk s_ s_.id (ff s.view.epoch vt.ballot vt.change)) (λ_=>wj V r (iF V.toDk s (ff s.view.epoch vt.ballot vt.change)) s.id (ff s.view.epoch vt.ballot vt.change) (λ_=>rfl) rfl)) (SM [2]) λvR=>?_
 refine EN (DN (WK [0] (bE rfl ?_)));exact MQ (by rw[jw,iV,if_pos (show gA s.view s.id=true from h59),lw,if_pos (show s.id=(iF V.toDk s (ff s.view.epoch vt.ballot vt.change)).id from rfl)]<;>rfl);refine EN (DN (af J13 (CN (aT (WK [2] (bE rfl ?_))))));exact MQ (by rw[jw,iV,if_neg (by rw[show gA s.view s.id=false from h59];decide)]<;>rfl)
 · rw[hpt]at h22;cases h22
 refine D1 1 bo ?_;refine PD 0 ?_;refine PD 1 ?_;refine FD 2 2 db be ?_;refine FD 3 2 eL aQ ?_;refine PD 5 ?_;refine PD 6 ?_;refine FD 7 1067 db m8 ?_;refine cQ [4,8,11] (by kernel_rfl) rfl (aH rfl ?_ ?_);refine LG 0 Y3 (.int .i64 (s.view.epoch)) ?_ (hc:=by exact λa_=>(cp (s.rep ⟨(a_:Nat×Value).1,(.pointer (some ⟨vb,0,none⟩)),a_.2⟩) 0 rfl (by decide) (bf _ rfl)));refine EN (cQ [8,11] (by kernel_rfl) rfl (aH rfl ?_ ?_));refine LG 0 pI (.pointer (some ⟨vb,0,none⟩)) ?_ (hc:=by exact λa_=>(bZ _ rfl));refine EN (cQ [9,11] (by kernel_rfl) rfl (aH rfl ?_ ?_));refine CE jY (bK vb vt) (SM [1]) ?_;refine EN (ta 10 rfl (lu MsgT.zero (MsgT.mk 3 0 RowT.zero 0 s.view.epoch vt.ballot BallotT.zero ChangeT.zero ViewT.zero) [(0,[Value.int .i64 3]),(4,[Value.int .i64 s.view.epoch]),(5,ints vt.ballot.flat)] bi bv (g:=MsgT.sg)) ?_);refine AL 11 ?_;refine XZ mB (ints MsgT.zero.flat) λb4=>?_
 refine EN (AL 12 ?_);refine SW 0 ci aJ ?_;refine EN (DN ?_)
 exact aG
  SB
  (λ_ s=>ao [2,1,0] rfl s)
  (tl1 ((b4):(Nat)) trivial)
 refine aH rfl ?_ ?_;refine XZ mB (ints MsgT.zero.flat) λb4=>?_
 refine EN (AL 9 ?_);refine CE jY (bK vb vt) (SM [2]) ?_;refine EN (ta 10 rfl (lu MsgT.zero (MsgT.mk 3 0 RowT.zero 0 s.view.epoch vt.ballot BallotT.zero ChangeT.zero ViewT.zero) [(0,[Value.int .i64 3]),(4,[Value.int .i64 s.view.epoch]),(5,ints vt.ballot.flat)] bi bv (g:=MsgT.sg)) ?_);refine AL 12 ?_;refine SW 1 ci aJ ?_;refine EN (DN ?_)
 exact aG
  SB
  (λ_ s=>ao [2,0,0] rfl s)
  (tl1 ((b4):(Nat)) trivial)
 exact bL;refine aH rfl ?_ ?_;refine XZ mB (ints MsgT.zero.flat) λb4=>?_
 refine EN (AL 8 ?_);refine LG 1 pI (.pointer (some ⟨vb,0,none⟩)) ?_ (hc:=by exact λa_=>(bZ _ rfl));refine EN (AL 9 ?_);refine CE jY (bK vb vt) (SM [2]) ?_;refine EN (ta 10 rfl (lu MsgT.zero (MsgT.mk 3 0 RowT.zero 0 s.view.epoch vt.ballot BallotT.zero ChangeT.zero ViewT.zero) [(0,[Value.int .i64 3]),(4,[Value.int .i64 s.view.epoch]),(5,ints vt.ballot.flat)] bi bv (g:=MsgT.sg)) ?_);refine AL 12 ?_;refine SW 1 ci aJ ?_;refine EN (DN ?_)
 exact aG
  SB
  (λ_ s=>ao [2,0,0] rfl s)
  (tl1 ((b4):(Nat)) trivial)
 exact bL;refine aH rfl ?_ ?_;refine LG 0 pI (.pointer (some ⟨vb,0,none⟩)) ?_ (hc:=by exact λa_=>(bZ _ rfl));refine EN (cQ [4,9,11] (by kernel_rfl) rfl (aH rfl ?_ ?_));refine LG 0 Y3 (.int .i64 (s.view.epoch)) ?_ (hc:=by exact λa_=>(cp (s.rep ⟨(a_:Nat×Value).1,(.pointer (some ⟨vb,0,none⟩)),a_.2⟩) 0 rfl (by decide) (bf _ rfl)));refine EN (cQ [9,11] (by kernel_rfl) rfl (aH rfl ?_ ?_));refine CE jY (bK vb vt) (SM [1]) ?_;refine EN (ta 10 rfl (lu MsgT.zero (MsgT.mk 3 0 RowT.zero 0 s.view.epoch vt.ballot BallotT.zero ChangeT.zero ViewT.zero) [(0,[Value.int .i64 3]),(4,[Value.int .i64 s.view.epoch]),(5,ints vt.ballot.flat)] bi bv (g:=MsgT.sg)) ?_);refine AL 11 ?_;refine XZ mB (ints MsgT.zero.flat) λb4=>?_
 refine EN (AL 12 ?_);refine SW 0 ci aJ ?_;refine EN (DN ?_)
 exact aG
  SB
  (λ_ s=>ao [2,1,0] rfl s)
  (tl1 ((b4):(Nat)) trivial)
 refine aH rfl ?_ ?_;refine XZ mB (ints MsgT.zero.flat) λb4=>?_
 refine EN (AL 9 ?_);refine CE jY (bK vb vt) (SM [2]) ?_;refine EN (ta 10 rfl (lu MsgT.zero (MsgT.mk 3 0 RowT.zero 0 s.view.epoch vt.ballot BallotT.zero ChangeT.zero ViewT.zero) [(0,[Value.int .i64 3]),(4,[Value.int .i64 s.view.epoch]),(5,ints vt.ballot.flat)] bi bv (g:=MsgT.sg)) ?_);refine AL 12 ?_;refine SW 1 ci aJ ?_;refine EN (DN ?_)
 exact aG
  SB
  (λ_ s=>ao [2,0,0] rfl s)
  (tl1 ((b4):(Nat)) trivial)
 exact bL;refine aH rfl ?_ ?_;refine CE jY (bK vb vt) (SM [1]) ?_;refine EN (cQ [4,11] (by kernel_rfl) rfl (aH rfl ?_ ?_));refine LG 1 Y3 (.int .i64 (s.view.epoch)) ?_ (hc:=by exact λa_=>(cp (s.rep ⟨(a_:Nat×Value).1,(.pointer (some ⟨vb,0,none⟩)),a_.2⟩) 0 rfl (by decide) (bf _ rfl)));refine EN (ta 10 rfl (lu MsgT.zero (MsgT.mk 3 0 RowT.zero 0 s.view.epoch vt.ballot BallotT.zero ChangeT.zero ViewT.zero) [(0,[Value.int .i64 3]),(4,[Value.int .i64 s.view.epoch]),(5,ints vt.ballot.flat)] bi bv (g:=MsgT.sg)) ?_);refine AL 11 ?_;refine XZ mB (ints MsgT.zero.flat) λb4=>?_
 refine EN (AL 12 ?_);refine SW 0 ci aJ ?_;refine EN (DN ?_)
 exact aG
  SB
  (λ_ s=>ao [2,1,0] rfl s)
  (tl1 ((b4):(Nat)) trivial)
 refine aH rfl ?_ ?_;refine XZ mB (ints MsgT.zero.flat) λb4=>?_
 refine EN (AL 4 ?_);refine LG 2 Y3 (.int .i64 (s.view.epoch)) ?_ (hc:=by exact λa_=>(cp (s.rep ⟨(a_:Nat×Value).1,(.pointer (some ⟨vb,0,none⟩)),a_.2⟩) 0 rfl (by decide) (bf _ rfl)));refine EN (ta 10 rfl (lu MsgT.zero (MsgT.mk 3 0 RowT.zero 0 s.view.epoch vt.ballot BallotT.zero ChangeT.zero ViewT.zero) [(0,[Value.int .i64 3]),(4,[Value.int .i64 s.view.epoch]),(5,ints vt.ballot.flat)] bi bv (g:=MsgT.sg)) ?_);refine AL 12 ?_;refine SW 0 ci aJ ?_;refine EN (DN ?_)
 exact aG
  SB
  (λ_ s=>ao [2,1,0] rfl s)
  (tl1 ((b4):(Nat)) trivial)
 exact bL;refine aH rfl ?_ ?_;refine XZ mB (ints MsgT.zero.flat) λb4=>?_
 refine EN (cQ [4,9] (by kernel_rfl) rfl (aH rfl ?_ ?_));refine LG 1 Y3 (.int .i64 (s.view.epoch)) ?_ (hc:=by exact λa_=>(cp (s.rep ⟨(a_:Nat×Value).1,(.pointer (some ⟨vb,0,none⟩)),a_.2⟩) 0 rfl (by decide) (bf _ rfl)));refine EN (AL 9 ?_);refine CE jY (bK vb vt) (SM [2]) ?_;refine EN (ta 10 rfl (lu MsgT.zero (MsgT.mk 3 0 RowT.zero 0 s.view.epoch vt.ballot BallotT.zero ChangeT.zero ViewT.zero) [(0,[Value.int .i64 3]),(4,[Value.int .i64 s.view.epoch]),(5,ints vt.ballot.flat)] bi bv (g:=MsgT.sg)) ?_);refine AL 12 ?_;refine SW 1 ci aJ ?_;refine EN (DN ?_)
 exact aG
  SB
  (λ_ s=>ao [2,0,0] rfl s)
  (tl1 ((b4):(Nat)) trivial)
 refine aH rfl ?_ ?_;refine CE jY (bK vb vt) (SM [2]) ?_;refine EN (AL 4 ?_);refine LG 2 Y3 (.int .i64 (s.view.epoch)) ?_ (hc:=by exact λa_=>(cp (s.rep ⟨(a_:Nat×Value).1,(.pointer (some ⟨vb,0,none⟩)),a_.2⟩) 0 rfl (by decide) (bf _ rfl)));refine EN (ta 10 rfl (lu MsgT.zero (MsgT.mk 3 0 RowT.zero 0 s.view.epoch vt.ballot BallotT.zero ChangeT.zero ViewT.zero) [(0,[Value.int .i64 3]),(4,[Value.int .i64 s.view.epoch]),(5,ints vt.ballot.flat)] bi bv (g:=MsgT.sg)) ?_);refine AL 12 ?_;refine SW 1 ci aJ ?_;refine EN (DN ?_)
 exact aG
  SB
  (λ_ s=>ao [2,0,0] rfl s)
  (tl1 ((b4):(Nat)) trivial)
 exact bL;exact bL;refine aH rfl ?_ ?_;refine XZ mB (ints MsgT.zero.flat) λb4=>?_
 refine EN (cQ [4,8] (by kernel_rfl) rfl (aH rfl ?_ ?_));refine LG 1 Y3 (.int .i64 (s.view.epoch)) ?_ (hc:=by exact λa_=>(cp (s.rep ⟨(a_:Nat×Value).1,(.pointer (some ⟨vb,0,none⟩)),a_.2⟩) 0 rfl (by decide) (bf _ rfl)));refine EN (AL 8 ?_);refine LG 1 pI (.pointer (some ⟨vb,0,none⟩)) ?_ (hc:=by exact λa_=>(bZ _ rfl));refine EN (AL 9 ?_);refine CE jY (bK vb vt) (SM [2]) ?_;refine EN (ta 10 rfl (lu MsgT.zero (MsgT.mk 3 0 RowT.zero 0 s.view.epoch vt.ballot BallotT.zero ChangeT.zero ViewT.zero) [(0,[Value.int .i64 3]),(4,[Value.int .i64 s.view.epoch]),(5,ints vt.ballot.flat)] bi bv (g:=MsgT.sg)) ?_);refine AL 12 ?_;refine SW 1 ci aJ ?_;refine EN (DN ?_)
 exact aG
  SB
  (λ_ s=>ao [2,0,0] rfl s)
  (tl1 ((b4):(Nat)) trivial)
 refine aH rfl ?_ ?_;refine LG 1 pI (.pointer (some ⟨vb,0,none⟩)) ?_ (hc:=by exact λa_=>(bZ _ rfl));refine EN (cQ [4,9] (by kernel_rfl) rfl (aH rfl ?_ ?_));refine LG 1 Y3 (.int .i64 (s.view.epoch)) ?_ (hc:=by exact λa_=>(cp (s.rep ⟨(a_:Nat×Value).1,(.pointer (some ⟨vb,0,none⟩)),a_.2⟩) 0 rfl (by decide) (bf _ rfl)));refine EN (AL 9 ?_);refine CE jY (bK vb vt) (SM [2]) ?_;refine EN (ta 10 rfl (lu MsgT.zero (MsgT.mk 3 0 RowT.zero 0 s.view.epoch vt.ballot BallotT.zero ChangeT.zero ViewT.zero) [(0,[Value.int .i64 3]),(4,[Value.int .i64 s.view.epoch]),(5,ints vt.ballot.flat)] bi bv (g:=MsgT.sg)) ?_);refine AL 12 ?_;refine SW 1 ci aJ ?_;refine EN (DN ?_)
 exact aG
  SB
  (λ_ s=>ao [2,0,0] rfl s)
  (tl1 ((b4):(Nat)) trivial)
 refine aH rfl ?_ ?_;refine CE jY (bK vb vt) (SM [2]) ?_;refine EN (AL 4 ?_);refine LG 2 Y3 (.int .i64 (s.view.epoch)) ?_ (hc:=by exact λa_=>(cp (s.rep ⟨(a_:Nat×Value).1,(.pointer (some ⟨vb,0,none⟩)),a_.2⟩) 0 rfl (by decide) (bf _ rfl)));refine EN (ta 10 rfl (lu MsgT.zero (MsgT.mk 3 0 RowT.zero 0 s.view.epoch vt.ballot BallotT.zero ChangeT.zero ViewT.zero) [(0,[Value.int .i64 3]),(4,[Value.int .i64 s.view.epoch]),(5,ints vt.ballot.flat)] bi bv (g:=MsgT.sg)) ?_);refine AL 12 ?_;refine SW 1 ci aJ ?_;refine EN (DN ?_)
 exact aG
  SB
  (λ_ s=>ao [2,0,0] rfl s)
  (tl1 ((b4):(Nat)) trivial)
 exact bL;exact bL;exact bL
theorem sS{δ:Type}(V:Env δ)(r:Nat)(s:MS δ)(vt:VoteT)(hv:s.vote=some vt)(hpt:vt.putting=true)[OkR V.toDk s]:DT 71 #[.pointer (some ⟨r,0,none⟩), .iface V.T V.ov] T0 [cK V r s] (dL (λ_ H=>H=[cK V r (jw V.toDk s vt)])):=
 have:OkVt vt:=OkR.vote vt hv
 Leg.Does.ex (λ_ q=>nh hv q) λvb=>yc V r vb s vt hv hpt
theorem rz{δ:Type}(V:Env δ)(r:Nat)(s:MS δ)(from':Int)(m:MsgT)[OkR V.toDk s][OkMg m](hfe:from'=s.id→m.epoch=s.view.epoch)(hk:m.kind=4):TK V r 62 s from' m (p8 V.toDk s from' m):=oR (by omega) (by
 cases hv:s.vote with
 |none=>exact kW V r s (oQ V.toDk from' m) from' m hfe (λe=>by omega) (λe=>by omega) (λ_=>by rw[oQ,show(dp s (max s.round m.ballot.round)).vote=none from hv]) (λ_=>hv)
 |some vt=>
  have hov:OkVt vt:=OkR.vote vt hv;have h:=p5 V r s vt from' m hfe (.inl hk) hv (λ_ h2=>sS V r (jr (dp s (max s.round m.ballot.round)) (dT vt from' m.ballot m.had m.change).1) (dT vt from' m.ballot m.had m.change).1 rfl (D4 h2))
  rwa [show(λs_:MS δ=>if m.kind=4 then oQ V.toDk from' m s_ else kV V.toDk from' m s_)=oQ V.toDk from' m from funext λ_=>if_pos hk]at h)
theorem xY{δ:Type}(V:Env δ)(r:Nat)(s:MS δ)(from':Int)(m:MsgT)[OkR V.toDk s][OkMg m](hep:m.epoch=s.view.epoch):
 DT 136 #[(.pointer (some ⟨r,0,none⟩)),(.iface V.T V.ov),(.int .i64 (from')),(.agg (ints m.flat).toArray)] T0 [cK V r s] (dL (λ_ H=>H=[cK V r (oH V.toDk from' m s)])):=by
 refine BD 57 Tryz.func136 rfl rfl rfl λw0 F hF=>?_
 have hpm:OkMg (fc m.epoch m.ballot (bC s.acc m.epoch m.ballot).1.had (bC s.acc m.epoch m.ballot).1.change):=OkMg.promM m.epoch inferInstance;refine sr λ_ J1=>XY (ints m.flat) λb7=>?_
 refine nx J1 (aa λ_ J2=>fo (α:=(Nat)) (λb8=>True) (λb8=>[(0,(.pointer (some ⟨r,0,none⟩))),(1,(.iface V.T V.ov)),(2,(.int .i64 (from'))),(7,(.pointer (some ⟨b7,0,none⟩))),(8,(.pointer (some ⟨b8,0,none⟩))),(9,(.bool ((bC s.acc m.epoch m.ballot).2)))]) (λb8=>[cK V r s,an b7 (ints m.flat) 136,an b8 (ints ((bC s.acc m.epoch m.ballot).1).flat) 89]) (λb8 hinv=>?_) (λtl2=>?_));have _:=hinv;refine af J2 (aa λ_ J3=>sr λ_ J4=>PS ?_);refine bh ?_ ?_<;>intro h22;refine PS ?_;refine nx J4 (CN (qx J3 (aa λ_ J5=>aa λ_ J6=>DC bo (BL 2) (cV 0 rfl rfl) ?_)));refine FD 0 1 pO cA ?_;refine ta 1 rfl (aL (vs:=ints (((bC s.acc m.epoch m.ballot).1).vow).flat) rfl kB rfl cA rfl (λ_ h=>h.2.1) (ap (((bC s.acc m.epoch m.ballot).1).vow)) (QC ((bC s.acc m.epoch m.ballot).1) 0 rfl (by decide) (bn (ap (((bC s.acc m.epoch m.ballot).1).vow))))) ?_;refine PD 2 ?_;refine PD 3 ?_;refine FD 4 1058 db fU ?_;refine FD 5 1059 pO cA ?_;refine ta 6 rfl (gD (vs:=ints s.acc.vow.flat) rfl kB rfl cA rfl (λ_ h=>h.2.2.1) (ap s.acc.vow) (λa_=>(yx (s.rep a_) 1 rfl (by decide) (QC ((s.rep a_).acc) 0 rfl (by decide) (bn (ap (((s.rep a_).acc).vow))))))) ?_
 refine ta 7 rfl (DV (a:=(((bC s.acc m.epoch m.ballot).1).vow).flat) (b:=s.acc.vow.flat) (m:=6) (c:=2) Mf Me rfl MI (du (ap (((bC s.acc m.epoch m.ballot).1).vow))) (du (ap s.acc.vow)) ⟨gh HA HL (du (ap (((bC s.acc m.epoch m.ballot).1).vow))),gh HA HL (du (ap s.acc.vow))⟩ (OkAc.vow inferInstance) (OkAc.vow inferInstance) rfl rfl rfl) ?_;refine jT ?_ ?_<;>intro h31;refine DN (af J6 (CY (aa λ_ J7=>sr λ_ J8=>PS ?_)));refine FA 177 bi aQ ?_;refine LU 1 Y3 (eZ m rfl) ?_;refine FA 178 bi cA ?_;refine LV 1 kB cA ap oI (y:=m.ballot) ?_;refine tp (lu RecT.zero (RecT.mk 3 0 RowT.zero m.epoch m.ballot ChangeT.zero ViewT.zero) [(0,[Value.int .i64 3]),(3,[Value.int .i64 m.epoch]),(4,ints m.ballot.flat)] eC fq (g:=RecT.sg)) ?_;refine CE EG (lD V r s (fk m.epoch m.ballot)) ID ?_;refine PS ?_;refine aq ?_ ?_<;>intro h39;refine nx J8 (CY (ak (ae (ae (WK [0] (dM rfl ?_))))));exact MQ (by rw[oH,if_neg (by rw[h22];decide),if_pos h31,if_pos h39]);refine nx J8 (CN (qx J7 (ag (PS ?_))));refine LW 2 pO fU bd ?_;refine PS ?_;refine FA 1058 db fU ?_
 refine iw (vs:=ints ((bC s.acc m.epoch m.ballot).1).flat) (i:=0) (ab rfl) rfl rfl rfl rfl rfl (by rw[(bd ((bC s.acc m.epoch m.ballot).1))];exact fU) (bB _) rfl rfl (λ_=>LC (cU _) (bd _)) (λa_=>(kP ((dE V.toDk s (fk m.epoch m.ballot)).rep a_) 0 rfl (by have h1:=(bd ((bC s.acc m.epoch m.ballot).1));omega) (cr ((bd (((dE V.toDk s (fk m.epoch m.ballot)).rep a_).acc)).trans (bd ((bC s.acc m.epoch m.ballot).1)).symm)))) (nx J5 (ag (P3 ?_)));refine FA 177 bi aQ ?_;refine LU 1 Y3 (eZ m rfl) ?_;refine FA 178 bi cA ?_;refine LV 1 kB cA ap oI (y:=m.ballot) ?_;refine FA 3 pO cA ?_;refine LV 2 kB cA ap AccT.sp_had (y:=(((bC s.acc m.epoch m.ballot).1).had)) ?_;refine FA 5 pO fR ?_;refine LV 2 nt fR aK AccT.sp_change (y:=(((bC s.acc m.epoch m.ballot).1).change)) ?_;refine tp (lu MsgT.zero (MsgT.mk 4 0 RowT.zero 0 m.epoch m.ballot (((bC s.acc m.epoch m.ballot).1).had) (((bC s.acc m.epoch m.ballot).1).change) ViewT.zero) [(0,[Value.int .i64 4]),(4,[Value.int .i64 m.epoch]),(5,ints m.ballot.flat),(6,ints (((bC s.acc m.epoch m.ballot).1).had).flat),(7,ints (((bC s.acc m.epoch m.ballot).1).change).flat)] bi bv (g:=MsgT.sg)) ?_
 refine CZ jA (gQ V r (tC (dE V.toDk s (fk m.epoch m.ballot)) (bC s.acc m.epoch m.ballot).1) from' (fc m.epoch m.ballot (bC s.acc m.epoch m.ballot).1.had (bC s.acc m.epoch m.ballot).1.change) (λs_=>p8 V.toDk s_ s_.id (fc m.epoch m.ballot (bC s.acc m.epoch m.ballot).1.had (bC s.acc m.epoch m.ballot).1.change)) (λ_=>rz V r (tC (dE V.toDk s (fk m.epoch m.ballot)) (bC s.acc m.epoch m.ballot).1) (tC (dE V.toDk s (fk m.epoch m.ballot)) (bC s.acc m.epoch m.ballot).1).id (fc m.epoch m.ballot (bC s.acc m.epoch m.ballot).1.had (bC s.acc m.epoch m.ballot).1.change) (λ_=>hep) rfl)) ID λvR=>?_
 refine ax (WK [0] (bE rfl ?_));exact MQ (by rw[oH,if_neg (by rw[h22];decide),if_pos h31,if_neg h39];rfl);refine DN (af J6 (CN (qx J5 (ag (P3 ?_)))));refine FA 177 bi aQ ?_;refine LU 1 Y3 (eZ m rfl) ?_;refine FA 178 bi cA ?_;refine LV 1 kB cA ap oI (y:=m.ballot) ?_;refine FA 3 pO cA ?_;refine LV 2 kB cA ap AccT.sp_had (y:=(((bC s.acc m.epoch m.ballot).1).had)) ?_;refine FA 5 pO fR ?_;refine LV 2 nt fR aK AccT.sp_change (y:=(((bC s.acc m.epoch m.ballot).1).change)) ?_;refine tp (lu MsgT.zero (MsgT.mk 4 0 RowT.zero 0 m.epoch m.ballot (((bC s.acc m.epoch m.ballot).1).had) (((bC s.acc m.epoch m.ballot).1).change) ViewT.zero) [(0,[Value.int .i64 4]),(4,[Value.int .i64 m.epoch]),(5,ints m.ballot.flat),(6,ints (((bC s.acc m.epoch m.ballot).1).had).flat),(7,ints (((bC s.acc m.epoch m.ballot).1).change).flat)] bi bv (g:=MsgT.sg)) ?_;refine CZ jA (gQ V r s from' (fc m.epoch m.ballot (bC s.acc m.epoch m.ballot).1.had (bC s.acc m.epoch m.ballot).1.change) (λs_=>p8 V.toDk s_ s_.id (fc m.epoch m.ballot (bC s.acc m.epoch m.ballot).1.had (bC s.acc m.epoch m.ballot).1.change)) (λ_=>rz V r s s.id (fc m.epoch m.ballot (bC s.acc m.epoch m.ballot).1.had (bC s.acc m.epoch m.ballot).1.change) (λ_=>hep) rfl)) ID λvR=>?_
 refine ax (WK [0] (bE rfl ?_));exact MQ (by rw[oH,if_neg (by rw[h22];decide),if_neg h31];rfl);refine PS ?_;refine nx J4 (CY (ak (ae (WK [0] (dM rfl ?_)))));exact MQ (by rw[oH,if_pos h22]);refine DC bo (cV 1 rfl rfl) (BL 0) ?_;refine PD 0 ?_;refine PD 1 ?_;refine FD 2 1058 db fU ?_;refine ta 3 rfl (gD (vs:=ints s.acc.flat) rfl pO rfl fU rfl (λ_ h=>h.2.1) (bd s.acc) (λa_=>(yx (s.rep a_) 0 rfl (by decide) (bn (bd ((s.rep a_).acc)))))) ?_;refine FD 4 177 bi aQ ?_;refine LR 5 Y3 (eZ m rfl) ?_;refine FD 6 178 bi cA ?_;refine ta 7 rfl (aL (vs:=ints m.ballot.flat) rfl kB rfl cA rfl (λ_ h=>h.2.2.1) (ap m.ballot) (jp m 0 rfl (by decide) (bn (ap m.ballot)))) ?_;refine cQ [8,12] (by kernel_rfl) rfl (aH rfl ?_ ?_);refine CE FX (nU s.acc m.epoch m.ballot) ID ?_;refine EN (PD 9 ?_);refine PD 10 ?_;refine PD 11 ?_;refine rZ ?_ ?_<;>intro h21;refine AL 12 ?_;refine XZ H3 (ints AccT.zero.flat) λb8=>?_
 refine EN (AL 13 ?_);refine SW 0 fU bd ?_;refine EN (PD 14 ?_);refine DN ?_
 exact aG
  (aW (aW (aW (aW (aW (bJ rfl (by rw[h21]) SB))))))
  (λ_ s=>ao [2,1,0] rfl s)
  (tl2 ((b8):(Nat)) trivial)
 refine AL 12 ?_;refine XZ H3 (ints AccT.zero.flat) λb8=>?_
 refine EN (AL 13 ?_);refine SW 0 fU bd ?_;refine EN (PD 14 ?_);refine DN ?_
 exact aG
  (aW (aW (aW (aW (aW (bJ rfl (by rw[h21]) SB))))))
  (λ_ s=>ao [2,1,0] rfl s)
  (tl2 ((b8):(Nat)) trivial)
 refine aH rfl ?_ ?_;refine XZ H3 (ints AccT.zero.flat) λb8=>?_
 refine EN (AL 8 ?_);refine CE FX (nU s.acc m.epoch m.ballot) ID ?_;refine EN (PD 9 ?_);refine PD 10 ?_;refine PD 11 ?_;refine rZ ?_ ?_<;>intro h21;refine AL 13 ?_;refine SW 0 fU bd ?_;refine EN (PD 14 ?_);refine DN ?_
 exact aG
  (aW (aW (aW (aW (aW (bJ rfl (by rw[h21]) SB))))))
  (λ_ s=>ao [2,1,0] rfl s)
  (tl2 ((b8):(Nat)) trivial)
 refine AL 13 ?_;refine SW 0 fU bd ?_;refine EN (PD 14 ?_);refine DN ?_
 exact aG
  (aW (aW (aW (aW (aW (bJ rfl (by rw[h21]) SB))))))
  (λ_ s=>ao [2,1,0] rfl s)
  (tl2 ((b8):(Nat)) trivial)
 exact bL
theorem wk{δ:Type}(V:Env δ)(r:Nat)(s:MS δ)(from':Int)(m:MsgT)[OkR V.toDk s][OkMg m](hfe:from'=s.id→m.epoch=s.view.epoch)(hk:m.kind=3):TK V r 62 s from' m (rA V.toDk s from' m):=oR (by omega) (kW V r s (oH V.toDk from' m) from' m hfe (λ_ hep=>xY V r (dp s (max s.round m.ballot.round)) from' m hep) (λe _=>by omega) (λe=>by omega) (λe=>by omega))
theorem yd{δ:Type}(V:Env δ)(r vb:Nat)(s:MS δ)(vt:VoteT)(hv:s.vote=some vt)(hpt:vt.putting=false)[OkR V.toDk s][OkVt vt]:
 DT 71 #[(.pointer (some ⟨r,0,none⟩)),(.iface V.T V.ov)] T0 [vO V r s (.pointer (some ⟨vb,0,none⟩)),an vb (VoteT.cells vt) 187] (dL (λ_ H=>H=[cK V r (k9 V.toDk s vt)])):=by
 refine BD 68 Tryz.func71 rfl rfl rfl λw0 F hF=>aa λ_ J1=>fo (α:=(Nat)) (λb4=>True) (λb4=>[(0,(.pointer (some ⟨r,0,none⟩))),(1,(.iface V.T V.ov)),(4,(.pointer (some ⟨b4,0,none⟩)))]) (λb4=>[vO V r s (.pointer (some ⟨vb,0,none⟩)),an vb (VoteT.cells vt) 187,an b4 (ints (fm s.view.epoch vt.ballot).flat) 136]) (λb4 hinv=>?_) (λtl1=>?_)
 have _:=hinv;refine af J1 (aa λ_ J2=>sr λ_ J3=>P2 ?_);refine FA 1067 db m8 ?_;refine LG 0 pI (.pointer (some ⟨vb,0,none⟩)) ?_ (hc:=by exact λa_=>(bZ _ rfl));refine CE Ly (oh vb vt) (SM [1]) ?_;refine bh ?_ ?_<;>intro h22
 · rw[hpt]at h22;cases h22
 refine nx J3 (CN (qx J2 (sr λ_ J4=>cB (H':=cK V r s::[an b4 (ints (fm s.view.epoch vt.ballot).flat) 136]) (λ_ q=>ow hv (aE [1,0] rfl q)) (P2 ?_))));refine FA 2 db be ?_;refine LZ 0 eL be ai s.view ?_ (hc:=by exact λ_=>cT _);refine XZ pM (ints ViewT.zero.flat) λb5=>?_
 refine SW 0 be ai ?_;refine nx J4 (aa λ_ J5=>sr λ_ J6=>PS ?_);refine nx J6 (av ?_)
 refine bG (α:=(Nat)) (λk=>k≤5) (λk=>[(0,(.pointer (some ⟨r,0,none⟩))),(1,(.iface V.T V.ov)),(4,(.pointer (some ⟨b4,0,none⟩))),(5,(.pointer (some ⟨b5,0,none⟩))),(34,(.int .i64 (((k:Nat):Int))))]) (λk=>[an b5 (ints s.view.flat) 29,an b4 (ints (fm s.view.epoch vt.ballot).flat) 136,cK V r (iN V.toDk s (nf s.id (fm s.view.epoch vt.ballot) (λi=>gA s.view ((i:Nat):Int)) k))]) (λk=>5-k) 0
  (aP _) SB
  (λ_ q=>by
  rw[show nf s.id (fm s.view.epoch vt.ballot) (λi=>gA s.view ((i:Nat):Int)) 0=[]from rfl,qb]
  exact ao [0,1,0] rfl q) (λk hinv=>?_)
 obtain hk:=hinv;refine sr λ_ J7=>PS ?_
 refine aq ?_ ?_<;>intro h35;refine nx J7 (aa λ_ J8=>CY (qx J8 (aa λ_ J9=>av (sr λ_ J10=>P2 ?_))));refine nx J10 (sr λ_ J11=>P3 ?_);refine FA 0 db aQ ?_;refine LG 2 Y3 (.int .i64 (s.id)) ?_ (hc:=by exact λa_=>(cF _ rfl));refine PS ?_;refine aq ?_ ?_<;>intro h42;refine PS ?_;refine LW 0 eL be ai ?_;refine PS ?_;refine CE qh (dH s.view ((k:Nat):Int)) ID ?_;refine bh ?_ ?_<;>intro h46;refine PS ?_;refine nx J11 (CY (ag (P3 ?_)));refine LW 1 bi ci aJ ?_;refine CZ jA (oq V r s (nf s.id (fm s.view.epoch vt.ballot) (λi=>gA s.view ((i:Nat):Int)) k) ((k:Nat):Int) (fm s.view.epoch vt.ballot) h42) (SM [2]) λvR=>?_
 refine ax (ah (af J9 (ag (AD ?_))));refine PS ?_;refine ax ?_
 exact aN ((k+1):(Nat)) (by omega) (by show 5- (k+1)<5-k;omega)
  SB
  (λ_ q=>by
   rw[je,if_pos ⟨h42,h46⟩]
   exact ao [1,1,0] rfl q)
 refine PS ?_;refine nx J11 (CN (aT (ah (af J9 (ag (AD ?_))))));refine PS ?_;refine ax ?_
 exact aN ((k+1):(Nat)) (by omega) (by show 5- (k+1)<5-k;omega)
  SB
  (λ_ q=>by
   rw[je,if_neg (λh=>by have:=h.2;rw[h46]at this;cases this)];rw[aU]
   exact ao [0,0,0] rfl q)
 refine PS ?_
 iterate 3 refine UF ?_
 refine PS ?_;refine nx J11 (CN (aT (ah (af J9 (ag (AD ?_))))));refine PS ?_;refine ax ?_
 exact aN ((k+1):(Nat)) (by omega) (by show 5- (k+1)<5-k;omega)
  SB
  (λ_ q=>by
   rw[je,if_neg (λh=>h42 h.1)];rw[aU]
   exact ao [0,0,0] rfl q)
 obtain rfl:k=5:=by omega
 refine nx J7 (aa λ_ J12=>CN (bg (aC (aC (bD (af J5 (aa λ_ J13=>DC bo (BL 0) (cV 2 rfl rfl) ?_)))))));refine LY 0 eL be ai ?_;refine PD 1 ?_;refine PD 2 ?_;refine FD 3 0 db aQ ?_;refine ta 4 rfl (df (v:=(.int .i64 ((iF V.toDk s (fm s.view.epoch vt.ballot)).id))) rfl Y3 rfl rfl (λ_ h=>h.2.2.1) (λa_=>(cF _ rfl))) ?_;refine AL 5 ?_;refine CE qh (dH s.view ((iF V.toDk s (fm s.view.epoch vt.ballot)).id)) ID ?_;refine bh ?_ ?_<;>intro h59;refine EN (DN (af J13 (CY (D1 1 bo ?_))));refine PD 0 ?_;refine PD 1 ?_;refine PD 2 ?_;refine PD 3 ?_;refine FD 4 0 db aQ ?_;refine LY 6 bi ci aJ ?_;refine AL 5 ?_;refine LG 2 Y3 (.int .i64 ((iF V.toDk s (fm s.view.epoch vt.ballot)).id)) ?_ (hc:=by exact λa_=>(cF _ rfl));refine EN (AL 7 ?_);refine CZ jA (gQ V r (iF V.toDk s (fm s.view.epoch vt.ballot)) s.id (fm s.view.epoch vt.ballot) (λs_=>rA V.toDk s_ s_.id (fm s.view.epoch vt.ballot)) (λ_=>wk V r (iF V.toDk s (fm s.view.epoch vt.ballot)) s.id (fm s.view.epoch vt.ballot) (λ_=>rfl) rfl)) (SM [2]) λvR=>?_
 refine EN (DN (WK [0] (bE rfl ?_)));exact MQ (by rw[k9,iV,if_pos (show gA s.view s.id=true from h59),lw,if_pos (show s.id=(iF V.toDk s (fm s.view.epoch vt.ballot)).id from rfl)]<;>rfl);refine EN (DN (af J13 (CN (aT (WK [2] (bE rfl ?_))))));exact MQ (by rw[k9,iV,if_neg (by rw[show gA s.view s.id=false from h59];decide)]<;>rfl);refine D1 1 bo ?_;refine PD 0 ?_;refine PD 1 ?_;refine FD 2 2 db be ?_;refine FD 3 2 eL aQ ?_;refine PD 5 ?_;refine PD 6 ?_;refine FD 7 1067 db m8 ?_;refine cQ [4,8,11] (by kernel_rfl) rfl (aH rfl ?_ ?_);refine LG 0 Y3 (.int .i64 (s.view.epoch)) ?_ (hc:=by exact λa_=>(cp (s.rep ⟨(a_:Nat×Value).1,(.pointer (some ⟨vb,0,none⟩)),a_.2⟩) 0 rfl (by decide) (bf _ rfl)));refine EN (cQ [8,11] (by kernel_rfl) rfl (aH rfl ?_ ?_));refine LG 0 pI (.pointer (some ⟨vb,0,none⟩)) ?_ (hc:=by exact λa_=>(bZ _ rfl));refine EN (cQ [9,11] (by kernel_rfl) rfl (aH rfl ?_ ?_));refine CE jY (bK vb vt) (SM [1]) ?_;refine EN (ta 10 rfl (lu MsgT.zero (MsgT.mk 3 0 RowT.zero 0 s.view.epoch vt.ballot BallotT.zero ChangeT.zero ViewT.zero) [(0,[Value.int .i64 3]),(4,[Value.int .i64 s.view.epoch]),(5,ints vt.ballot.flat)] bi bv (g:=MsgT.sg)) ?_);refine AL 11 ?_;refine XZ mB (ints MsgT.zero.flat) λb4=>?_
 refine EN (AL 12 ?_);refine SW 0 ci aJ ?_;refine EN (DN ?_)
 exact aG
  SB
  (λ_ s=>ao [2,1,0] rfl s)
  (tl1 ((b4):(Nat)) trivial)
 refine aH rfl ?_ ?_;refine XZ mB (ints MsgT.zero.flat) λb4=>?_
 refine EN (AL 9 ?_);refine CE jY (bK vb vt) (SM [2]) ?_;refine EN (ta 10 rfl (lu MsgT.zero (MsgT.mk 3 0 RowT.zero 0 s.view.epoch vt.ballot BallotT.zero ChangeT.zero ViewT.zero) [(0,[Value.int .i64 3]),(4,[Value.int .i64 s.view.epoch]),(5,ints vt.ballot.flat)] bi bv (g:=MsgT.sg)) ?_);refine AL 12 ?_;refine SW 1 ci aJ ?_;refine EN (DN ?_)
 exact aG
  SB
  (λ_ s=>ao [2,0,0] rfl s)
  (tl1 ((b4):(Nat)) trivial)
 exact bL;refine aH rfl ?_ ?_;refine XZ mB (ints MsgT.zero.flat) λb4=>?_
 refine EN (AL 8 ?_);refine LG 1 pI (.pointer (some ⟨vb,0,none⟩)) ?_ (hc:=by exact λa_=>(bZ _ rfl));refine EN (AL 9 ?_);refine CE jY (bK vb vt) (SM [2]) ?_;refine EN (ta 10 rfl (lu MsgT.zero (MsgT.mk 3 0 RowT.zero 0 s.view.epoch vt.ballot BallotT.zero ChangeT.zero ViewT.zero) [(0,[Value.int .i64 3]),(4,[Value.int .i64 s.view.epoch]),(5,ints vt.ballot.flat)] bi bv (g:=MsgT.sg)) ?_);refine AL 12 ?_;refine SW 1 ci aJ ?_;refine EN (DN ?_)
 exact aG
  SB
  (λ_ s=>ao [2,0,0] rfl s)
  (tl1 ((b4):(Nat)) trivial)
 exact bL;refine aH rfl ?_ ?_;refine LG 0 pI (.pointer (some ⟨vb,0,none⟩)) ?_ (hc:=by exact λa_=>(bZ _ rfl));refine EN (cQ [4,9,11] (by kernel_rfl) rfl (aH rfl ?_ ?_));refine LG 0 Y3 (.int .i64 (s.view.epoch)) ?_ (hc:=by exact λa_=>(cp (s.rep ⟨(a_:Nat×Value).1,(.pointer (some ⟨vb,0,none⟩)),a_.2⟩) 0 rfl (by decide) (bf _ rfl)));refine EN (cQ [9,11] (by kernel_rfl) rfl (aH rfl ?_ ?_));refine CE jY (bK vb vt) (SM [1]) ?_;refine EN (ta 10 rfl (lu MsgT.zero (MsgT.mk 3 0 RowT.zero 0 s.view.epoch vt.ballot BallotT.zero ChangeT.zero ViewT.zero) [(0,[Value.int .i64 3]),(4,[Value.int .i64 s.view.epoch]),(5,ints vt.ballot.flat)] bi bv (g:=MsgT.sg)) ?_);refine AL 11 ?_;refine XZ mB (ints MsgT.zero.flat) λb4=>?_
 refine EN (AL 12 ?_);refine SW 0 ci aJ ?_;refine EN (DN ?_)
 exact aG
  SB
  (λ_ s=>ao [2,1,0] rfl s)
  (tl1 ((b4):(Nat)) trivial)
 refine aH rfl ?_ ?_;refine XZ mB (ints MsgT.zero.flat) λb4=>?_
 refine EN (AL 9 ?_);refine CE jY (bK vb vt) (SM [2]) ?_;refine EN (ta 10 rfl (lu MsgT.zero (MsgT.mk 3 0 RowT.zero 0 s.view.epoch vt.ballot BallotT.zero ChangeT.zero ViewT.zero) [(0,[Value.int .i64 3]),(4,[Value.int .i64 s.view.epoch]),(5,ints vt.ballot.flat)] bi bv (g:=MsgT.sg)) ?_);refine AL 12 ?_;refine SW 1 ci aJ ?_;refine EN (DN ?_)
 exact aG
  SB
  (λ_ s=>ao [2,0,0] rfl s)
  (tl1 ((b4):(Nat)) trivial)
 exact bL;refine aH rfl ?_ ?_;refine CE jY (bK vb vt) (SM [1]) ?_;refine EN (cQ [4,11] (by kernel_rfl) rfl (aH rfl ?_ ?_));refine LG 1 Y3 (.int .i64 (s.view.epoch)) ?_ (hc:=by exact λa_=>(cp (s.rep ⟨(a_:Nat×Value).1,(.pointer (some ⟨vb,0,none⟩)),a_.2⟩) 0 rfl (by decide) (bf _ rfl)));refine EN (ta 10 rfl (lu MsgT.zero (MsgT.mk 3 0 RowT.zero 0 s.view.epoch vt.ballot BallotT.zero ChangeT.zero ViewT.zero) [(0,[Value.int .i64 3]),(4,[Value.int .i64 s.view.epoch]),(5,ints vt.ballot.flat)] bi bv (g:=MsgT.sg)) ?_);refine AL 11 ?_;refine XZ mB (ints MsgT.zero.flat) λb4=>?_
 refine EN (AL 12 ?_);refine SW 0 ci aJ ?_;refine EN (DN ?_)
 exact aG
  SB
  (λ_ s=>ao [2,1,0] rfl s)
  (tl1 ((b4):(Nat)) trivial)
 refine aH rfl ?_ ?_;refine XZ mB (ints MsgT.zero.flat) λb4=>?_
 refine EN (AL 4 ?_);refine LG 2 Y3 (.int .i64 (s.view.epoch)) ?_ (hc:=by exact λa_=>(cp (s.rep ⟨(a_:Nat×Value).1,(.pointer (some ⟨vb,0,none⟩)),a_.2⟩) 0 rfl (by decide) (bf _ rfl)));refine EN (ta 10 rfl (lu MsgT.zero (MsgT.mk 3 0 RowT.zero 0 s.view.epoch vt.ballot BallotT.zero ChangeT.zero ViewT.zero) [(0,[Value.int .i64 3]),(4,[Value.int .i64 s.view.epoch]),(5,ints vt.ballot.flat)] bi bv (g:=MsgT.sg)) ?_);refine AL 12 ?_;refine SW 0 ci aJ ?_;refine EN (DN ?_)
 exact aG
  SB
  (λ_ s=>ao [2,1,0] rfl s)
  (tl1 ((b4):(Nat)) trivial)
 exact bL;refine aH rfl ?_ ?_;refine XZ mB (ints MsgT.zero.flat) λb4=>?_
 refine EN (cQ [4,9] (by kernel_rfl) rfl (aH rfl ?_ ?_));refine LG 1 Y3 (.int .i64 (s.view.epoch)) ?_ (hc:=by exact λa_=>(cp (s.rep ⟨(a_:Nat×Value).1,(.pointer (some ⟨vb,0,none⟩)),a_.2⟩) 0 rfl (by decide) (bf _ rfl)));refine EN (AL 9 ?_);refine CE jY (bK vb vt) (SM [2]) ?_;refine EN (ta 10 rfl (lu MsgT.zero (MsgT.mk 3 0 RowT.zero 0 s.view.epoch vt.ballot BallotT.zero ChangeT.zero ViewT.zero) [(0,[Value.int .i64 3]),(4,[Value.int .i64 s.view.epoch]),(5,ints vt.ballot.flat)] bi bv (g:=MsgT.sg)) ?_);refine AL 12 ?_;refine SW 1 ci aJ ?_;refine EN (DN ?_)
 exact aG
  SB
  (λ_ s=>ao [2,0,0] rfl s)
  (tl1 ((b4):(Nat)) trivial)
 refine aH rfl ?_ ?_;refine CE jY (bK vb vt) (SM [2]) ?_;refine EN (AL 4 ?_);refine LG 2 Y3 (.int .i64 (s.view.epoch)) ?_ (hc:=by exact λa_=>(cp (s.rep ⟨(a_:Nat×Value).1,(.pointer (some ⟨vb,0,none⟩)),a_.2⟩) 0 rfl (by decide) (bf _ rfl)));refine EN (ta 10 rfl (lu MsgT.zero (MsgT.mk 3 0 RowT.zero 0 s.view.epoch vt.ballot BallotT.zero ChangeT.zero ViewT.zero) [(0,[Value.int .i64 3]),(4,[Value.int .i64 s.view.epoch]),(5,ints vt.ballot.flat)] bi bv (g:=MsgT.sg)) ?_);refine AL 12 ?_;refine SW 1 ci aJ ?_;refine EN (DN ?_)
 exact aG
  SB
  (λ_ s=>ao [2,0,0] rfl s)
  (tl1 ((b4):(Nat)) trivial)
 exact bL;exact bL;refine aH rfl ?_ ?_;refine XZ mB (ints MsgT.zero.flat) λb4=>?_
 refine EN (cQ [4,8] (by kernel_rfl) rfl (aH rfl ?_ ?_));refine LG 1 Y3 (.int .i64 (s.view.epoch)) ?_ (hc:=by exact λa_=>(cp (s.rep ⟨(a_:Nat×Value).1,(.pointer (some ⟨vb,0,none⟩)),a_.2⟩) 0 rfl (by decide) (bf _ rfl)));refine EN (AL 8 ?_);refine LG 1 pI (.pointer (some ⟨vb,0,none⟩)) ?_ (hc:=by exact λa_=>(bZ _ rfl));refine EN (AL 9 ?_);refine CE jY (bK vb vt) (SM [2]) ?_;refine EN (ta 10 rfl (lu MsgT.zero (MsgT.mk 3 0 RowT.zero 0 s.view.epoch vt.ballot BallotT.zero ChangeT.zero ViewT.zero) [(0,[Value.int .i64 3]),(4,[Value.int .i64 s.view.epoch]),(5,ints vt.ballot.flat)] bi bv (g:=MsgT.sg)) ?_);refine AL 12 ?_;refine SW 1 ci aJ ?_;refine EN (DN ?_)
 exact aG
  SB
  (λ_ s=>ao [2,0,0] rfl s)
  (tl1 ((b4):(Nat)) trivial)
 refine aH rfl ?_ ?_;refine LG 1 pI (.pointer (some ⟨vb,0,none⟩)) ?_ (hc:=by exact λa_=>(bZ _ rfl));refine EN (cQ [4,9] (by kernel_rfl) rfl (aH rfl ?_ ?_));refine LG 1 Y3 (.int .i64 (s.view.epoch)) ?_ (hc:=by exact λa_=>(cp (s.rep ⟨(a_:Nat×Value).1,(.pointer (some ⟨vb,0,none⟩)),a_.2⟩) 0 rfl (by decide) (bf _ rfl)));refine EN (AL 9 ?_);refine CE jY (bK vb vt) (SM [2]) ?_;refine EN (ta 10 rfl (lu MsgT.zero (MsgT.mk 3 0 RowT.zero 0 s.view.epoch vt.ballot BallotT.zero ChangeT.zero ViewT.zero) [(0,[Value.int .i64 3]),(4,[Value.int .i64 s.view.epoch]),(5,ints vt.ballot.flat)] bi bv (g:=MsgT.sg)) ?_);refine AL 12 ?_;refine SW 1 ci aJ ?_;refine EN (DN ?_)
 exact aG
  SB
  (λ_ s=>ao [2,0,0] rfl s)
  (tl1 ((b4):(Nat)) trivial)
 refine aH rfl ?_ ?_;refine CE jY (bK vb vt) (SM [2]) ?_;refine EN (AL 4 ?_);refine LG 2 Y3 (.int .i64 (s.view.epoch)) ?_ (hc:=by exact λa_=>(cp (s.rep ⟨(a_:Nat×Value).1,(.pointer (some ⟨vb,0,none⟩)),a_.2⟩) 0 rfl (by decide) (bf _ rfl)));refine EN (ta 10 rfl (lu MsgT.zero (MsgT.mk 3 0 RowT.zero 0 s.view.epoch vt.ballot BallotT.zero ChangeT.zero ViewT.zero) [(0,[Value.int .i64 3]),(4,[Value.int .i64 s.view.epoch]),(5,ints vt.ballot.flat)] bi bv (g:=MsgT.sg)) ?_);refine AL 12 ?_;refine SW 1 ci aJ ?_;refine EN (DN ?_)
 exact aG
  SB
  (λ_ s=>ao [2,0,0] rfl s)
  (tl1 ((b4):(Nat)) trivial)
 exact bL;exact bL;exact bL
theorem AB{δ:Type}(V:Env δ)(r:Nat)(s:MS δ)(vt:VoteT)(hv:s.vote=some vt)(hpt:vt.putting=false)[OkR V.toDk s]:DT 71 #[.pointer (some ⟨r,0,none⟩), .iface V.T V.ov] T0 [cK V r s] (dL (λ_ H=>H=[cK V r (k9 V.toDk s vt)])):=
 have:OkVt vt:=OkR.vote vt hv
 Leg.Does.ex (λ_ q=>nh hv q) λvb=>yd V r vb s vt hv hpt
theorem rG{δ:Type}(V:Env δ)(r:Nat)(s:MS δ)(vt:VoteT)(hv:s.vote=some vt)[OkR V.toDk s]:DT 71 #[.pointer (some ⟨r,0,none⟩), .iface V.T V.ov] T0 [cK V r s] (dL (λ_ H=>H=[cK V r (nM V.toDk s vt)])):=by
 cases hp:vt.putting with
 |true=>rw[nM,if_pos hp];exact sS V r s vt hv hp
 |false=>rw[nM,if_neg (by rw[hp];decide)];exact AB V r s vt hv hp
theorem Ai{δ:Type}(V:Env δ)(r:Nat)(s:MS δ)(from':Int)(m:MsgT)[OkR V.toDk s][OkMg m](hto:from'≠s.id)(hrs:s.replies.length≤1000000):TK V r 62 s from' m (gI V.toDk s from' m):=by
 have hfe:from'=s.id→m.epoch=s.view.epoch:=λe=>absurd e hto
 by_cases h3:m.kind=3
 · rw[gI];simp only[h3];exact wk V r s from' m hfe h3
 by_cases h4:m.kind=4
 · rw[gI];simp only[h4];exact rz V r s from' m hfe h4
 by_cases h5:m.kind=5
 · rw[gI];simp only[h5];exact wj V r s from' m hfe h5
 by_cases h6:m.kind=6
 · rw[gI];simp only[h6];exact ru V r s from' m hfe h6
 refine oS V r s _ from' m (λh=>?_) (λh=>?_) (λh=>?_) (λh=>?_) (λh=>?_) (λh=>?_) (λh=>by omega) (λh=>?_)
 · rw[gI,if_pos h];exact xW V r s from' m hto
 · rw[gI,if_neg (by omega),if_pos h];exact wi V r s from' m hrs
 · rw[gI,if_neg (by omega),if_neg (by omega),if_pos h]
 · rw[gI,if_neg (by omega),if_neg (by omega),if_neg (by omega),if_pos h];exact uX V r s m.view
 · rw[gI,if_neg (by omega),if_neg (by omega),if_neg (by omega),if_neg (by omega),if_pos h];exact wh V r s from' m
 · rw[gI,if_neg (by omega),if_neg (by omega),if_neg (by omega),if_neg (by omega),if_neg (by omega),if_pos h];exact ol V r s from' m
 · rw[gI,if_neg h.1,if_neg h.2.1,if_neg h.2.2.1,if_neg h.2.2.2.1,if_neg h.2.2.2.2.1,if_neg h.2.2.2.2.2.1,if_neg h3,if_neg h4,if_neg h5,if_neg h6]
end Go.Proofs.YtmcjhkbcmmddgaaGreat
end
