/-
  Joined texts:what a statement's proof reaches.
-/
import Derived.Test.YtjblgopghhgflaaGreatPAK5
set_option maxHeartbeats 8000000
set_option maxRecDepth 100000
set_option linter.unusedSimpArgs false
set_option linter.unusedVariables false
section
namespace Go.Proofs.YtjblgopghhgflaaGreat
open Go Leg Codec Api Dsk Wal
theorem GF{δ:Type}(V:Env δ)(r lg:Nat)(x:RepT)(m:RecT)(e:δ)(l:List SaidT)(hlog:x.log= .pointer (some ⟨lg,0,none⟩))(hok:V.ok e):
 DT 136 #[(.pointer (some ⟨r,0,none⟩)),(.agg (ints m.flat).toArray)] T0 [ak r (RepT.cells x) 123,V.lg lg e,V.E e l] (RI (.int .i64 (V.pt e (fO m)).2) [ak r (RepT.cells x) 123,V.lg lg (V.pt e (fO m)).1,V.E (V.pt e (fO m)).1 l]):=by
 refine BD 12 Tryz.func136 rfl rfl rfl λw0 F hF=>sr λ_ J1=>XY (ints m.flat) λb3=>?_
 refine PS ?_;refine nx J1 (aa λ_ J2=>D2 1 0 bm ?_);refine PD 0 ?_;refine PD 1 ?_;refine FD 2 1 bn MW ?_;refine LX 3 Tryz.underlying114 (.pointer (some ⟨lg,0,none⟩)) ?_ (hc:=by exact(RepT.at_log x rfl).trans (congrArg some hlog));refine LY 4 je jm bq ?_;refine AL 5 ?_;refine CR Pc (Cc m) ID λvR HR hR=>?_
 obtain⟨_,rfl,rfl⟩:=hR;revert vR;intro ue;refine EN (AL 6 ?_);refine CF Nw (V.put lg ue (fO m) e l hok (xB m)) (SM [3,3]) (λg d s=>Js (vH 0 rfl rfl g d s)) ?_;refine EN (PD 7 ?_);exact DN (ac J2 (ai (WK [4,0,0] (av rfl rfl ⟨rfl,rfl⟩))))
theorem lv{δ:Type}(V:Env δ)(r:Nat)(s:MS δ)(m:RecT)[hs:OkR V.toDk s]:DT 136 #[.pointer (some ⟨r,0,none⟩), .agg (ints m.flat).toArray] T0 [cJ V r s] (RI (.int .i64 (sS V.toDk s m)) [cJ V r (dC V.toDk s m)]):=
 Leg.Does.pack λa=>Leg.Does.withinR (GF V r a.lg (s.rep a) m s.e s.o rfl hs.e) (λ_ _ _ _=>trivial) (λ_ q=>aC [0,0,2] rfl q) λv H hp=>by
  obtain⟨h1,rfl⟩:=hp;exact⟨_,λ_ q=>bp (p:=λa:Adr=>[ak r (RepT.cells ((dC V.toDk s m).rep a)) 123,V.lg a.lg (dC V.toDk s m).e,own a.rs (dC V.toDk s m).replies.length (ints ((dC V.toDk s m).replies.flatMap ReplyT.flat)) 37 3,Fo a.vo (dC V.toDk s m).vote,V.E (dC V.toDk s m).e (dC V.toDk s m).o]) a (aC [0,0,1,1,0] rfl q),h1,rfl⟩
theorem fa{δ:Type}(V:Env δ)(r:Nat)(s:MS δ)(op err val:Int)(hrs:s.replies.length≤1000000):DT 97 #[.pointer (some ⟨r,0,none⟩), .int .i64 op, .int .i64 err, .int .i64 val] T0 [cJ V r s] (dz (λ_ H=>H=[cJ V r (dM s op err val)])):=
 Leg.Does.pack λa=>Leg.Does.withinR (Eb r (s.rep a) op err val s.replies hrs) (λ_ _ _ _=>trivial) (λ_ q=>aC [0,1] rfl q) λv H hp=>by
  obtain⟨v',_,rfl⟩:=hp;exact⟨_,λ_ q=>bp (p:=λa:Adr=>[ak r (RepT.cells ((dM s op err val).rep a)) 123,V.lg a.lg (dM s op err val).e,own a.rs (dM s op err val).replies.length (ints ((dM s op err val).replies.flatMap ReplyT.flat)) 37 3,Fo a.vo (dM s op err val).vote,V.E (dM s op err val).e (dM s op err val).o]) {a with rs:=v'} (aC [0,1,0,0,0] rfl q),rfl⟩
theorem rI{δ:Type}(V:Env δ)(r:Nat)(s:MS δ)(y:RowT)(op:Int)[OkR V.toDk s][OkRow y]:
 DT 98 #[(.pointer (some ⟨r,0,none⟩)),(.iface V.T V.ov),(.agg (ints y.flat).toArray),(.int .i64 (op))] T0 [cJ V r s] (RI (.int .i64 (e6 V.toDk s y op).2) [cJ V r (e6 V.toDk s y op).1]):=by
 refine BD 34 Tryz.func98 rfl rfl rfl λw0 F hF=>sr λ_ J1=>XY (ints y.flat) λb6=>?_
 refine PS ?_;refine nx J1 (aa λ_ J2=>sr λ_ J3=>PS ?_);refine LW 0 ee be aj ?_;refine tp (lm RecT.zero (RecT.mk 0 0 y 0 BallotT.zero ChangeT.zero ViewT.zero) [(0,[Value.int .i64 0]),(2,ints y.flat)] je fh (g:=RecT.sg)) ?_;refine CE w4 (lv V r s (iQ y)) (SM [1]) ?_;refine PS ?_;refine nx J3 (sr λ_ J4=>P2 ?_);refine ao ?_ ?_<;>intro h15;refine nx J4 (CY (sr λ_ J5=>P2 ?_));refine nx J5 (ai (af (WK [0] (av rfl rfl ?_))));have e:e6 V.toDk s y op=(dC V.toDk s (iQ y),sS V.toDk s (iQ y)):=if_pos h15;exact jO e;refine nx J4 (CN (qx J2 (sr λ_ J6=>P4 ?_)));refine LW 1 ee be aj ?_;refine P2 ?_;refine FA 9 bn be ?_;refine g9 (vs:=ints y.flat) (i:=0) (ab rfl) rfl rfl rfl rfl rfl (by rw[(aj y)];exact be) (bC _) rfl rfl (λ_=>LC (cY _) (aj _)) (λa_=>(PQ ((dC V.toDk s (iQ y)).rep a_) 0 rfl (by have h1:=(aj y);omega) (ct ((aj (((dC V.toDk s (iQ y)).rep a_).own)).trans (aj y).symm)))) (PS ?_);refine FA 1938 bn k9 ?_;refine SK 0 k9 (λ_=>cY _) ?_ (hc:=by exact λa_=>(Px _ rfl _));refine PS ?_;refine FA 1939 bn aQ ?_;refine SK 0 aQ (λ_=>cY _) ?_ (hc:=by exact λa_=>(Pw _ rfl _));refine PS ?_;refine FA 1940 bn aQ ?_;refine SK 0 aQ (λ_=>cY _) ?_ (hc:=by exact λa_=>(RepT.set_waits _ rfl _));refine nx J6 (sr λ_ J7=>P2 ?_);refine CZ IH (nR V r (s6 (dC V.toDk s (iQ y)) y op)) ID λvR=>?_
 refine nx J7 (sr λ_ J8=>PS ?_);refine nx J8 (ai (WK [0] (av rfl rfl ?_)));have e:e6 V.toDk s y op=(fl V.toDk (s6 (dC V.toDk s (iQ y)) y op),0):=if_neg h15;exact jO e
theorem pi(x:RowT)(who:Int)(d:RowT):
 DT 152 #[(.agg (ints x.flat).toArray),(.int .i64 (who)),(.agg (ints d.flat).toArray)] T0 [] (RI (.tuple #[.agg (ints (dp x who d).1.flat).toArray, .int .i64 (dp x who d).2]) []):=by
 refine BD 68 Tryz.func152 rfl rfl rfl λw0 F hF=>sr λ_ J1=>XY (ints x.flat) λb3=>?_
 refine XY (ints d.flat) λb5=>?_
 refine XZ vf (ints RowT.zero.flat) λb6=>?_
 refine PS ?_;refine nx J1 (aa λ_ J2=>sr λ_ J3=>PS ?_);refine CE FF (ka who) ID ?_;refine bc ?_ ?_<;>intro h11;have hw:cN who=true:=by simpa using h11
 have hw2:0≤who∧who<5:=of_decide_eq_true hw;refine PS ?_;refine nx J3 (CN (qx J2 (aa λ_ J4=>sr λ_ J5=>PS ?_)));refine FA 29 ee e8 ?_;refine IX (29+who.toNat) jU aQ ?_;refine LT 2 Y3 (.int .i64 ((x.heir[who.toNat]'(by omega)))) ?_ (hc:=by exact rS x (who.toNat) (by omega) (by omega) (kn x.heir (by omega)));refine PS ?_;refine ao ?_ ?_<;>intro h18;refine nx J5 (CY (sr λ_ J6=>BV ((ints RowT.zero.flat).toArray) ?_));refine SW 0 be aj ?_;refine PS ?_;refine nx J6 (ai (af (RT 0 [] ee be (aj _) ?_)));have e:dp x who d=(.zero,8):=by rw[dp,hw,fN,dif_pos hw,if_neg (by decide),if_pos h18]
 exact⟨by rw[e],rfl⟩;refine nx J5 (CN (qx J4 (aa λ_ J7=>D1 1 bm ?_)));refine PD 0 ?_;refine PD 1 ?_;refine FD 2 0 ee aQ ?_;refine LR 3 Y3 (cH d rfl) ?_;refine ta 4 rfl (cC (r:=(fY (d.version+1))) rfl rfl rfl rfl) ?_;refine FD 5 1 ee lH ?_;refine ta 6 rfl (aM (vs:=ints (bL d.cells.toList)) rfl Bm rfl lH rfl (λ_ h=>h.2.1) (el d.cells) (Ds d 0 rfl (by decide) (whole (el d.cells)))) ?_;refine FD 7 29 ee e8 ?_;refine IY 8 (29+who.toNat) jU aQ ?_;refine FD 10 34 ee BC ?_;refine AL 9 ?_;refine bF (i:=2) (ab rfl) rfl rfl rfl rfl rfl aQ rfl rfl (LB (aj _)) (RowT.st_heir x (who.toNat) (by omega) (by omega) (yV x.heir (by omega) _)) rfl (EN (IY 11 (34+who.toNat*28) Lx lH ?_));refine AL 12 ?_;refine bN (vs:=ints (bL d.cells.toList)) (i:=2) (ab rfl) rfl rfl rfl rfl rfl (by rw[(el d.cells)];exact lH) (bC _) rfl rfl (LC (aj _) (el _)) (RowT.wr_left_ (RowT.mk x.version x.cells (x.heir.set who.toNat (fY (d.version+1)) (by omega)) x.left) (who.toNat*28) (by omega) (by have h1:=(el d.cells);omega) (uy tH x.left (i:=who.toNat) 0 (by omega) (by omega) (by have h1:=(el d.cells);omega) (ct ((el (x.left[who.toNat]'(by omega))).trans (el d.cells).symm)))) rfl (EN (DN (ac J7 (aa λ_ J8=>sr λ_ J9=>FA 29 ee e8 ?_))));refine tp (aM (vs:=ints d.heir.toList) rfl jU rfl e8 rfl (RO 1) (dv d.heir) (Pr d 0 rfl (by decide) (whole (dv d.heir)))) ?_;refine PS ?_;refine nx J9 (aq ?_)
 refine bw (α:=(Nat)×(RowT)) (λ⟨k,y⟩=>k≤5∧y=nI x who d k) (λ⟨k,y⟩=>[(1,(.int .i64 (who))),(3,(.pointer (some ⟨b3,0,none⟩))),(5,(.pointer (some ⟨b5,0,none⟩))),(6,(.pointer (some ⟨b6,0,none⟩))),(7,(.int .i64 0)),(32,(.agg (ints d.heir.toList).toArray)),(33,(.int .i64 (((k:Nat):Int))))]) (λ⟨k,y⟩=>[ak b6 (ints RowT.zero.flat) 60,ak b5 (ints d.flat) 60,ak b3 (ints y.flat) 60]) (λ⟨k,y⟩=>5-k) (0,(RowT.mk x.version x.cells (x.heir.set who.toNat (fY (d.version+1)) (by omega)) (x.left.set who.toNat d.cells (by omega))))
  ⟨aN _,by rw[nI,mD,dif_pos hw];rfl⟩ SB
  (λ_ s=>am [0,0,0] rfl s) (λ⟨k,y⟩ hinv=>?_)
 obtain⟨hk,hy⟩:=hinv;refine sr λ_ J10=>PS ?_
 refine ao ?_ ?_<;>intro h34;refine nx J10 (aa λ_ J11=>CY (qx J11 (aa λ_ J12=>aq (sr λ_ J13=>PS ?_))));refine tp (kZ (cs:=ints d.heir.toList) (v:=Value.int .i64 (d.heir[k]'(by omega))) (r:=k) rfl jU Y3 rfl aQ rfl rfl (by omega) (by omega) (by omega) (kn d.heir (by omega))) ?_;refine P2 ?_;refine nx J13 (sr λ_ J14=>P3 ?_);refine ao ?_ ?_<;>intro h39;refine P3 ?_;refine ao ?_ ?_<;>intro h42;refine P3 ?_;refine FA 29 ee e8 ?_;refine IX (29+k) jU aQ ?_;refine LT 2 Y3 (.int .i64 ((y.heir[k]'(by omega)))) ?_ (hc:=by exact rS y k (by omega) (by omega) (kn y.heir (by omega)));refine PS ?_;refine ao ?_ ?_<;>intro h49;refine PS ?_;refine nx J14 (CY (D1 1 bm ?_));refine PD 0 ?_;refine PD 1 ?_;refine PD 2 ?_;refine PD 3 ?_;refine FD 4 34 ee BC ?_;refine IY 5 (34+k*28) Lx lH ?_;refine ta 6 rfl (aM (vs:=ints (bL (d.left[k]'(by omega)).toList)) rfl Bm rfl lH rfl (λ_ h=>h.2.1) (el (d.left[k]'(by omega))) (F3 d (k*28) (by omega) (by omega) (kE tH d.left (i:=k) 0 (by omega) (by omega) (by decide) (whole (el (d.left[k]'(by omega))))))) ?_;refine FD 7 29 ee e8 ?_;refine IY 8 (29+k) jU aQ ?_;refine FD 10 34 ee BC ?_;refine AL 9 ?_;refine bF (i:=2) (ab rfl) rfl rfl rfl rfl rfl aQ rfl rfl (LB (aj _)) (RowT.st_heir y k (by omega) (by omega) (yV y.heir (by omega) _)) rfl (EN (IY 11 (34+k*28) Lx lH ?_));refine AL 12 ?_
 refine bN (vs:=ints (bL (d.left[k]'(by omega)).toList)) (i:=2) (ab rfl) rfl rfl rfl rfl rfl (by rw[(el (d.left[k]'(by omega)))];exact lH) (bC _) rfl rfl (LC (aj _) (el _)) (RowT.wr_left_ (RowT.mk y.version y.cells (y.heir.set k (d.heir[k]'(by omega)) (by omega)) y.left) (k*28) (by omega) (by have h1:=(el (d.left[k]'(by omega)));omega) (uy tH y.left (i:=k) 0 (by omega) (by omega) (by have h1:=(el (d.left[k]'(by omega)));omega) (ct ((el (y.left[k]'(by omega))).trans (el (d.left[k]'(by omega))).symm)))) rfl (EN (DN (ag (ac J12 (ae (AD ?_))))));refine PS ?_;refine au ?_
 exact aK ((k+1,(RowT.mk y.version y.cells (y.heir.set k (d.heir[k]'(by omega)) (by omega)) (y.left.set k (d.left[k]'(by omega)) (by omega)))):(Nat)×(RowT)) ⟨by omega,by rw[nf,←hy,mI,gJ _ (by omega),gJ _ (by omega),if_pos ⟨by omega,by omega,by omega⟩,D5 _ (by omega),G6 _ (by omega)]⟩ (by show 5- (k+1)<5-k;omega)
  SB
  (λ_ s=>am [0,0,0] rfl s)
 refine PS ?_;refine nx J14 (CN (aU (ag (ac J12 (ae (AD ?_))))));refine PS ?_;refine au ?_
 exact aK ((k+1,y):(Nat)×(RowT)) ⟨by omega,by rw[nf,←hy,mI,gJ _ (by omega),gJ _ (by omega),if_neg (by omega)]⟩ (by show 5- (k+1)<5-k;omega)
  SB
  (λ_ s=>am [0,0,0] rfl s)
 refine P2 ?_
 iterate 5 refine UF ?_
 refine PS ?_;refine nx J14 (CN (aU (ag (ac J12 (ae (AD ?_))))));refine PS ?_;refine au ?_
 exact aK ((k+1,y):(Nat)×(RowT)) ⟨by omega,by rw[nf,←hy,mI,gJ _ (by omega),gJ _ (by omega),if_neg (by omega)]⟩ (by show 5- (k+1)<5-k;omega)
  SB
  (λ_ s=>am [0,0,0] rfl s)
 refine PS ?_;refine UF ?_;refine UF ?_;refine P2 ?_
 iterate 5 refine UF ?_
 refine PS ?_;refine nx J14 (CN (aU (ag (ac J12 (ae (AD ?_))))));refine PS ?_;refine au ?_
 exact aK ((k+1,y):(Nat)×(RowT)) ⟨by omega,by rw[nf,←hy,mI,gJ _ (by omega),gJ _ (by omega),if_neg (by omega)]⟩ (by show 5- (k+1)<5-k;omega)
  SB
  (λ_ s=>am [0,0,0] rfl s)
 refine nx J10 (aa λ_ J15=>CN (aX (aA (aA (br (ac J8 (sr λ_ J16=>FA 0 ee aQ ?_)))))));refine LU 2 Y3 (cH y rfl) ?_;refine tp (cC (r:=(fY (y.version+1))) rfl rfl rfl rfl) ?_;refine FA 0 ee aQ ?_;refine bF (i:=2) (ab rfl) rfl rfl rfl rfl rfl aQ rfl rfl (LB (aj _)) (xY y rfl _) rfl (nx J16 (sr λ_ J17=>LW 2 ee be aj ?_));refine SW 0 be aj ?_;refine PS ?_;refine nx J17 (ai (RT 0 [] ee be (aj _) ?_));obtain rfl:k=5:=by omega
 subst hy;have e:dp x who d=({nI x who d 5 with version:=fY ((nI x who d 5).version+1)},0):=by rw[dp,hw,fN,dif_pos hw,if_neg (by decide),if_neg h18]
 exact⟨by rw[e],rfl⟩;refine PS ?_;refine nx J3 (CY (sr λ_ J18=>BV ((ints RowT.zero.flat).toArray) ?_));refine SW 0 be aj ?_;refine PS ?_;refine nx J18 (ai (af (RT 0 [] ee be (aj _) ?_)));have hw:cN who=false:=by simpa using h11
 have e:dp x who d=(.zero,5):=by rw[dp,hw];rfl
 exact⟨by rw[e],rfl⟩
theorem zE{δ:Type}(V:Env δ)(r:Nat)(s:MS δ)[OkR V.toDk s]:
 DT 150 #[(.pointer (some ⟨r,0,none⟩))] T0 [cJ V r s] (dz (λr' H=>∃u,r'=u∧H=[own u (bE s).length (ints (bE s)) 3 1,cJ V r s])):=by
 refine BD 44 Tryz.func150 rfl rfl rfl λw0 F hF=>sr λ_ J1=>PS ?_
 refine nx J1 (sr λ_ J2=>PS ?_);refine nx J2 (aa λ_ J3=>sr λ_ J4=>PS ?_);refine nx J4 (aq ?_)
 refine bw (α:=(Nat)×(Value)) (λ⟨k,u⟩=>k≤5∧u.oneCell'=true) (λ⟨k,u⟩=>[(0,(.pointer (some ⟨r,0,none⟩))),(2,(.slice none 0 0)),(3,u),(7,(.int .i64 (((k:Nat):Int))))]) (λ⟨k,u⟩=>[own u ((ig s k).length) (ints (ig s k)) 3 1,cJ V r s]) (λ⟨k,u⟩=>5-k) (0,(.slice none 0 0))
  ⟨aN _,rfl⟩ SB
  (λ_ s=>gV 3 1 (am [0] rfl s)) (λ⟨k,u⟩ hinv=>?_)
 obtain⟨hk,hu⟩:=hinv;have hol:=Hp s k;refine sr λ_ J5=>PS ?_
 refine ao ?_ ?_<;>intro h8;refine nx J5 (aa λ_ J6=>CY (qx J6 (aa λ_ J7=>aq (sr λ_ J8=>P2 ?_))));refine nx J8 (sr λ_ J9=>P2 ?_);refine FA 2 bn bk ?_;refine LZ 1 eS bk an s.view ?_ (hc:=by exact λ_=>cX _);refine PS ?_;refine CE Kg (qG s.view ((k:Nat):Int) OkVw.rng) ID ?_;refine P3 ?_;refine bc ?_ ?_<;>intro h18;refine P2 ?_;refine nx J9 (sr λ_ J10=>?_)
 iterate 5 refine PS ?_
 refine FA 0 bn aQ ?_;refine LG 1 Y3 (.int .i64 (s.id)) ?_ (hc:=by exact λa_=>(cE _ rfl));refine PS ?_;refine ao ?_ ?_<;>intro h26
 iterate 5 refine PS ?_
 refine FA 9 bn be ?_;refine FA 38 ee e8 ?_;refine IX (38+k) jU aQ ?_;refine LG 1 Y3 (.int .i64 ((s.own.heir[k]'(by omega)))) ?_ (hc:=by exact λa_=>(RepT.pt_own (s.rep a_) (29+k) (by omega) (by omega) (rS ((s.rep a_).own) k (by omega) (by omega) (kn (((s.rep a_).own).heir) (by omega)))));refine PS ?_;refine ao ?_ ?_<;>intro h36;refine PS ?_;refine nx J10 (CY (ae (P2 ?_)));refine aW (cells:=#[(.int .i64 (((k:Nat):Int)))]) (ab rfl) rfl rfl rfl kl rG rfl rfl rfl (by as_aux_lemma=>kernel_rfl) (λb40=>cL (k:=1) (news:=[(.int .i64 (((k:Nat):Int)))]) (nn':=(ig s k).length+1) (xs':=ints (ig s k)++[(.int .i64 (((k:Nat):Int)))]) (ab rfl) rfl rfl rfl kl rG rfl rfl rfl rfl rfl rfl (λ_ _=>jK rfl (RO 0) rfl) (by simp[Value.oneCell']) (by simp only[maxLen];omega) (by omega) (by simp) (by simp) (λv41 ov41=>PS ?_));refine au (ag (ac J7 (ae (AD ?_))));refine PS ?_;refine au ?_
 exact aK ((k+1,v41):(Nat)×(Value)) ⟨by omega,ov41⟩ (by show 5- (k+1)<5-k;omega)
  SB
  (λ_ q=>by
   show bG [own v41 (ig s (k+1)).length (ints (ig s (k+1))) 3 1,cJ V r s] _;rw[show ig s (k+1)=ig s k++[((k:Nat):Int)]by rw[o7,if_pos (Mu h18 h26 (by rw[gJ _ (by omega)];exact h36))],ah,ez]
   exact am [1,1] rfl q)
 refine PS ?_;refine nx J10 (CN (aU (ag (ac J7 (ae (AD ?_))))));refine PS ?_;refine au ?_
 exact aK ((k+1,u):(Nat)×(Value)) ⟨by omega,hu⟩ (by show 5- (k+1)<5-k;omega)
  SB
  (λ_ q=>by
   show bG [own u (ig s (k+1)).length (ints (ig s (k+1))) 3 1,cJ V r s] _;rw[show ig s (k+1)=ig s k by rw[o7,if_neg (by intro hq;have h2:=AY hq;rw[gJ _ (by omega)]at h2;first|omega| (simp_all;done)| (simp_all;omega)),aP]]
   exact am [0,0] rfl q)
 refine P2 ?_
 iterate 8 refine UF ?_
 refine PS ?_;refine nx J10 (CN (aU (ag (ac J7 (ae (AD ?_))))));refine PS ?_;refine au ?_
 exact aK ((k+1,u):(Nat)×(Value)) ⟨by omega,hu⟩ (by show 5- (k+1)<5-k;omega)
  SB
  (λ_ q=>by
   show bG [own u (ig s (k+1)).length (ints (ig s (k+1))) 3 1,cJ V r s] _;rw[show ig s (k+1)=ig s k by rw[o7,if_neg (by intro hq;have h2:=AY hq;rw[gJ _ (by omega)]at h2;first|omega| (simp_all;done)| (simp_all;omega)),aP]]
   exact am [0,0] rfl q)
 refine P2 ?_;refine nx J9 (sr λ_ J11=>P2 ?_)
 iterate 6 refine UF ?_
 refine P2 ?_
 iterate 8 refine UF ?_
 refine PS ?_;refine nx J11 (CN (aU (ag (ac J7 (ae (AD ?_))))));refine PS ?_;refine au ?_
 exact aK ((k+1,u):(Nat)×(Value)) ⟨by omega,hu⟩ (by show 5- (k+1)<5-k;omega)
  SB
  (λ_ q=>by
   show bG [own u (ig s (k+1)).length (ints (ig s (k+1))) 3 1,cJ V r s] _;rw[show ig s (k+1)=ig s k by rw[o7,if_neg (by intro hq;have h2:=AY hq;rw[gJ _ (by omega)]at h2;first|omega| (simp_all;done)| (simp_all;omega)),aP]]
   exact am [0,0] rfl q)
 refine nx J5 (aa λ_ J12=>CN (aX (aA (aA (br (ac J3 (sr λ_ J13=>P2 ?_)))))));refine nx J13 (ai (WK [0,0] (av rfl rfl ?_)));obtain rfl:k=5:=by omega
 exact⟨u,rfl,rfl⟩
theorem nD{δ:Type}(V:Env δ)(r:Nat)(s:MS δ)(who w:Int)(hm:cN who=true)(hw:0≤w∧w<5):
 DT 151 #[(.pointer (some ⟨r,0,none⟩)),(.int .i64 (who)),(.int .i64 (w))] T0 [cJ V r s] (RI (.bool (wh s who w)) [cJ V r s]):=by
 refine BD 17 Tryz.func151 rfl rfl rfl λw0 F hF=>?_
 have hm2:0≤who∧who<5:=of_decide_eq_true hm;refine sr λ_ J1=>PS ?_
 refine nx J1 (sr λ_ J2=>P3 ?_);refine FA 1943 bn e8 ?_;refine IX (1943+who.toNat) jU aQ ?_;refine LG 0 Y3 (.int .i64 ((s.told[who.toNat]'(by omega)))) ?_ (hc:=by exact λa_=>(PR (s.rep a_) (who.toNat) (by omega) (by omega) (kn ((s.rep a_).told) (by omega))));refine PS ?_;refine tp (l8 (r:=((s.told[who.toNat]'(by omega)).fdiv (2^min w.toNat IntKind.i64.bits))) rfl rfl rfl (by omega) rfl) ?_;refine tp (tt (r:=(((s.told[who.toNat]'(by omega)).fdiv (2^min w.toNat IntKind.i64.bits))%2)) rfl rfl rfl (mask (k:=1) (by decide) _)) ?_;refine P2 ?_;refine nx J2 (ai (WK [0] (av rfl rfl ?_)));exact⟨by rw[wh,pN,dif_pos hm],rfl⟩
theorem o9{δ:Type}(V:Env δ)(r:Nat)(s:MS δ)[OkR V.toDk s]:
    DT 107 #[(.pointer (some ⟨r,0,none⟩)),(.iface V.T V.ov)] T0 [cJ V r s] (dz (λ_ H=>H=[cJ V r (lZ V.toDk s)])):=by
 refine BD 80 Tryz.func107 rfl rfl rfl λw0 F hF=>sr λ_ J1=>PS ?_
 refine CR Lg (zE V r s) ID λvR HR hR=>?_
 obtain⟨_,rfl,rfl⟩:=hR;revert vR;intro ud;refine kY 0 rfl rfl (λhlud houd=>PS ?_);refine nx J1 (aa λ_ J2=>sr λ_ J3=>P2 ?_);refine FA 1938 bn k9 ?_;refine LG 1 Y4 (.bool (s.busy)) ?_ (hc:=by exact λa_=>(yH _ rfl));refine bc ?_ ?_<;>intro h19;refine PS ?_
 iterate 3 refine UT ?_
 refine PS ?_;refine nx J3 (CY (ai (af (WK [1] (dP rfl ?_)))));exact congrArg (λq=>[cJ V r q]) (show s=lZ V.toDk s from(if_pos (by rw[h19];rfl)).symm);refine P2 ?_;refine tq (eh rfl kl rfl hlud) ?_;refine PS ?_;refine ao ?_ ?_<;>intro h23;refine PS ?_;refine nx J3 (CY (ai (af (WK [1] (dP rfl ?_)))));exact congrArg (λq=>[cJ V r q]) (show s=lZ V.toDk s from(if_pos (by rw[h19,decide_eq_true (by omega)];rfl)).symm);refine PS ?_;refine nx J3 (CN (qx J2 (aa λ_ J4=>sr λ_ J5=>PS ?_)));refine tp (eh rfl kl rfl hlud) ?_;refine PS ?_;refine nx J5 (aq ?_)
 refine bw (α:=(Nat)) (λk=>k≤(bE s).length∧∀j,j<k→∀w∈hO ((bE s).getD j 0),wh s ((bE s).getD j 0) w=true) (λk=>[(0,(.pointer (some ⟨r,0,none⟩))),(1,(.iface V.T V.ov)),(4,ud),(25,ud),(26,(.int .i64 ((((bE s).length:Nat):Int)))),(27,(.int .i64 (((k:Nat):Int))))]) (λk=>[own ud ((bE s).length) (ints (bE s)) 3 1,cJ V r s]) (λk=>(bE s).length-k) 0
     ⟨aN _,λj h=>absurd h (by omega)⟩ SB
     (λ_ s=>s) (λk hinv=>?_)
 obtain⟨hk,hal⟩:=hinv;refine sr λ_ J6=>PS ?_
 refine ao ?_ ?_<;>intro h28;refine nx J6 (aa λ_ J7=>CY (qx J7 (aa λ_ J8=>aq (sr λ_ J9=>?_))));have hmm1:(bE s).getD k 0∈bE s:=by rw[List.getD_eq_getElem?_getD,List.getElem?_eq_getElem (by omega)];exact ec _
 have hm1:cN ((bE s).getD k 0)=true:=(xE hmm1).1;have hn1:0≤(bE s).getD k 0∧(bE s).getD k 0<5:=of_decide_eq_true hm1;refine j7 0 rfl rfl (by omega) (λge1 ce1 he1 _=>tp (bU (r:=k) he1 rfl kl aQ rfl rfl (by omega) (by omega) (by omega)) ?_);refine tp (di (v:=(.int .i64 (((bE s).getD k 0)))) rfl Y3 rfl rfl (gm 0 rfl he1 rfl) (xo (by omega))) ?_;refine PS ?_;refine nx J9 (sr λ_ J10=>PS ?_);refine CR Iq (qt ((bE s).getD k 0) hm1) ID λvR HR hR=>?_
 obtain⟨_,rfl,rfl⟩:=hR;revert vR;intro uw;refine kY 0 rfl rfl (λhluw _=>j7 0 rfl rfl (by omega) (λgw capw hvw hcapw=>tp (eh rfl kl rfl hluw) ?_));refine PS ?_;refine nx J10 (aq (rY 2 (sr λ_ J11=>PS ?_)));refine nx J11 (aa λ_ J12=>CY (qx J12 (aa λ_ J13=>aq (sr λ_ J14=>tp (bU (r:=0) hvw rfl kl aQ rfl rfl (by omega) (by omega) rfl) ?_))));refine tp (di (v:=(.int .i64 (((((bE s).getD k 0)+1)%5)))) rfl Y3 rfl rfl (gm 0 rfl hvw rfl) rfl) ?_;refine PS ?_;refine nx J14 (sr λ_ J15=>P3 ?_);refine CE FH (nD V r s ((bE s).getD k 0) ((((bE s).getD k 0)+1)%5) hm1 (by omega)) (SM [2]) ?_;refine bc ?_ ?_<;>intro h41;refine PS ?_;refine nx J15 (CN (aU (ag (ac J13 (ae (tp (cC (r:=1) rfl rfl rfl (by decide)) ?_))))));refine PS ?_;refine au (eA (sr λ_ J16=>PS ?_));refine nx J16 (aa λ_ J17=>CY (qx J17 (aa λ_ J18=>aq (sr λ_ J19=>tp (bU (r:=1) hvw rfl kl aQ rfl rfl (by omega) (by omega) rfl) ?_))));refine tp (di (v:=(.int .i64 (((((bE s).getD k 0)+2)%5)))) rfl Y3 rfl rfl (gm 1 rfl hvw rfl) rfl) ?_;refine PS ?_;refine nx J19 (sr λ_ J20=>P3 ?_);refine CE FH (nD V r s ((bE s).getD k 0) ((((bE s).getD k 0)+2)%5) hm1 (by omega)) ID ?_;refine bc ?_ ?_<;>intro h41;refine PS ?_;refine nx J20 (CN (aU (ag (ac J18 (ae (tp (cC (r:=2) rfl rfl rfl (by decide)) ?_))))));refine PS ?_;refine au (eA (sr λ_ J21=>PS ?_));refine nx J21 (aa λ_ J22=>CN (aX (aA (aA (br (ag (ac J8 (ae (AD ?_)))))))));refine PS ?_
 refine au ?_
 exact aK ((k+1):(Nat)) ⟨by omega,λj hj=>by
        by_cases q:j=k
        · subst q
          intro w hw;rw[hO,if_pos hm1]at hw;simp only[co,List.not_mem_nil,or_false]at hw;rcases hw with rfl|rfl<;>assumption
        · exact hal j (by omega)⟩ (by show(bE s).length- (k+1)< (bE s).length-k;omega)
   SB
   (λ_ s=>am [2,0] rfl s)
 refine PS ?_;refine nx J20 (CY (ai (aJ (af (af (aJ (aJ (af (af (aJ (af ?_)))))))))));refine WK [0] (dP rfl ?_)
 have hb: ¬vC s=true:=λh=>by
   have h2:=List.all_eq_true.1 (List.all_eq_true.1 h _ hmm1) (((bE s).getD k 0+2)%5) (by rw[hO,if_pos hm1];simp);rw[h41]at h2;cases h2
 exact MQ (by rw[lZ,if_neg (by rw[h19,decide_eq_false (by omega)];decide),if_neg hb]);refine PS ?_;refine nx J15 (CY (ai (aJ (af (af (aJ (aJ (af (af (aJ (af ?_)))))))))));refine WK [0] (dP rfl ?_)
 have hb: ¬vC s=true:=λh=>by
   have h2:=List.all_eq_true.1 (List.all_eq_true.1 h _ hmm1) (((bE s).getD k 0+1)%5) (by rw[hO,if_pos hm1];simp);rw[h41]at h2;cases h2
 exact MQ (by rw[lZ,if_neg (by rw[h19,decide_eq_false (by omega)];decide),if_neg hb]);refine nx J6 (aa λ_ J23=>CN (aX (aA (aA (br (ac J4 (sr λ_ J24=>P2 ?_)))))));refine FA 9 bn be ?_;refine LZ 1 ee be aj s.own ?_ (hc:=by exact λ_=>LH _);refine XZ vf (ints RowT.zero.flat) λb9=>?_
 refine SW 0 be aj ?_;refine nx J24 (aa λ_ J25=>sr λ_ J26=>PS ?_);refine tp (eh rfl kl rfl hlud) ?_;refine PS ?_;refine nx J26 (aq ?_)
 refine bw (α:=(Nat)×(RowT)) (λ⟨q,y⟩=>q≤(bE s).length∧y=oZ s ((bE s).take q)) (λ⟨q,y⟩=>[(0,(.pointer (some ⟨r,0,none⟩))),(1,(.iface V.T V.ov)),(4,ud),(9,(.pointer (some ⟨b9,0,none⟩))),(49,ud),(50,(.int .i64 ((((bE s).length:Nat):Int)))),(51,(.int .i64 (((q:Nat):Int))))]) (λ⟨q,y⟩=>[ak b9 (ints y.flat) 60,own ud ((bE s).length) (ints (bE s)) 3 1,cJ V r s]) (λ⟨q,y⟩=>(bE s).length-q) (0,s.own)
     ⟨aN _,rfl⟩ SB
     (λ_ s=>am [0,0,0] rfl s) (λ⟨q,y⟩ hinv=>?_)
 obtain⟨hq,hy⟩:=hinv;refine sr λ_ J27=>PS ?_
 refine ao ?_ ?_<;>intro h52;refine nx J27 (aa λ_ J28=>CY (qx J28 (aa λ_ J29=>aq (sr λ_ J30=>?_))));have hmm2:(bE s).getD q 0∈bE s:=by rw[List.getD_eq_getElem?_getD,List.getElem?_eq_getElem (by omega)];exact ec _
 have hm2:cN ((bE s).getD q 0)=true:=(xE hmm2).1;have hn2:0≤(bE s).getD q 0∧(bE s).getD q 0<5:=of_decide_eq_true hm2;refine j7 1 rfl rfl (by omega) (λge1 ce1 he1 _=>tp (bU (r:=q) he1 rfl kl aQ rfl rfl (by omega) (by omega) (by omega)) ?_);refine tp (di (v:=(.int .i64 (((bE s).getD q 0)))) rfl Y3 rfl rfl (gm 1 rfl he1 rfl) (xo (by omega))) ?_;refine PS ?_;refine nx J30 (aa λ_ J31=>sr λ_ J32=>PS ?_);refine FA 29 ee e8 ?_;refine IX (29+(((bE s).getD q 0)).toNat) jU aQ ?_;refine LT 0 Y3 (.int .i64 ((y.heir[(((bE s).getD q 0)).toNat]'(by omega)))) ?_ (hc:=by exact rS y ((((bE s).getD q 0)).toNat) (by omega) (by omega) (kn y.heir (by omega)));refine PS ?_;refine ao ?_ ?_<;>intro h59;refine nx J32 (CY (aX (aA (br (ac J29 (ae (AD ?_)))))));refine PS ?_;refine au ?_
 exact aK ((q+1,y):(Nat)×(RowT)) ⟨by omega,by rw[uW s (by omega),←hy,if_pos (by rw[fN,dif_pos hm2];exact h59)]⟩ (by show(bE s).length- (q+1)< (bE s).length-q;omega)
   SB
   (λ_ s=>am [0,0,0] rfl s)
 refine nx J32 (CN (qx J31 (aa λ_ J33=>fg (α:=(Nat)) (λ_=>True) (λb12=>[(0,(.pointer (some ⟨r,0,none⟩))),(1,(.iface V.T V.ov)),(4,ud),(9,(.pointer (some ⟨b9,0,none⟩))),(12,(.pointer (some ⟨b12,0,none⟩))),(13,(.int .i64 ((dp y ((bE s).getD q 0) (s.last[(((bE s).getD q 0)).toNat]'(by omega))).2))),(49,ud),(50,(.int .i64 ((((bE s).length:Nat):Int)))),(51,(.int .i64 (((q:Nat):Int))))]) (λb12=>[ak b12 (ints ((dp y ((bE s).getD q 0) (s.last[(((bE s).getD q 0)).toNat]'(by omega))).1).flat) 60,ak b9 (ints y.flat) 60,own ud ((bE s).length) (ints (bE s)) 3 1,cJ V r s]) (λb12 _=>?_) (λtl33=>?_))));refine ac J33 (aa λ_ J34=>sr λ_ J35=>P2 ?_);refine ao ?_ ?_<;>intro h73
 · exact absurd (Mq hm2 (by rw[fN,dif_pos hm2];exact h59)) h73
 refine nx J35 (CN (qx J34 (ae (LW 0 ee be aj ?_))));refine SW 1 be aj ?_;refine au (ag (ac J29 (ae (AD ?_))));refine PS ?_;refine au ?_
 exact aK ((q+1,(dp y ((bE s).getD q 0) (s.last[(((bE s).getD q 0)).toNat]'(by omega))).1):(Nat)×(RowT)) ⟨by omega,by rw[uW s (by omega),←hy,if_neg (by rw[fN,dif_pos hm2];exact h59),kT,dif_pos hm2]⟩ (by show(bE s).length- (q+1)< (bE s).length-q;omega)
   SB
   (λ_ s=>am [1,1,1] rfl s)
 refine DC bm (BL 0) (cZ 2 rfl rfl) ?_;refine LY 0 ee be aj ?_;refine PD 1 ?_;refine PD 2 ?_;refine PD 3 ?_;refine PD 4 ?_;refine FD 5 1948 bn tK ?_;refine IY 6 (1948+((((bE s).getD q 0)).toNat)*174) HA be ?_;refine ta 7 rfl (gh (vs:=ints (s.last[(((bE s).getD q 0)).toNat]'(by omega)).flat) rfl ee rfl be rfl (λ_ h=>h.2.2.1) (aj (s.last[(((bE s).getD q 0)).toNat]'(by omega))) (λa_=>(RepT.sub_last (s.rep a_) (((((bE s).getD q 0)).toNat)*174) (by omega) (by omega) (kE dE ((s.rep a_).last) (i:=(((bE s).getD q 0)).toNat) 0 (by omega) (by omega) (by decide) (whole (aj (((s.rep a_).last)[(((bE s).getD q 0)).toNat]'(by omega)))))))) ?_;refine cT [8,12] (by kernel_rfl) rfl (aG rfl ?_ ?_);refine CE Ld (pi y ((bE s).getD q 0) (s.last[(((bE s).getD q 0)).toNat]'(by omega))) ID ?_;refine EN (PD 9 ?_);refine PD 10 ?_;refine PD 11 ?_;refine AL 12 ?_;refine XZ vf (ints RowT.zero.flat) λb12=>?_
 refine EN (AL 13 ?_);refine SW 0 be aj ?_;refine EN (PD 14 ?_);refine DN ?_
 exact aF
   SB
   (λ_ s=>s)
   (tl33 ((b12):(Nat)) trivial)
 refine aG rfl ?_ ?_;refine XZ vf (ints RowT.zero.flat) λb12=>?_
 refine EN (AL 8 ?_);refine CE Ld (pi y ((bE s).getD q 0) (s.last[(((bE s).getD q 0)).toNat]'(by omega))) ID ?_;refine EN (PD 9 ?_);refine PD 10 ?_;refine PD 11 ?_;refine AL 13 ?_;refine SW 0 be aj ?_;refine EN (PD 14 ?_);refine DN ?_
 exact aF
   SB
   (λ_ s=>s)
   (tl33 ((b12):(Nat)) trivial)
 exact bJ;refine nx J27 (aa λ_ J36=>CN (aX (aA (aA (br (ac J25 (ae ?_)))))));have hoy:OkRow y:=by rw[hy];exact inferInstance
 refine P2 ?_;refine LW 0 ee be aj ?_;refine CE L5 (rI V r s y 0) (SM [2]) ?_;refine au (WK [0] (bD rfl ?_));obtain rfl:k=(bE s).length:=by omega
 obtain rfl:q=(bE s).length:=by omega
 have hb:vC s=true:=List.all_eq_true.2 λi hi=>List.all_eq_true.2 λw hw=>by
   obtain⟨j,hj,rfl⟩:=fq hi;have h2:=hal j (by omega) w;rw[List.getD_eq_getElem?_getD,List.getElem?_eq_getElem hj]at h2;exact h2 hw
 rw[iA]at hy;subst hy;exact MQ (by rw[lZ,if_neg (by rw[h19,decide_eq_false (by omega)];decide),if_pos hb])
theorem yw{δ:Type}(V:Env δ)(r:Nat)(s:MS δ)[OkR V.toDk s](hrs:s.replies.length≤1000000):
 DT 169 #[(.pointer (some ⟨r,0,none⟩)),(.iface V.T V.ov)] T0 [cJ V r s] (dz (λ_ H=>H=[cJ V r (kV V.toDk s)])):=by
 refine BD 43 Tryz.func169 rfl rfl rfl λw0 F hF=>sr λ_ J1=>P2 ?_
 refine FA 1938 bn k9 ?_;refine SK 0 k9 (λ_=>cY _) ?_ (hc:=by exact λa_=>(Px _ rfl _));refine nx J1 (aa λ_ J2=>fg (α:=Unit) (λ_u=>True) (λ_u=>[(0,(.pointer (some ⟨r,0,none⟩))),(1,(.iface V.T V.ov))]) (λ_u=>[cJ V r (gF s)]) (λ_u hinv=>?_) (λtl2=>?_));have _:=hinv;refine ac J2 (aa λ_ J3=>fg (α:=Unit) (λ_u=>True) (λ_u=>[(0,(.pointer (some ⟨r,0,none⟩))),(1,(.iface V.T V.ov))]) (λ_u=>[cJ V r (lG (gF s))]) (λ_u hinv=>?_) (λtl3=>?_));have _:=hinv;refine ac J3 (sr λ_ J4=>P4 ?_);refine FA 9 bn be ?_;refine LZ 0 ee be aj ((lG (gF s)).own) ?_ (hc:=by exact λ_=>LH _);refine CZ IE (m5 V r (lG (gF s)) ((lG (gF s)).own)) ID λvR=>?_
 refine nx J4 (ae (P2 ?_));refine CZ FM (o9 V r (lq V.toDk (lG (gF s)) ((lG (gF s)).own))) ID λvR=>?_
 exact au (WK [0] (bD rfl rfl));refine sr λ_ J5=>P2 ?_
 refine FA 1940 bn aQ ?_;refine LG 0 Y3 (.int .i64 ((gF s).waits)) ?_ (hc:=by exact λa_=>(RepT.at_waits _ rfl));refine PS ?_;refine ao ?_ ?_<;>intro h23;refine nx J5 (CY (sr λ_ J6=>P3 ?_));refine FA 1940 bn aQ ?_;refine LG 0 Y3 (.int .i64 ((gF s).waits)) ?_ (hc:=by exact λa_=>(RepT.at_waits _ rfl));refine CZ tY (fa V r (gF s) ((gF s).waits) 0 0 hrs) ID λvR=>?_
 refine nx J6 (ae (P2 ?_));refine FA 1940 bn aQ ?_;refine SK 0 aQ (λ_=>cY _) ?_ (hc:=by exact λa_=>(RepT.set_waits _ rfl _));refine au ?_
 exact aF
  SB
  (λ_ q=>by
   rw[yS h23]
   exact am [0] rfl q)
  (tl3 (():Unit) trivial)
 refine nx J5 (CN (aU ?_))
 exact aF
  SB
  (λ_ q=>by
   rw[yT h23]
   exact am [0] rfl q)
  (tl3 (():Unit) trivial)
 refine D0 bm ?_;refine PD 0 ?_;refine PD 1 ?_;refine FD 2 1068 bn wn ?_;refine PD 3 ?_;refine PD 4 ?_;refine FD 5 0 bn aQ ?_;refine PD 7 ?_;refine PD 8 ?_;refine FD 9 9 bn be ?_;refine cT [6,10] (by kernel_rfl) rfl (aG rfl ?_ ?_);refine LG 0 Y3 (.int .i64 (s.id)) ?_ (hc:=by exact λa_=>(cE _ rfl));refine EN (AL 10 ?_);refine LZ 0 ee be aj s.own ?_ (hc:=by exact λ_=>LH _);refine EN (AL 11 ?_);refine CE Kf (Leg.Does.hid (λa_=>kW r 1068 123 _ (gQ ((MS.setBusy s false).rep a_)) (MS.setBusy s false).book s.id s.own (Jq inferInstance))) ID ?_;refine EN (DN ?_)
 exact aF
  SB
  (λ_ s=>am [0] rfl s)
  (tl2 (():Unit) trivial)
 refine aG rfl ?_ ?_;refine LZ 0 ee be aj s.own ?_ (hc:=by exact λ_=>LH _);refine EN (AL 6 ?_);refine LG 0 Y3 (.int .i64 (s.id)) ?_ (hc:=by exact λa_=>(cE _ rfl));refine EN (AL 11 ?_);refine CE Kf (Leg.Does.hid (λa_=>kW r 1068 123 _ (gQ ((MS.setBusy s false).rep a_)) (MS.setBusy s false).book s.id s.own (Jq inferInstance))) ID ?_;refine EN (DN ?_)
 exact aF
  SB
  (λ_ s=>am [0] rfl s)
  (tl2 (():Unit) trivial)
 exact bJ
theorem wk{δ:Type}(V:Env δ)(r:Nat)(s:MS δ)(from':Int)(m:MsgT)[OkR V.toDk s](hrs:s.replies.length≤1000000):
 DT 144 #[(.pointer (some ⟨r,0,none⟩)),(.iface V.T V.ov),(.int .i64 (from')),(.agg (ints m.flat).toArray)] T0 [cJ V r s] (dz (λ_ H=>H=[cJ V r (dw V.toDk s from' m)])):=by
 refine BD 64 Tryz.func144 rfl rfl rfl λw0 F hF=>?_
 have hid:cN s.id=true:=OkR.id;have hid2:0≤s.id∧s.id<5:=of_decide_eq_true hid;refine sr λ_ J1=>XY (ints m.flat) λb7=>?_
 refine nx J1 (sr λ_ J2=>P2 ?_);refine FA 0 bn aQ ?_;refine LG 1 Y3 (.int .i64 (s.id)) ?_ (hc:=by exact λa_=>(cE _ rfl));refine CR Iq (qt s.id hid) ID λvR HR hR=>?_
 obtain⟨_,rfl,rfl⟩:=hR;revert vR;intro uw;refine kY 0 rfl rfl (λhluw _=>j7 0 rfl rfl (by omega) (λgw capw hvw hcapw=>PS ?_));refine nx J2 (aa λ_ J3=>aa λ_ J4=>DC bm (cZ 2 rfl rfl) (BL 1) ?_);refine PD 0 ?_;refine PD 1 ?_;refine FD 2 1938 bn k9 ?_;refine ta 3 rfl (dm (v:=(.bool (s.busy))) rfl Y4 rfl rfl (λ_ h=>h.2.1) (λa_=>(yH _ rfl))) ?_;refine oA ?_ ?_<;>intro h19;refine PD 4 ?_;refine PD 5 ?_;refine FD 6 176 bf aQ ?_;refine LR 7 Y3 (MsgT.at_version m rfl) ?_;refine PD 8 ?_;refine PD 9 ?_;refine FD 10 9 bn be ?_;refine FD 11 9 ee aQ ?_;refine tb 12 rfl (dm (v:=(.int .i64 (s.own.version))) rfl Y3 rfl rfl (λ_ h=>h.2.1) (λa_=>(RepT.pt_own (s.rep a_) 0 rfl (by decide) (cH _ rfl)))) ?_;refine PD 13 ?_;refine jc ?_ ?_<;>intro h29;refine PD 14 ?_;refine PD 15 ?_;refine NT 16 ?_;refine NT 17 ?_;refine NT 18 ?_;refine NT 19 ?_;refine PD 20 ?_;refine DN (ac J4 (CY (ai (af (WK [2] (dP rfl ?_))))));have ew:hO s.id=[(s.id+1)%5,(s.id+2)%5]:=by rw[hO,if_pos hid]
 have e:lx s from' m.version=false:=by rw[lx,ew,decide_eq_false h29,gS,mh]
 exact congrArg (λq=>[cJ V r q]) (show s=dw V.toDk s from' m by rw[dw,e];rfl);refine PD 14 ?_;refine PD 15 ?_;refine PD 16 ?_;refine PD 17 ?_;refine AL 18 ?_;refine CF K7 (qW uw [(s.id+1)%5,(s.id+2)%5] from' (by decide:2≤1000000)) ID (FV (l:=[(s.id+1)%5,(s.id+2)%5]) 0 rfl rfl) ?_;refine ao ?_ ?_<;>intro h34;have hmem:=h34;simp only[co,List.not_mem_nil,or_false]at hmem;have hfr:0≤from'∧from'<5:=by omega
 refine EN (PD 19 ?_);refine PD 20 ?_;refine DN (ac J4 (CN (qx J3 (aa λ_ J5=>D0 bm ?_))));refine PD 0 ?_;refine PD 1 ?_;refine FD 2 1939 bn aQ ?_;refine PD 4 ?_;refine ta 5 rfl (yI (r:=(de from')) rfl rfl rfl (by omega) rfl) ?_;refine AL 3 ?_;refine LG 2 Y3 (.int .i64 (s.kept)) ?_ (hc:=by exact λa_=>(rT _ rfl));refine EN (ta 6 rfl (Jo (r:=(iS .i64 s.kept (de from'))) rfl rfl rfl rfl) ?_);refine PD 7 ?_;refine FD 8 1939 bn aQ ?_;refine AL 9 ?_;refine SK 2 aQ (λ_=>cY _) ?_ (hc:=by exact λa_=>(Pw _ rfl _));refine EN (DN (ac J5 (aa λ_ J6=>sr λ_ J7=>PS ?_)));refine tp (eh rfl kl rfl hluw) ?_;refine PS ?_;refine nx J7 (aq (rY 2 (sr λ_ J8=>PS ?_)));refine nx J8 (aa λ_ J9=>CY (qx J9 (aa λ_ J10=>aq (sr λ_ J11=>tp (bU (r:=0) hvw rfl kl aQ rfl rfl (by omega) (by omega) rfl) ?_))));refine tp (di (v:=(.int .i64 (((s.id+1)%5)))) rfl Y3 rfl rfl (gm 0 rfl hvw rfl) rfl) ?_;refine PS ?_;refine nx J11 (sr λ_ J12=>P2 ?_);refine FA 1939 bn aQ ?_;refine LG 2 Y3 (.int .i64 ((iS .i64 s.kept (de from')))) ?_ (hc:=by exact λa_=>(rT _ rfl));refine PS ?_;refine tp (l8 (r:=((iS .i64 s.kept (de from')).fdiv (2^min (((s.id+1)%5)).toNat IntKind.i64.bits))) rfl rfl rfl (by omega) rfl) ?_;refine tp (tt (r:=(((iS .i64 s.kept (de from')).fdiv (2^min (((s.id+1)%5)).toNat IntKind.i64.bits))%2)) rfl rfl rfl (mask (k:=1) (by decide) _)) ?_;refine PS ?_;refine ao ?_ ?_<;>intro h59
 refine nx J12 (CY (ai (aJ (af (af (aJ (af (WK [2] (dP rfl ?_)))))))));have ew:hO s.id=[(s.id+1)%5,(s.id+2)%5]:=by rw[hO,if_pos hid]
 have e:lx s from' m.version=true:=by rw[lx,h19,ew,decide_eq_true (show m.version=s.own.version by omega),decide_eq_true h34];rfl
 have e2:xr (iG s from')=false:=by rw[xr,show hO (iG s from').id=[(s.id+1)%5,(s.id+2)%5]from ew];simp only[List.all_cons,List.all_nil,Bh,iG, *,decide_true,decide_false,PC,Ov,PE,vA,gS,mh]
 exact congrArg (λq=>[cJ V r q]) (show(MS.setKept s (iS .i64 s.kept (de from')))=dw V.toDk s from' m by rw[dw,e,e2];rfl);refine nx J12 (CN (aU (ag (ac J10 (ae (tp (cC (r:=1) rfl rfl rfl (by decide)) ?_))))));refine PS ?_;refine au (eA (sr λ_ J13=>PS ?_));refine nx J13 (aa λ_ J14=>CY (qx J14 (aa λ_ J15=>aq (sr λ_ J16=>tp (bU (r:=1) hvw rfl kl aQ rfl rfl (by omega) (by omega) rfl) ?_))));refine tp (di (v:=(.int .i64 (((s.id+2)%5)))) rfl Y3 rfl rfl (gm 0 rfl hvw rfl) rfl) ?_;refine PS ?_;refine nx J16 (sr λ_ J17=>P2 ?_);refine FA 1939 bn aQ ?_;refine LG 2 Y3 (.int .i64 ((iS .i64 s.kept (de from')))) ?_ (hc:=by exact λa_=>(rT _ rfl));refine PS ?_;refine tp (l8 (r:=((iS .i64 s.kept (de from')).fdiv (2^min (((s.id+2)%5)).toNat IntKind.i64.bits))) rfl rfl rfl (by omega) rfl) ?_;refine tp (tt (r:=(((iS .i64 s.kept (de from')).fdiv (2^min (((s.id+2)%5)).toNat IntKind.i64.bits))%2)) rfl rfl rfl (mask (k:=1) (by decide) _)) ?_;refine PS ?_;refine ao ?_ ?_<;>intro h59;refine nx J17 (CY (ai (aJ (af (af (aJ (af (WK [2] (dP rfl ?_)))))))));have ew:hO s.id=[(s.id+1)%5,(s.id+2)%5]:=by rw[hO,if_pos hid]
 have e:lx s from' m.version=true:=by rw[lx,h19,ew,decide_eq_true (show m.version=s.own.version by omega),decide_eq_true h34];rfl
 have e2:xr (iG s from')=false:=by rw[xr,show hO (iG s from').id=[(s.id+1)%5,(s.id+2)%5]from ew];simp only[List.all_cons,List.all_nil,Bh,iG, *,decide_true,decide_false,PC,Ov,PE,vA,gS,mh]
 exact congrArg (λq=>[cJ V r q]) (show(MS.setKept s (iS .i64 s.kept (de from')))=dw V.toDk s from' m by rw[dw,e,e2];rfl);refine nx J17 (CN (aU (ag (ac J15 (ae (tp (cC (r:=2) rfl rfl rfl (by decide)) ?_))))));refine PS ?_;refine au (eA (sr λ_ J18=>PS ?_));refine nx J18 (aa λ_ J19=>CN (aX (aA (aA (br (ac J6 (ae (P2 ?_))))))));refine CZ Nv (yw V r (iG s from') hrs) (SM [2]) λvR=>?_
 refine au (WK [0] (bD rfl ?_));have ew:hO s.id=[(s.id+1)%5,(s.id+2)%5]:=by rw[hO,if_pos hid]
 have e:lx s from' m.version=true:=by rw[lx,h19,ew,decide_eq_true (show m.version=s.own.version by omega),decide_eq_true h34];rfl
 have e2:xr (iG s from')=true:=by rw[xr,show hO (iG s from').id=[(s.id+1)%5,(s.id+2)%5]from ew];simp only[List.all_cons,List.all_nil,Bh,iG, *,decide_true,decide_false,PC,Ov,PE,vA,gS,mh]
 exact congrArg (λq=>[cJ V r q]) (show(kV V.toDk (iG s from'))=dw V.toDk s from' m by rw[dw,e,e2];rfl);refine EN (PD 19 ?_);refine PD 20 ?_;refine DN (ac J4 (CY (ai (af (WK [2] (dP rfl ?_))))));have ew:hO s.id=[(s.id+1)%5,(s.id+2)%5]:=by rw[hO,if_pos hid]
 have e:lx s from' m.version=false:=by rw[lx,ew,decide_eq_false h34];simp
 exact congrArg (λq=>[cJ V r q]) (show s=dw V.toDk s from' m by rw[dw,e];rfl);refine PD 4 ?_;refine PD 5 ?_;refine NT 6 ?_;refine NT 7 ?_;refine NT 8 ?_;refine NT 9 ?_;refine NT 10 ?_;refine NT 11 ?_;refine NT 12 ?_;refine NT 13 ?_;refine PD 14 ?_;refine PD 15 ?_;refine NT 16 ?_;refine NT 17 ?_;refine NT 18 ?_;refine NT 19 ?_;refine PD 20 ?_;refine DN (ac J4 (CY (ai (af (WK [2] (dP rfl ?_))))));have ew:hO s.id=[(s.id+1)%5,(s.id+2)%5]:=by rw[hO,if_pos hid]
 have e:lx s from' m.version=false:=by rw[lx,ew,h19];simp
 exact congrArg (λq=>[cJ V r q]) (show s=dw V.toDk s from' m by rw[dw,e];rfl)
theorem yc{δ:Type}(V:Env δ)(r:Nat)(s:MS δ)(from':Int)(m:MsgT)[OkR V.toDk s][OkMg m](hto:from'≠s.id):
 DT 143 #[(.pointer (some ⟨r,0,none⟩)),(.iface V.T V.ov),(.int .i64 (from')),(.agg (ints m.flat).toArray)] T0 [cJ V r s] (dz (λ_ H=>H=[cJ V r (ia V.toDk s from' m)])):=by
 refine BD 56 Tryz.func143 rfl rfl rfl λw0 F hF=>sr λ_ J1=>XY (ints m.flat) λb7=>?_
 refine nx J1 (aa λ_ J2=>aa λ_ J3=>D1 0 bm ?_);refine FD 0 1 bf aQ ?_;refine LR 1 Y3 (cn m rfl) ?_;refine PD 2 ?_;refine PD 3 ?_;refine jc ?_ ?_<;>intro h11;refine PD 4 ?_;refine NT 5 ?_;refine NT 6 ?_;refine NT 7 ?_;refine NT 8 ?_;refine NT 9 ?_;refine NT 10 ?_;refine PD 11 ?_;refine DN (ac J3 (CY (ai (af (WK [1] (dP rfl ?_))))));exact congrArg (λq=>[cJ V r q]) (show _=ia V.toDk s from' m from(if_pos (.inl (by omega))).symm);refine PD 4 ?_;refine PD 5 ?_;refine PD 6 ?_;refine FD 7 183 bn oc ?_;refine FD 8 1 bf aQ ?_;refine LR 9 Y3 (cn m rfl) ?_;refine AL 10 ?_;refine CE Mb (Leg.Does.hid (λa_=>nd r 183 123 _ (dZ (s.rep a_)) s.mirror m.whose)) (SM [1]) ?_;refine bc ?_ ?_<;>intro h18;refine EN (PD 11 ?_);refine DN (ac J3 (CY (ai (af (WK [0] (dP rfl ?_))))));exact congrArg (λq=>[cJ V r q]) (show _=ia V.toDk s from' m from(if_pos (.inr h18)).symm);refine EN (PD 11 ?_);refine DN (ac J3 (CN (qx J2 (aa λ_ J4=>aa λ_ J5=>D1 1 bm ?_))));refine PD 0 ?_;refine PD 1 ?_;refine FD 2 183 bn oc ?_;refine FD 3 1 bf aQ ?_;refine LR 4 Y3 (cn m rfl) ?_;refine FD 5 2 bf be ?_;refine ta 6 rfl (aM (vs:=ints m.row.flat) rfl ee rfl be rfl (λ_ h=>h.2.1) (aj m.row) (mq m 0 rfl (by decide) (whole (aj m.row)))) ?_;refine AL 7 ?_;refine CE K9 (Leg.Does.hid (λa_=>qR r 183 123 _ (dZ (s.rep a_)) s.mirror m.whose m.row (Jq inferInstance))) ID ?_;refine bc ?_ ?_<;>intro h27;refine EN (DN (ac J5 (CY (aa λ_ J6=>sr λ_ J7=>PS ?_))))
 refine FA 1 bf aQ ?_;refine LU 1 Y3 (cn m rfl) ?_;refine FA 2 bf be ?_;refine LV 1 ee be aj MsgT.sp_row (y:=m.row) ?_;refine tp (lm RecT.zero (RecT.mk 1 m.whose m.row 0 BallotT.zero ChangeT.zero ViewT.zero) [(0,[Value.int .i64 1]),(1,[Value.int .i64 m.whose]),(2,ints m.row.flat)] je fh (g:=RecT.sg)) ?_;refine CE w4 (lv V r s (iw m.whose m.row)) ID ?_;refine PS ?_;refine ao ?_ ?_<;>intro h35;refine nx J7 (CY (ai (af (af (WK [0] (dP rfl ?_))))));have hn: ¬(m.whose≠from'∨fp s.mirror m.whose=true):=λh=>h.elim (λh=>by omega) (λh=>by rw[h18]at h;cases h)
 exact MQ (by rw[ia,if_neg hn,if_pos h27,if_pos h35]<;>rfl);refine nx J7 (CN (qx J6 (D1 1 bm ?_)));refine PD 0 ?_;refine PD 1 ?_;refine FD 2 183 bn oc ?_;refine FD 3 1 bf aQ ?_;refine LR 4 Y3 (cn m rfl) ?_;refine FD 5 2 bf be ?_;refine ta 6 rfl (aM (vs:=ints m.row.flat) rfl ee rfl be rfl (λ_ h=>h.2.1) (aj m.row) (mq m 0 rfl (by decide) (whole (aj m.row)))) ?_;refine AL 7 ?_;refine CE Lk (Leg.Does.hid (λa_=>sY r 183 123 _ (dZ ((dC V.toDk s (iw m.whose m.row)).rep a_)) (dC V.toDk s (iw m.whose m.row)).mirror m.whose m.row (Jq inferInstance))) ID ?_;refine EN (DN (ac J4 (D1 1 bm ?_)));refine PD 0 ?_;refine PD 1 ?_;refine PD 2 ?_;refine PD 3 ?_;refine PD 4 ?_;refine FD 5 183 bn oc ?_;refine FD 6 1 bf aQ ?_;refine LR 7 Y3 (cn m rfl) ?_;refine AL 8 ?_;refine CE Io (Leg.Does.hid (λa_=>lT r 183 123 _ (dZ ((iu (dC V.toDk s (iw m.whose m.row)) m.whose m.row).rep a_)) (iu (dC V.toDk s (iw m.whose m.row)) m.whose m.row).mirror m.whose)) ID ?_;refine EN (ta 9 rfl (PV.field1 (cs:=ints (cQ (iu (dC V.toDk s (iw m.whose m.row)) m.whose m.row).mirror m.whose).flat) (v:=Value.int .i64 ((cQ (iu (dC V.toDk s (iw m.whose m.row)) m.whose m.row).mirror m.whose).version)) rfl ee rfl Y3 rfl rfl (cH _ rfl)) ?_)
 refine ta 10 rfl (lm MsgT.zero (MsgT.mk 1 0 RowT.zero ((cQ (iu (dC V.toDk s (iw m.whose m.row)) m.whose m.row).mirror m.whose).version) 0 BallotT.zero BallotT.zero ChangeT.zero ViewT.zero) [(0,[Value.int .i64 1]),(3,[Value.int .i64 ((cQ (iu (dC V.toDk s (iw m.whose m.row)) m.whose m.row).mirror m.whose).version)])] bf bv (g:=MsgT.sg)) ?_;refine AL 11 ?_;refine CZ jq (jE V r (iu (dC V.toDk s (iw m.whose m.row)) m.whose m.row) from' (oY (cQ (iu (dC V.toDk s (iw m.whose m.row)) m.whose m.row).mirror m.whose).version) hto) ID λvR=>?_
 refine EN (DN (WK [0] (bD rfl ?_)));have hn: ¬(m.whose≠from'∨fp s.mirror m.whose=true):=λh=>h.elim (λh=>by omega) (λh=>by rw[h18]at h;cases h)
 exact MQ (by rw[ia,if_neg hn,if_pos h27,if_neg h35]<;>rfl);refine EN (DN (ac J5 (CN (qx J4 (D1 1 bm ?_)))));refine PD 0 ?_;refine PD 1 ?_;refine PD 2 ?_;refine PD 3 ?_;refine PD 4 ?_;refine FD 5 183 bn oc ?_;refine FD 6 1 bf aQ ?_;refine LR 7 Y3 (cn m rfl) ?_;refine AL 8 ?_;refine CE Io (Leg.Does.hid (λa_=>lT r 183 123 _ (dZ (s.rep a_)) s.mirror m.whose)) ID ?_;refine EN (ta 9 rfl (PV.field1 (cs:=ints (cQ s.mirror m.whose).flat) (v:=Value.int .i64 ((cQ s.mirror m.whose).version)) rfl ee rfl Y3 rfl rfl (cH _ rfl)) ?_);refine ta 10 rfl (lm MsgT.zero (MsgT.mk 1 0 RowT.zero ((cQ s.mirror m.whose).version) 0 BallotT.zero BallotT.zero ChangeT.zero ViewT.zero) [(0,[Value.int .i64 1]),(3,[Value.int .i64 ((cQ s.mirror m.whose).version)])] bf bv (g:=MsgT.sg)) ?_;refine AL 11 ?_;refine CZ jq (jE V r s from' (oY (cQ s.mirror m.whose).version) hto) ID λvR=>?_
 refine EN (DN (WK [0] (bD rfl ?_)));have hn: ¬(m.whose≠from'∨fp s.mirror m.whose=true):=λh=>h.elim (λh=>by omega) (λh=>by rw[h18]at h;cases h)
 exact MQ (by rw[ia,if_neg hn,if_neg (by rw[h27];decide)]<;>rfl)
theorem oa{δ:Type}(V:Env δ)(r:Nat)(s:MS δ)(from':Int)(m:MsgT)[OkR V.toDk s][OkMg m]:
 DT 147 #[(.pointer (some ⟨r,0,none⟩)),(.iface V.T V.ov),(.int .i64 (from')),(.agg (ints m.flat).toArray)] T0 [cJ V r s] (dz (λ_ H=>H=[cJ V r (eQ V.toDk s from' m)])):=by
 refine BD 59 Tryz.func147 rfl rfl rfl λw0 F hF=>sr λ_ J1=>XY (ints m.flat) λb7=>?_
 refine nx J1 (aa λ_ J2=>fg (α:=Unit) (λ_u=>True) (λ_u=>[(0,(.pointer (some ⟨r,0,none⟩))),(1,(.iface V.T V.ov))]) (λ_u=>[cJ V r (if from'∈hO m.whose then sE s from' m.whose m.row else s)]) (λ_u hinv=>?_) (λtl2=>?_));have _:=hinv;refine ac J2 (ae (P2 ?_));refine CZ FM (o9 V r (if from'∈hO m.whose then sE s from' m.whose m.row else s)) ID λvR=>?_
 exact au (WK [0] (bD rfl rfl));refine sr λ_ J3=>FA 1 bf aQ ?_
 refine LU 0 Y3 (cn m rfl) ?_;refine CR Iq (pH m.whose) ID λvR HR hR=>?_
 obtain⟨_,rfl,rfl⟩:=hR;revert vR;intro uw;refine PS ?_;refine CF K7 (qW uw (hO m.whose) from' (HM m.whose)) ID (FV (l:=(hO m.whose)) 0 rfl rfl) ?_;refine ao ?_ ?_<;>intro h12
 have hm:cN m.whose=true:=by
  unfold hO at h12;split at h12
  · assumption
  · cases h12
 have hm2:0≤m.whose∧m.whose<5:=of_decide_eq_true hm;have hta:pN s m.whose=s.told[m.whose.toNat]'(by omega):=by rw[pN,dif_pos hm]
 have hla:kT s m.whose=s.last[m.whose.toNat]'(by omega):=by rw[kT,dif_pos hm]
 have hf:0≤from'∧from'<5:=by
  rw[hO,if_pos hm]at h12;simp only[co,List.not_mem_nil,or_false]at h12;omega
 refine nx J3 (CY (aa λ_ J4=>fg (α:=Unit) (λ_u=>True) (λ_u=>[(0,(.pointer (some ⟨r,0,none⟩))),(1,(.iface V.T V.ov)),(2,(.int .i64 (from'))),(7,(.pointer (some ⟨b7,0,none⟩)))]) (λ_u=>[cJ V r (lX s m.whose m.row),ak b7 (ints m.flat) 178]) (λ_u hinv=>?_) (λtl4=>?_)));have _:=hinv;refine ac J4 (D1 1 bm ?_);refine PD 0 ?_;refine FD 1 1 bf aQ ?_;refine LR 2 Y3 (cn m rfl) ?_;refine PD 3 ?_;refine FD 4 1943 bn e8 ?_;refine IY 5 (1943+(m.whose).toNat) jU aQ ?_;refine PD 7 ?_;refine ta 8 rfl (yI (r:=(de from')) rfl rfl rfl (by omega) rfl) ?_;refine PD 10 ?_;refine FD 11 1943 bn e8 ?_;refine AL 6 ?_;refine LG 0 Y3 (.int .i64 ((((lX s m.whose m.row).told)[(m.whose).toNat]'(by omega)))) ?_ (hc:=by exact λa_=>(PR ((lX s m.whose m.row).rep a_) ((m.whose).toNat) (by omega) (by omega) (kn (((lX s m.whose m.row).rep a_).told) (by omega))));refine EN (ta 9 rfl (Jo (r:=(iS .i64 (s.told[m.whose.toNat]'(by omega)) (de from'))) rfl rfl rfl rfl) ?_);refine IY 12 (1943+(m.whose).toNat) jU aQ ?_;refine AL 13 ?_;refine SK 0 aQ (λ_=>cY _) ?_ (hc:=by exact λa_=>(RepT.st_told ((lX s m.whose m.row).rep a_) ((m.whose).toNat) (by omega) (by omega) (yV (((lX s m.whose m.row).rep a_).told) (by omega) _)));refine EN (DN ?_)
 exact aF
  SB
  (λ_ q=>by
   rw[if_pos h12,show sE s from' m.whose m.row= {lX s m.whose m.row with told:=s.told.set m.whose.toNat (iS .i64 (s.told[m.whose.toNat]'(by omega)) (de from')) (by omega)}by rw[sE,yg,dif_pos hm,hta]]
   exact am [0] rfl q)
  (tl2 (():Unit) trivial)
 refine aa λ_ J5=>DC bm (BL 1) (cZ 2 rfl rfl) ?_
 refine PD 0 ?_;refine FD 1 1 bf aQ ?_;refine LR 2 Y3 (cn m rfl) ?_;refine PD 3 ?_;refine FD 4 1943 bn e8 ?_;refine IY 5 (1943+(m.whose).toNat) jU aQ ?_;refine ta 6 rfl (dm (v:=(.int .i64 ((s.told[(m.whose).toNat]'(by omega))))) rfl Y3 rfl rfl (λ_ h=>h.2.2.1) (λa_=>(PR (s.rep a_) ((m.whose).toNat) (by omega) (by omega) (kn ((s.rep a_).told) (by omega))))) ?_;refine PD 7 ?_;refine jc ?_ ?_<;>intro h20;refine PD 8 ?_;refine NT 9 ?_;refine NT 10 ?_;refine NT 11 ?_;refine NT 12 ?_;refine NT 13 ?_;refine NT 14 ?_;refine NT 15 ?_;refine NT 16 ?_;refine NT 17 ?_;refine NT 18 ?_;refine NT 19 ?_;refine NT 20 ?_;refine PD 21 ?_;refine DN (ac J5 (CY (D1 1 bm ?_)));refine PD 0 ?_;refine FD 1 1 bf aQ ?_;refine LR 2 Y3 (cn m rfl) ?_;refine FD 3 2 bf be ?_;refine ta 4 rfl (aM (vs:=ints m.row.flat) rfl ee rfl be rfl (λ_ h=>h.2.1) (aj m.row) (mq m 0 rfl (by decide) (whole (aj m.row)))) ?_;refine PD 5 ?_;refine FD 6 1948 bn tK ?_;refine IY 7 (1948+((m.whose).toNat)*174) HA be ?_;refine AL 8 ?_;refine g9 (vs:=ints m.row.flat) (i:=2) (ab rfl) rfl rfl rfl rfl rfl (by rw[(aj m.row)];exact be) (bC _) rfl rfl (λ_=>LC (cY _) (aj _)) (λa_=>(RepT.wr_last_ (s.rep a_) (((m.whose).toNat)*174) (by omega) (by have h1:=(aj m.row);omega) (uy dE ((s.rep a_).last) (i:=(m.whose).toNat) 0 (by omega) (by omega) (by have h1:=(aj m.row);omega) (ct ((aj (((s.rep a_).last)[(m.whose).toNat]'(by omega))).trans (aj m.row).symm))))) (EN (DN ?_))
 exact aF
  SB
  (λ_ q=>by
   rw[show lX s m.whose m.row= {s with last:=s.last.set m.whose.toNat m.row (by omega)}by rw[lX,if_pos (.inl (hta.trans h20)),yg,dif_pos hm]]
   exact am [2,1] rfl q)
  (tl4 (():Unit) trivial)
 refine PD 8 ?_;refine FD 9 2 bf be ?_;refine FD 10 2 ee aQ ?_;refine LX 11 Y3 (.int .i64 (m.row.version)) ?_ (hc:=by exact MsgT.pt_row m 0 rfl (by decide) (cH m.row rfl));refine PD 12 ?_;refine FD 13 1 bf aQ ?_;refine LR 14 Y3 (cn m rfl) ?_;refine PD 15 ?_;refine FD 16 1948 bn tK ?_;refine IY 17 (1948+((m.whose).toNat)*174) HA be ?_;refine tb 18 rfl (aY (r:=1948+((m.whose).toNat)*174) rfl ee rfl aQ rfl rfl) ?_;refine tb 19 rfl (dm (v:=(.int .i64 ((s.last[(m.whose).toNat]'(by omega)).version))) rfl Y3 rfl rfl (λ_ h=>h.2.2.1) (λa_=>(RepT.pt_last (s.rep a_) (((m.whose).toNat)*174) (by omega) (by omega) (n5 dE ((s.rep a_).last) (i:=(m.whose).toNat) 0 (by omega) (by omega) (by decide) (cH _ rfl))))) ?_;refine PD 20 ?_;refine jc ?_ ?_<;>intro h33;refine PD 21 ?_;refine DN (ac J5 (CY (D1 1 bm ?_)));refine PD 0 ?_;refine FD 1 1 bf aQ ?_;refine LR 2 Y3 (cn m rfl) ?_;refine FD 3 2 bf be ?_;refine ta 4 rfl (aM (vs:=ints m.row.flat) rfl ee rfl be rfl (λ_ h=>h.2.1) (aj m.row) (mq m 0 rfl (by decide) (whole (aj m.row)))) ?_;refine PD 5 ?_;refine FD 6 1948 bn tK ?_;refine IY 7 (1948+((m.whose).toNat)*174) HA be ?_;refine AL 8 ?_
 refine g9 (vs:=ints m.row.flat) (i:=2) (ab rfl) rfl rfl rfl rfl rfl (by rw[(aj m.row)];exact be) (bC _) rfl rfl (λ_=>LC (cY _) (aj _)) (λa_=>(RepT.wr_last_ (s.rep a_) (((m.whose).toNat)*174) (by omega) (by have h1:=(aj m.row);omega) (uy dE ((s.rep a_).last) (i:=(m.whose).toNat) 0 (by omega) (by omega) (by have h1:=(aj m.row);omega) (ct ((aj (((s.rep a_).last)[(m.whose).toNat]'(by omega))).trans (aj m.row).symm))))) (EN (DN ?_))
 exact aF
  SB
  (λ_ q=>by
   rw[show lX s m.whose m.row= {s with last:=s.last.set m.whose.toNat m.row (by omega)}by rw[lX,if_pos (.inr (by rw[hla];omega)),yg,dif_pos hm]]
   exact am [2,1] rfl q)
  (tl4 (():Unit) trivial)
 refine PD 21 ?_;refine DN (ac J5 (CN (aU ?_)))
 exact aF
  SB
  (λ_ q=>by
   rw[show lX s m.whose m.row= {s with last:=s.last}by rw[lX,if_neg (by rw[hta,hla];omega)]]
   exact am [2,1] rfl q)
  (tl4 (():Unit) trivial)
 refine nx J3 (CN (aU ?_))
 exact aF
  SB
  (λ_ q=>by
   rw[if_neg h12]
   exact am [2] rfl q)
  (tl2 (():Unit) trivial)
abbrev TK{δ:Type}(V:Env δ)(r f:Nat)(s:MS δ)(from':Int)(m:MsgT)(s':MS δ):Prop:=Leg.Does Tryz.prog f #[.pointer (some ⟨r,0,none⟩), .iface V.T V.ov, .int .i64 from', .agg (ints m.flat).toArray] (λ_=>True) [cJ V r s] (dz (λ_ H=>H=[cJ V r s']))
theorem oL{δ:Type}(V:Env δ)(r:Nat)(s s':MS δ)(from':Int)(m:MsgT)[OkMg m](h0:m.kind=0→TK V r 143 s from' m s')(h1:m.kind=1→TK V r 144 s from' m s')(h2:m.kind=2→Di s m.whose m.row=s')(h7:m.kind=7→DT 145 #[.pointer (some ⟨r,0,none⟩), .iface V.T V.ov, .agg (ints m.view.flat).toArray] T0 [cJ V r s] (dz (λv H=>(∃b,v= .bool b)∧H=[cJ V r s'])))(h8:m.kind=8→TK V r 146 s from' m s')(h9:m.kind=9→TK V r 147 s from' m s')(hv:m.kind=3∨m.kind=4∨m.kind=5∨m.kind=6→TK V r 148 s from' m s')(hn:m.kind≠0∧m.kind≠1∧m.kind≠2∧m.kind≠7∧m.kind≠8∧m.kind≠9∧m.kind≠3∧m.kind≠4∧m.kind≠5∧m.kind≠6→s=s'):
 DT 105 #[(.pointer (some ⟨r,0,none⟩)),(.iface V.T V.ov),(.int .i64 (from')),(.agg (ints m.flat).toArray)] T0 [cJ V r s] (dz (λ_ H=>H=[cJ V r s'])):=by
 refine BD 65 Tryz.func105 rfl rfl rfl λw0 F hF=>sr λ_ J1=>XY (ints m.flat) λb7=>?_
 refine nx J1 (sr λ_ J2=>FA 0 bf aQ ?_);refine LU 0 Y3 (eX m rfl) ?_;refine nx J2 (aq (sr λ_ J3=>PS ?_));refine ao ?_ ?_<;>intro h11;refine PS ?_;refine nx J3 (CY (ae (P3 ?_)));refine LW 0 bf cb aI ?_;refine CZ NF ((h0 h11)) (SM [1]) λvR=>?_
 exact au (ag (WK [0] (bD rfl rfl)));refine PS ?_;refine nx J3 (CN (sr λ_ J4=>PS ?_));refine ao ?_ ?_<;>intro h18;refine PS ?_;refine nx J4 (CY (ae (P3 ?_)));refine LW 0 bf cb aI ?_;refine CZ NE ((h1 h18)) (SM [1]) λvR=>?_
 exact au (ag (WK [0] (bD rfl rfl)));refine PS ?_;refine nx J4 (CN (sr λ_ J5=>PS ?_));refine ao ?_ ?_<;>intro h25;refine PS ?_;refine nx J5 (CY (D1 0 bm ?_));refine PD 0 ?_;refine PD 1 ?_;refine FD 2 1068 bn wn ?_;refine FD 3 1 bf aQ ?_;refine LR 4 Y3 (cn m rfl) ?_;refine FD 5 2 bf be ?_;refine ta 6 rfl (aM (vs:=ints m.row.flat) rfl ee rfl be rfl (λ_ h=>h.2.1) (aj m.row) (mq m 0 rfl (by decide) (whole (aj m.row)))) ?_;refine AL 7 ?_;refine CE Kf (Leg.Does.hid (λa_=>kW r 1068 123 _ (gQ (s.rep a_)) s.book m.whose m.row (Jq inferInstance))) (SM [1]) ?_;refine EN (DN (ag (WK [0] (bD rfl ?_))));exact congrArg (λq=>[cJ V r q]) (h2 h25);refine PS ?_;refine nx J5 (CN (sr λ_ J6=>PS ?_));refine ao ?_ ?_<;>intro h35;refine PS ?_;refine nx J6 (CY (ae (P2 ?_)));refine FA 185 bf bk ?_;refine LV 0 eS bk an MsgT.sp_view (y:=m.view) ?_;refine CR Iu ((h7 h35)) (SM [1]) λvR HR hR=>?_
 obtain⟨_,rfl⟩:=hR;exact au (ag (WK [0] (bD rfl rfl)));refine PS ?_;refine nx J6 (CN (sr λ_ J7=>PS ?_));refine ao ?_ ?_<;>intro h42;refine PS ?_;refine nx J7 (CY (ae (P3 ?_)));refine LW 0 bf cb aI ?_;refine CZ ND ((h8 h42)) (SM [1]) λvR=>?_
 exact au (ag (WK [0] (bD rfl rfl)));refine PS ?_;refine nx J7 (CN (sr λ_ J8=>PS ?_));refine ao ?_ ?_<;>intro h49;refine PS ?_;refine nx J8 (CY (ae (P3 ?_)));refine LW 0 bf cb aI ?_;refine CZ NC ((h9 h49)) (SM [1]) λvR=>?_
 exact au (ag (WK [0] (bD rfl rfl)));refine PS ?_;refine nx J8 (CN (aa λ_ J9=>sr λ_ J10=>P2 ?_));refine ao ?_ ?_<;>intro h55;refine nx J10 (CY (qx J9 (CY (ae (P3 ?_)))));refine LW 0 bf cb aI ?_;refine CZ FI ((hv (by omega))) (SM [1]) λvR=>?_
 exact au (ag (WK [0] (bD rfl rfl)));refine nx J10 (CN (sr λ_ J11=>P2 ?_));refine ao ?_ ?_<;>intro h55;refine nx J11 (CY (qx J9 (CY (ae (P3 ?_)))));refine LW 0 bf cb aI ?_;refine CZ FI ((hv (by omega))) (SM [1]) λvR=>?_
 exact au (ag (WK [0] (bD rfl rfl)));refine nx J11 (CN (sr λ_ J12=>P2 ?_));refine ao ?_ ?_<;>intro h55;refine nx J12 (CY (qx J9 (CY (ae (P3 ?_)))));refine LW 0 bf cb aI ?_;refine CZ FI ((hv (by omega))) (SM [1]) λvR=>?_
 exact au (ag (WK [0] (bD rfl rfl)));refine nx J12 (CN (ae (PS ?_)));refine ao ?_ ?_<;>intro h59;refine PS ?_;refine nx J9 (CY (ae (P3 ?_)));refine LW 0 bf cb aI ?_;refine CZ FI ((hv (by omega))) (SM [1]) λvR=>?_
 exact au (ag (WK [0] (bD rfl rfl)));refine PS ?_;refine nx J9 (CN (aU (ag (WK [1] (bD rfl ?_)))));exact congrArg (λq=>[cJ V r q]) (hn ⟨h11,h18,h25,h35,h42,h49,by omega,by omega,by omega,by omega⟩)
theorem DX{δ:Type}{V:Env δ}{r:Nat}{s s':MS δ}{from':Int}{m:MsgT}[OkMg m](hk:m.kind=9)(h:TK V r 147 s from' m s'):TK V r 105 s from' m s':=oL V r s s' from' m (λe=>by omega) (λe=>by omega) (λe=>by omega) (λe=>by omega) (λe=>by omega) (λ_=>h) (λe=>by omega) (λe=>by omega)
theorem DY{δ:Type}{V:Env δ}{r:Nat}{s s':MS δ}{from':Int}{m:MsgT}[OkMg m](hk:m.kind=8)(h:TK V r 146 s from' m s'):TK V r 105 s from' m s':=oL V r s s' from' m (λe=>by omega) (λe=>by omega) (λe=>by omega) (λe=>by omega) (λ_=>h) (λe=>by omega) (λe=>by omega) (λe=>by omega)
theorem oK{δ:Type}{V:Env δ}{r:Nat}{s s':MS δ}{from':Int}{m:MsgT}[OkMg m](hk:m.kind=3∨m.kind=4∨m.kind=5∨m.kind=6)(h:TK V r 148 s from' m s'):TK V r 105 s from' m s':=oL V r s s' from' m (λe=>by omega) (λe=>by omega) (λe=>by omega) (λe=>by omega) (λe=>by omega) (λe=>by omega) (λ_=>h) (λe=>by omega)
theorem wC{δ:Type}(V:Env δ)(r:Nat)(s:MS δ)(w:Int)(y:RowT)[OkR V.toDk s][OkRow y]:TK V r 105 s s.id (fR w y) (eQ V.toDk s s.id (fR w y)):=DX rfl (oa V r s s.id (fR w y))
theorem pQ{δ:Type}(V:Env δ)(r:Nat)(s:MS δ)(s':MS δ)(from':Int)(m:MsgT)[OkR V.toDk s'][OkMg m](hl:DT 145 #[.pointer (some ⟨r,0,none⟩), .iface V.T V.ov, .agg (ints m.view.flat).toArray] T0 [cJ V r s] (dz (λv H=>(∃b,v= .bool b)∧H=[cJ V r s']))):
 DT 146 #[(.pointer (some ⟨r,0,none⟩)),(.iface V.T V.ov),(.int .i64 (from')),(.agg (ints m.flat).toArray)] T0 [cJ V r s] (dz (λ_ H=>H=[cJ V r (e9 V.toDk s' from' m.whose)])):=by
 refine BD 64 Tryz.func146 rfl rfl rfl λw0 F hF=>sr λ_ J1=>XY (ints m.flat) λb7=>?_
 refine nx J1 (sr λ_ J2=>P2 ?_);refine FA 185 bf bk ?_;refine LV 0 eS bk an MsgT.sp_view (y:=m.view) ?_;refine CR Iu (hl) (SM [1]) λvR HR hR=>?_
 obtain⟨_,rfl⟩:=hR;refine nx J2 (aa λ_ J3=>aa λ_ J4=>DC bm (cZ 0 rfl rfl) (BL 1) ?_);refine PD 0 ?_;refine PD 1 ?_;refine FD 2 2 bn bk ?_;refine ta 3 rfl (gh (vs:=ints s'.view.flat) rfl eS rfl bk rfl (λ_ h=>h.2.1) (an s'.view) (λa_=>(fW (s'.rep a_) 0 rfl (by decide) (whole (an ((s'.rep a_).view)))))) ?_;refine FD 4 1 bf aQ ?_;refine LR 5 Y3 (cn m rfl) ?_;refine AL 6 ?_;refine CE Kg (qG s'.view m.whose OkVw.rng) ID ?_;refine EN (PD 7 ?_);refine PD 8 ?_;refine PD 9 ?_;refine oA ?_ ?_<;>intro h24;refine PD 10 ?_;refine PD 11 ?_;refine DN (ac J4 (sr λ_ J5=>PS ?_));refine PS ?_;refine P4 ?_;refine ao ?_ ?_<;>intro h30;refine PS ?_;refine nx J5 (CY (ai (af (WK [0] (dP rfl ?_)))));exact MQ (by rw[e9,if_pos (λh=>h30 (by rw[h];rfl))]);refine PS ?_;refine nx J5 (CN (qx J3 (aa λ_ J6=>aa λ_ J7=>D1 1 bm ?_)));refine PD 0 ?_;refine PD 1 ?_;refine FD 2 183 bn oc ?_;refine FD 3 1 bf aQ ?_;refine LR 4 Y3 (cn m rfl) ?_;refine AL 5 ?_;refine CE Mb (Leg.Does.hid (λa_=>nd r 183 123 _ (dZ (s'.rep a_)) s'.mirror m.whose)) ID ?_;refine bc ?_ ?_<;>intro h37;refine EN (PD 6 ?_);refine DN (ac J7 (CN (qx J6 (D1 1 bm ?_))));refine PD 0 ?_;refine PD 1 ?_;refine PD 2 ?_;refine FD 3 1 bf aQ ?_;refine LR 4 Y3 (cn m rfl) ?_;refine PD 5 ?_;refine PD 6 ?_;refine FD 7 183 bn oc ?_;refine FD 8 1 bf aQ ?_;refine LR 9 Y3 (cn m rfl) ?_;refine AL 10 ?_;refine CE Io (Leg.Does.hid (λa_=>lT r 183 123 _ (dZ (s'.rep a_)) s'.mirror m.whose)) ID ?_
 refine EN (ta 11 rfl (lm MsgT.zero (MsgT.mk 9 m.whose (cQ s'.mirror m.whose) 0 0 BallotT.zero BallotT.zero ChangeT.zero ViewT.zero) [(0,[Value.int .i64 9]),(1,[Value.int .i64 m.whose]),(2,ints (cQ s'.mirror m.whose).flat)] bf bv (g:=MsgT.sg)) ?_);refine AL 12 ?_;refine CZ jq (gp V r s' from' (fR m.whose (cQ s'.mirror m.whose)) (λs=>eQ V.toDk s s.id (fR m.whose (cQ s.mirror m.whose))) (λ_=>wC V r s' m.whose _)) ID λvR=>?_
 refine EN (DN (WK [0] (bD rfl ?_)));exact MQ (by rw[e9,if_neg (λh=>h (ui h24 (by omega))),if_pos h37]);refine EN (PD 6 ?_);refine DN (ac J7 (CY (aa λ_ J8=>sr λ_ J9=>PS ?_)));refine FA 1 bf aQ ?_;refine LU 1 Y3 (cn m rfl) ?_;refine tp (lm RecT.zero (RecT.mk 2 m.whose RowT.zero 0 BallotT.zero ChangeT.zero ViewT.zero) [(0,[Value.int .i64 2]),(1,[Value.int .i64 m.whose])] je fh (g:=RecT.sg)) ?_;refine CE w4 (lv V r s' (gM m.whose)) ID ?_;refine PS ?_;refine ao ?_ ?_<;>intro h44;refine nx J9 (CY (ai (af (af (WK [0] (dP rfl ?_))))));exact MQ (by rw[e9,if_neg (λh=>h (ui h24 (by omega))),if_neg (by rw[h37];decide),if_pos h44]);refine nx J9 (CN (qx J8 (D1 1 bm ?_)));refine PD 0 ?_;refine PD 1 ?_;refine FD 2 183 bn oc ?_;refine FD 3 1 bf aQ ?_;refine LR 4 Y3 (cn m rfl) ?_;refine AL 5 ?_;refine CE Lj (Leg.Does.hid (λa_=>sX r 183 123 _ (dZ ((dC V.toDk s' (gM m.whose)).rep a_)) (dC V.toDk s' (gM m.whose)).mirror m.whose)) ID ?_;refine EN (DN (ac J6 (D1 1 bm ?_)));refine PD 0 ?_;refine PD 1 ?_;refine PD 2 ?_;refine FD 3 1 bf aQ ?_;refine LR 4 Y3 (cn m rfl) ?_;refine PD 5 ?_;refine PD 6 ?_;refine FD 7 183 bn oc ?_;refine FD 8 1 bf aQ ?_;refine LR 9 Y3 (cn m rfl) ?_;refine AL 10 ?_;refine CE Io (Leg.Does.hid (λa_=>lT r 183 123 _ (dZ ((jT (dC V.toDk s' (gM m.whose)) m.whose).rep a_)) (jT (dC V.toDk s' (gM m.whose)) m.whose).mirror m.whose)) ID ?_
 refine EN (ta 11 rfl (lm MsgT.zero (MsgT.mk 9 m.whose (cQ (jT (dC V.toDk s' (gM m.whose)) m.whose).mirror m.whose) 0 0 BallotT.zero BallotT.zero ChangeT.zero ViewT.zero) [(0,[Value.int .i64 9]),(1,[Value.int .i64 m.whose]),(2,ints (cQ (jT (dC V.toDk s' (gM m.whose)) m.whose).mirror m.whose).flat)] bf bv (g:=MsgT.sg)) ?_);refine AL 12 ?_;refine CZ jq (gp V r (jT (dC V.toDk s' (gM m.whose)) m.whose) from' (fR m.whose (cQ (jT (dC V.toDk s' (gM m.whose)) m.whose).mirror m.whose)) (λs=>eQ V.toDk s s.id (fR m.whose (cQ s.mirror m.whose))) (λ_=>wC V r (jT (dC V.toDk s' (gM m.whose)) m.whose) m.whose _)) ID λvR=>?_
 refine EN (DN (WK [0] (bD rfl ?_)));exact MQ (by rw[e9,if_neg (λh=>h (ui h24 (by omega))),if_neg (by rw[h37];decide),if_neg h44]);refine PD 10 ?_;refine PD 11 ?_;refine DN (ac J4 (sr λ_ J10=>PS ?_));refine PS ?_;refine PS ?_
 iterate 3 refine UT ?_
 refine PS ?_;refine nx J10 (CY (ai (af (WK [0] (dP rfl ?_)))));exact MQ (by rw[e9,if_pos (λh=>by rw[h]at h24;cases h24)])
section
variable {δ:Type} {V:Env δ} {r:Nat} {s:MS δ} {H:List HP} {h:Hl}
theorem FN(q:bG (cJ V r s::H) h): ∃vo,bG (vM V r s vo::H) h:=by
 obtain⟨a,q1⟩:=fB q;exact⟨a.vo,bp (p:=λa':Nat×Value=>[ak r (RepT.cells (s.rep ⟨a'.1,a.vo,a'.2⟩)) 123,V.lg a'.1 s.e,own a'.2 s.replies.length (ints (s.replies.flatMap ReplyT.flat)) 37 3,V.E s.e s.o]) (a.lg,a.rs) (H4 (aC [3,0,0,0,0] rfl q1))⟩
theorem Cq(q:bG (vM V r s (.pointer none)::H) h):bG (cJ V r {s with vote:=none}::H) h:=by
 obtain⟨a,q1⟩:=fB q;have q2:bG (Fo (.pointer none) none::([ak r (RepT.cells (s.rep ⟨a.1, .pointer none,a.2⟩)) 123,V.lg a.1 s.e,own a.2 s.replies.length (ints (s.replies.flatMap ReplyT.flat)) 37 3,V.E s.e s.o]++H)) h:=⟨em,h,Dv h,(qV h).symm,rfl,q1⟩;exact bp (p:=λa:Adr=>[ak r (RepT.cells ({s with vote:=none}.rep a)) 123,V.lg a.lg {s with vote:=none}.e,own a.rs {s with vote:=none}.replies.length (ints ({s with vote:=none}.replies.flatMap ReplyT.flat)) 37 3,Fo a.vo {s with vote:=none}.vote,V.E {s with vote:=none}.e {s with vote:=none}.o]) ⟨a.1, .pointer none,a.2⟩ (aC [1,1,1,0,0] rfl q2)
theorem sW(hv:s.vote=none)(q:bG (cJ V r s::H) h):bG (vM V r s (.pointer none)::H) h:=by
 obtain⟨a,q1⟩:=fB q;have q2:=aC [3,0,0,0,0] rfl q1;obtain⟨h1,h2,d,rfl,e,q3⟩:=q2;rw[hv]at e;have e':a.vo= .pointer none:=e;obtain⟨lg,vo,rs⟩:=a;obtain rfl:=e';rw[nH d];exact lI _ (bp (p:=λa':Nat×Value=>[ak r (RepT.cells (s.rep ⟨a'.1, .pointer none,a'.2⟩)) 123,V.lg a'.1 s.e,own a'.2 s.replies.length (ints (s.replies.flatMap ReplyT.flat)) 37 3,V.E s.e s.o]) (lg,rs) q3) d.symm
theorem nc{vt:VoteT}(hv:s.vote=some vt)(q:bG (cJ V r s::H) h): ∃vb,bG (vM V r s (.pointer (some ⟨vb,0,none⟩))::ak vb (VoteT.cells vt) 227::H) h:=by
 obtain⟨a,q1⟩:=fB q;have q2:=aC [3,0,0,0,0] rfl q1;obtain⟨h1,h2,d,rfl,e,q3⟩:=q2;rw[hv]at e;obtain⟨vb,e',e⟩:=e;obtain⟨lg,vo,rs⟩:=a;have e2:vo= .pointer (some ⟨vb,0,none⟩):=e';obtain rfl:=e2;refine⟨vb,eu (List.Perm.swap _ _ _) ?_⟩;exact⟨h1,h2,d,rfl,e,bp (p:=λa':Nat×Value=>[ak r (RepT.cells (s.rep ⟨a'.1, .pointer (some ⟨vb,0,none⟩),a'.2⟩)) 123,V.lg a'.1 s.e,own a'.2 s.replies.length (ints (s.replies.flatMap ReplyT.flat)) 37 3,V.E s.e s.o]) (lg,rs) q3⟩
theorem ol{vt:VoteT}{vb:Nat}(q:bG (vM V r s (.pointer (some ⟨vb,0,none⟩))::ak vb (VoteT.cells vt) 227::H) h):bG (cJ V r {s with vote:=some vt}::H) h:=by
 obtain⟨a,q1⟩:=fB q;have q2:bG ([ak r (RepT.cells (s.rep ⟨a.1, .pointer (some ⟨vb,0,none⟩),a.2⟩)) 123,V.lg a.1 s.e,own a.2 s.replies.length (ints (s.replies.flatMap ReplyT.flat)) 37 3,V.E s.e s.o]++(Fo (.pointer (some ⟨vb,0,none⟩)) (some vt)::H)) h:=Gk (λ_ e=>⟨vb,rfl,e⟩) q1;exact bp (p:=λa:Adr=>[ak r (RepT.cells ({s with vote:=some vt}.rep a)) 123,V.lg a.lg {s with vote:=some vt}.e,own a.rs {s with vote:=some vt}.replies.length (ints ({s with vote:=some vt}.replies.flatMap ReplyT.flat)) 37 3,Fo a.vo {s with vote:=some vt}.vote,V.E {s with vote:=some vt}.e {s with vote:=some vt}.o]) ⟨a.1, .pointer (some ⟨vb,0,none⟩),a.2⟩ (aC [0,0,0,1,0] rfl q2)
theorem om{vt:VoteT}{vb:Nat}(hv:s.vote=some vt)(q:bG (vM V r s (.pointer (some ⟨vb,0,none⟩))::ak vb (VoteT.cells vt) 227::H) h):bG (cJ V r s::H) h:=by
 have q2:=ol q
 rwa [show({s with vote:=some vt}:MS δ)=s by cases s;simp_all]at q2
end
theorem CJ{δ:Type}(V:Env δ)(r:Nat)(s:MS δ)(v:ViewT):
 DT 93 #[(.pointer (some ⟨r,0,none⟩)),(.agg (ints v.flat).toArray)] T0 [cJ V r s] (dz (λ_ H=>H=[cJ V r (mj s v)])):=by
 refine BD 20 Tryz.func93 rfl rfl rfl λw0 F hF=>sr λ_ J1=>XY (ints v.flat) λb3=>?_
 refine nx J1 (sr λ_ J2=>PS ?_);refine LW 0 eS bk an ?_;refine PS ?_;refine FA 2 bn bk ?_;refine g9 (vs:=ints v.flat) (i:=1) (ab rfl) rfl rfl rfl rfl rfl (by rw[(an v)];exact bk) (bC _) rfl rfl (λ_=>LC (cY _) (an _)) (λa_=>(Pu (s.rep a_) 0 rfl (by have h1:=(an v);omega) (ct ((an ((s.rep a_).view)).trans (an v).symm)))) (nx J2 (sr λ_ J3=>PS ?_));refine FA 0 eS aQ ?_;refine LU 0 Y3 (bi v rfl) ?_;refine tp (lm AccT.zero (AccT.mk v.epoch BallotT.zero BallotT.zero ChangeT.zero) [(0,[Value.int .i64 v.epoch])] jb oG (g:=AccT.sg)) ?_;refine PS ?_;refine FA 1058 bn dF ?_;refine g9 (vs:=ints (AccT.mk v.epoch BallotT.zero BallotT.zero ChangeT.zero).flat) (i:=1) (ab rfl) rfl rfl rfl rfl rfl (by rw[(bb (AccT.mk v.epoch BallotT.zero BallotT.zero ChangeT.zero))];exact dF) (bC _) rfl rfl (λ_=>LC (cY _) (bb _)) (λa_=>(ky ((MS.setView s v).rep a_) 0 rfl (by have h1:=(bb (AccT.mk v.epoch BallotT.zero BallotT.zero ChangeT.zero));omega) (ct ((bb (((MS.setView s v).rep a_).acc)).trans (bb (AccT.mk v.epoch BallotT.zero BallotT.zero ChangeT.zero)).symm)))) (nx J3 (sr λ_ J4=>cA (λ_ q=>aC [1] rfl q) (Lz (H':=λvo:Value=>vM V r (MS.setAcc (MS.setView s v) (AccT.mk v.epoch BallotT.zero BallotT.zero ChangeT.zero)) vo::[ak b3 (ints v.flat) 44]) (λ_ q=>FN q) (λvo=>P2 ?_))));refine FA 1067 bn jo ?_;refine SK 0 jo (λ_=>cY _) ?_ (hc:=by exact λa_=>(Pv _ rfl _))
 refine nx J4 (ae (cA (H':=cJ V r {{s with view:=v}with acc:= {AccT.zero with epoch:=v.epoch},vote:=none}::[ak b3 (ints v.flat) 44]) (λ_ q=>Cq (aC [0] rfl q)) (P2 ?_)));refine FA 1066 bn aQ ?_;refine SK 0 aQ (λ_=>cY _) ?_ (hc:=by exact λa_=>(l7 _ rfl _));exact au (WK [0] (bD rfl rfl))
theorem uS{δ:Type}(V:Env δ)(r:Nat)(s:MS δ)(v:ViewT)[OkR V.toDk s][OkVw v](hcl: ¬v.epoch≤s.view.epoch→DT 108 #[.pointer (some ⟨r,0,none⟩), .iface V.T V.ov] T0 [cJ V r (mj (dC V.toDk s (kF v)) v)] (dz (λ_ H=>H=[cJ V r (qg V.toDk (mj (dC V.toDk s (kF v)) v))]))):
 DT 145 #[(.pointer (some ⟨r,0,none⟩)),(.iface V.T V.ov),(.agg (ints v.flat).toArray)] T0 [cJ V r s] (RI (.bool (qF V.toDk s v)) [cJ V r (gX V.toDk s v)]):=by
 refine BD 28 Tryz.func145 rfl rfl rfl λw0 F hF=>sr λ_ J1=>XY (ints v.flat) λb5=>?_
 refine PS ?_;refine nx J1 (aa λ_ J2=>aa λ_ J3=>DC bm (BL 0) (cZ 1 rfl rfl) ?_);refine FD 0 0 eS aQ ?_;refine LR 1 Y3 (bi v rfl) ?_;refine PD 2 ?_;refine PD 3 ?_;refine FD 4 2 bn bk ?_;refine FD 5 2 eS aQ ?_;refine ta 6 rfl (dm (v:=(.int .i64 (s.view.epoch))) rfl Y3 rfl rfl (λ_ h=>h.2.2.1) (λa_=>(cf (s.rep a_) 0 rfl (by decide) (bi _ rfl)))) ?_;refine PD 7 ?_;refine jc ?_ ?_<;>intro h14;refine PD 8 ?_;refine NT 9 ?_;refine NT 10 ?_;refine NT 11 ?_;refine NT 12 ?_;refine NT 13 ?_;refine PD 14 ?_;refine DN (ac J3 (CY (sr λ_ J4=>PS ?_)));refine nx J4 (ai (af (WK [1] (av rfl rfl ?_))));have e:gX V.toDk s v=s:=by rw[gX,if_pos h14]
 exact⟨by rw[qF,decide_eq_false (by omega),gS],congrArg (λq=>[cJ V r q]) e.symm⟩;refine PD 8 ?_;refine PD 9 ?_;refine LY 10 eS bk an ?_;refine tb 11 rfl (lm RecT.zero (RecT.mk 5 0 RowT.zero 0 BallotT.zero ChangeT.zero v) [(0,[Value.int .i64 5]),(6,ints v.flat)] je fh (g:=RecT.sg)) ?_;refine AL 12 ?_;refine CE w4 (lv V r s (kF v)) (SM [1]) ?_;refine EN (PD 13 ?_);refine jc ?_ ?_<;>intro h20;refine PD 14 ?_;refine DN (ac J3 (CY (sr λ_ J5=>PS ?_)));refine nx J5 (ai (af (WK [0] (av rfl rfl ?_))));have e:gX V.toDk s v=(dC V.toDk s (kF v)):=by rw[gX,if_neg h14,if_pos h20]
 exact⟨by rw[qF,decide_eq_true (by omega),decide_eq_false h20,vA],congrArg (λq=>[cJ V r q]) e.symm⟩;refine PD 14 ?_;refine DN (ac J3 (CN (qx J2 (sr λ_ J6=>PS ?_))));refine LW 1 eS bk an ?_;refine CZ L6 (CJ V r (dC V.toDk s (kF v)) v) ID λvR=>?_
 refine nx J6 (sr λ_ J7=>P2 ?_);refine CZ IG ((hcl (by omega))) ID λvR=>?_
 refine nx J7 (sr λ_ J8=>PS ?_);refine nx J8 (ai (WK [0] (av rfl rfl ?_)));have e:gX V.toDk s v=(qg V.toDk (mj (dC V.toDk s (kF v)) v)):=by rw[gX,if_neg h14,if_neg h20]
 exact⟨by rw[qF,decide_eq_true (by omega),decide_eq_true (by omega),vA],congrArg (λq=>[cJ V r q]) e.symm⟩
theorem Cv{δ:Type}(V:Env δ)(r:Nat)(s:MS δ)(v:ViewT)[OkR V.toDk s][OkVw v](h:v.epoch≤s.view.epoch):DT 145 #[.pointer (some ⟨r,0,none⟩), .iface V.T V.ov, .agg (ints v.flat).toArray] T0 [cJ V r s] (dz (λq H=>(∃b,q= .bool b)∧H=[cJ V r s])):=
 (uS V r s v (λq=>absurd h q)).mono λe H hp=>by
  cases e with
  |returned q=>exact⟨⟨_,hp.1⟩,hp.2.trans (by rw[gX,if_pos h])⟩
  |panicked c=>exact hp.elim
  |outgrown=>exact hp.elim
theorem wD{δ:Type}(V:Env δ)(r:Nat)(s:MS δ)(i:Int)[OkR V.toDk s]:TK V r 105 s s.id (nE i s.view) (e9 V.toDk s s.id i):=DY rfl (pQ V r s s s.id (nE i s.view) (Cv V r s s.view (Int.le_refl _)))
theorem qf{δ:Type}(V:Env δ)(r:Nat)(s:MS δ)[OkR V.toDk s]:
 DT 108 #[(.pointer (some ⟨r,0,none⟩)),(.iface V.T V.ov)] T0 [cJ V r s] (dz (λ_ H=>H=[cJ V r (qg V.toDk s)])):=by
 refine BD 39 Tryz.func108 rfl rfl rfl λw0 F hF=>sr λ_ J1=>PS ?_
 refine CR Lg (zE V r s) ID λvR HR hR=>?_
 obtain⟨_,rfl,rfl⟩:=hR;revert vR;intro ud;refine kY 0 rfl rfl (λhlud houd=>tp (eh rfl kl rfl hlud) ?_);refine PS ?_;refine nx J1 (aq ?_)
 refine bw (α:=(Nat)) (λk=>k≤(bE s).length) (λk=>[(0,(.pointer (some ⟨r,0,none⟩))),(1,(.iface V.T V.ov)),(9,ud),(10,(.int .i64 ((((bE s).length:Nat):Int)))),(11,(.int .i64 (((k:Nat):Int))))]) (λk=>[own ud ((bE s).length) (ints (bE s)) 3 1,cJ V r (fV V.toDk ((bE s).take k) s)]) (λk=>(bE s).length-k) 0
  (aN _) SB
  (λ_ s=>s) (λk hinv=>?_)
 obtain hk:=hinv;have hcl:OkR V.toDk (fV V.toDk ((bE s).take k) s):=um _ _ inferInstance;refine sr λ_ J2=>PS ?_
 refine ao ?_ ?_<;>intro h12;refine nx J2 (aa λ_ J3=>CY (qx J3 (aa λ_ J4=>aq (sr λ_ J5=>?_))));have hmm1:(bE s).getD k 0∈bE s:=by rw[List.getD_eq_getElem?_getD,List.getElem?_eq_getElem (by omega)];exact ec _
 have hm1:cN ((bE s).getD k 0)=true:=(xE hmm1).1;have hn1:0≤(bE s).getD k 0∧(bE s).getD k 0<5:=of_decide_eq_true hm1;refine j7 0 rfl rfl (by omega) (λge1 ce1 he1 _=>tp (bU (r:=k) he1 rfl kl aQ rfl rfl (by omega) (by omega) (by omega)) ?_);refine tp (di (v:=(.int .i64 (((bE s).getD k 0)))) rfl Y3 rfl rfl (gm 0 rfl he1 rfl) (xo (by omega))) ?_;refine PS ?_;refine nx J5 (sr λ_ J6=>PS ?_);refine CR Iq (qt ((bE s).getD k 0) hm1) ID λvR HR hR=>?_
 obtain⟨_,rfl,rfl⟩:=hR;revert vR;intro uw;refine kY 0 rfl rfl (λhluw _=>j7 0 rfl rfl (by omega) (λgw capw hvw hcapw=>tp (eh rfl kl rfl hluw) ?_));refine PS ?_;refine nx J6 (aq (rY 2 (sr λ_ J7=>PS ?_)));refine nx J7 (aa λ_ J8=>CY (qx J8 (aa λ_ J9=>fg (α:=Unit) (λ_u=>True) (λ_u=>[(0,(.pointer (some ⟨r,0,none⟩))),(1,(.iface V.T V.ov)),(5,(.int .i64 (((bE s).getD k 0)))),(9,ud),(10,(.int .i64 ((((bE s).length:Nat):Int)))),(11,(.int .i64 (((k:Nat):Int)))),(16,uw),(17,(.int .i64 2)),(18,(.int .i64 0)),(19,(.bool true))]) (λ_u=>[cJ V r (gG V.toDk (fV V.toDk ((bE s).take k) s) ((bE s).getD k 0) ((((bE s).getD k 0)+1)%5)),own uw (2) ([.int .i64 ((((bE s).getD k 0)+1)%5), .int .i64 ((((bE s).getD k 0)+2)%5)]) 3 1,own ud ((bE s).length) (ints (bE s)) 3 1]) (λ_u hinv=>?_) (λtl9=>?_))));have _:=hinv;refine ac J9 (ae (tp (cC (r:=1) rfl rfl rfl (by decide)) ?_));refine PS ?_;refine au (eA (sr λ_ J10=>PS ?_))
 refine nx J10 (aa λ_ J11=>CY (qx J11 (aa λ_ J12=>fg (α:=Unit) (λ_u=>True) (λ_u=>[(0,(.pointer (some ⟨r,0,none⟩))),(1,(.iface V.T V.ov)),(5,(.int .i64 (((bE s).getD k 0)))),(9,ud),(10,(.int .i64 ((((bE s).length:Nat):Int)))),(11,(.int .i64 (((k:Nat):Int)))),(16,uw),(17,(.int .i64 2)),(18,(.int .i64 1)),(19,(.bool true)),(37,(.int .i64 1))]) (λ_u=>[cJ V r (gG V.toDk (gG V.toDk (fV V.toDk ((bE s).take k) s) ((bE s).getD k 0) ((((bE s).getD k 0)+1)%5)) ((bE s).getD k 0) ((((bE s).getD k 0)+2)%5)),own uw (2) ([.int .i64 ((((bE s).getD k 0)+1)%5), .int .i64 ((((bE s).getD k 0)+2)%5)]) 3 1,own ud ((bE s).length) (ints (bE s)) 3 1]) (λ_u hinv=>?_) (λtl12=>?_))));have _:=hinv;refine ac J12 (ae (tp (cC (r:=2) rfl rfl rfl (by decide)) ?_));refine PS ?_;refine au (eA (sr λ_ J13=>PS ?_));refine nx J13 (aa λ_ J14=>CN (aX (aA (aA (br (ag (ac J4 (ae (AD ?_)))))))));refine PS ?_;refine au ?_
 exact aK ((k+1):(Nat)) (by omega) (by show(bE s).length- (k+1)< (bE s).length-k;omega)
  SB
  (λ_ q=>by
   rw[Da V.toDk (by omega) s]
   exact am [2,0] rfl q)
 refine aq (sr λ_ J15=>tp (bU (r:=1) hvw rfl kl aQ rfl rfl (by omega) (by omega) rfl) ?_);refine tp (di (v:=(.int .i64 (((((bE s).getD k 0)+2)%5)))) rfl Y3 rfl rfl (gm 1 rfl hvw rfl) rfl) ?_;refine PS ?_;refine nx J15 (sr λ_ J16=>P3 ?_);refine CE FH (nD V r (gG V.toDk (fV V.toDk ((bE s).take k) s) ((bE s).getD k 0) ((((bE s).getD k 0)+1)%5)) ((bE s).getD k 0) ((((bE s).getD k 0)+2)%5) hm1 (by omega)) ID ?_;refine bc ?_ ?_<;>intro h25;refine PS ?_;refine nx J16 (CN (aU (ag ?_)))
 exact aF
  SB
  (λ_ q=>by
   rw[gG,if_pos h25]
   exact am [0,0,0] rfl q)
  (tl12 (():Unit) trivial)
 refine PS ?_;refine nx J16 (CY (ae ?_))
 iterate 6 refine PS ?_
 refine FA 2 bn bk ?_;refine LZ 0 eS bk an ((gG V.toDk (fV V.toDk ((bE s).take k) s) ((bE s).getD k 0) ((((bE s).getD k 0)+1)%5)).view) ?_ (hc:=by exact λ_=>cX _);refine tp (lm MsgT.zero (MsgT.mk 8 ((bE s).getD k 0) RowT.zero 0 0 BallotT.zero BallotT.zero ChangeT.zero ((gG V.toDk (fV V.toDk ((bE s).take k) s) ((bE s).getD k 0) ((((bE s).getD k 0)+1)%5)).view)) [(0,[Value.int .i64 8]),(1,[Value.int .i64 ((bE s).getD k 0)]),(8,ints ((gG V.toDk (fV V.toDk ((bE s).take k) s) ((bE s).getD k 0) ((((bE s).getD k 0)+1)%5)).view).flat)] bf bv (g:=MsgT.sg)) ?_;refine CZ jq (gp V r (gG V.toDk (fV V.toDk ((bE s).take k) s) ((bE s).getD k 0) ((((bE s).getD k 0)+1)%5)) ((((bE s).getD k 0)+2)%5) (nE ((bE s).getD k 0) (gG V.toDk (fV V.toDk ((bE s).take k) s) ((bE s).getD k 0) ((((bE s).getD k 0)+1)%5)).view) (λs_=>e9 V.toDk s_ s_.id ((bE s).getD k 0)) (λ_=>wD V r (gG V.toDk (fV V.toDk ((bE s).take k) s) ((bE s).getD k 0) ((((bE s).getD k 0)+1)%5)) ((bE s).getD k 0))) ID λvR=>?_
 refine au (ag ?_)
 exact aF
  SB
  (λ_ q=>by
   rw[gG,if_neg (by rw[h25];decide)]
   exact am [0,0,0] rfl q)
  (tl12 (():Unit) trivial)
 refine aq (sr λ_ J17=>tp (bU (r:=0) hvw rfl kl aQ rfl rfl (by omega) (by omega) rfl) ?_);refine tp (di (v:=(.int .i64 (((((bE s).getD k 0)+1)%5)))) rfl Y3 rfl rfl (gm 0 rfl hvw rfl) rfl) ?_;refine PS ?_;refine nx J17 (sr λ_ J18=>P3 ?_);refine CE FH (nD V r (fV V.toDk ((bE s).take k) s) ((bE s).getD k 0) ((((bE s).getD k 0)+1)%5) hm1 (by omega)) (SM [2]) ?_;refine bc ?_ ?_<;>intro h25;refine PS ?_;refine nx J18 (CN (aU (ag ?_)))
 exact aF
  SB
  (λ_ q=>by
   rw[gG,if_pos h25]
   exact am [0,0,0] rfl q)
  (tl9 (():Unit) trivial)
 refine PS ?_;refine nx J18 (CY (ae ?_))
 iterate 6 refine PS ?_
 refine FA 2 bn bk ?_;refine LZ 0 eS bk an ((fV V.toDk ((bE s).take k) s).view) ?_ (hc:=by exact λ_=>cX _);refine tp (lm MsgT.zero (MsgT.mk 8 ((bE s).getD k 0) RowT.zero 0 0 BallotT.zero BallotT.zero ChangeT.zero ((fV V.toDk ((bE s).take k) s).view)) [(0,[Value.int .i64 8]),(1,[Value.int .i64 ((bE s).getD k 0)]),(8,ints ((fV V.toDk ((bE s).take k) s).view).flat)] bf bv (g:=MsgT.sg)) ?_;refine CZ jq (gp V r (fV V.toDk ((bE s).take k) s) ((((bE s).getD k 0)+1)%5) (nE ((bE s).getD k 0) (fV V.toDk ((bE s).take k) s).view) (λs_=>e9 V.toDk s_ s_.id ((bE s).getD k 0)) (λ_=>wD V r (fV V.toDk ((bE s).take k) s) ((bE s).getD k 0))) ID λvR=>?_
 refine au (ag ?_)
 exact aF
  SB
  (λ_ q=>by
   rw[gG,if_neg (by rw[h25];decide)]
   exact am [0,0,0] rfl q)
  (tl9 (():Unit) trivial)
 refine nx J2 (aa λ_ J19=>CN (aX (aA (aA (br (WK [1] (bD rfl ?_)))))));obtain rfl:k=(bE s).length:=by omega
 exact MQ (by rw[iA];rfl)
theorem uT{δ:Type}(V:Env δ)(r:Nat)(s:MS δ)(v:ViewT)[OkR V.toDk s][OkVw v]:DT 145 #[.pointer (some ⟨r,0,none⟩), .iface V.T V.ov, .agg (ints v.flat).toArray] T0 [cJ V r s] (RI (.bool (qF V.toDk s v)) [cJ V r (gX V.toDk s v)]):=uS V r s v λ_=>qf V r _
theorem uU{δ:Type}(V:Env δ)(r:Nat)(s:MS δ)(v:ViewT)[OkR V.toDk s][OkVw v]:DT 145 #[.pointer (some ⟨r,0,none⟩), .iface V.T V.ov, .agg (ints v.flat).toArray] T0 [cJ V r s] (dz (λq H=>(∃b,q= .bool b)∧H=[cJ V r (gX V.toDk s v)])):=
 (uT V r s v).mono λe H hp=>by
  cases e with
  |returned q=>exact⟨⟨_,hp.1⟩,hp.2⟩
  |panicked c=>exact hp.elim
  |outgrown=>exact hp.elim
theorem wj{δ:Type}(V:Env δ)(r:Nat)(s:MS δ)(from':Int)(m:MsgT)[OkR V.toDk s][OkMg m]:TK V r 146 s from' m (ko V.toDk s from' m):=pQ V r s _ from' m (uU V r s m.view)
theorem L0:Tryz.prog.eqGuardType Tryz.prog.depth 88=false:=by kernel_rfl
theorem LQ:Tryz.prog.keyTypeAt 6 88=true:=by kernel_rfl
theorem Mt:nJ Tryz.prog 6 88=some 2:=by kernel_rfl
theorem Hn:(match Tryz.prog.underlying 88 with|some (.struct _)|some (.array _ _)=>true|_=>false)=true:=by kernel_rfl
theorem Hu:Tryz.prog.cellsOf 88=2:=by kernel_rfl
theorem MY:Tryz.prog.eqGuardType Tryz.prog.depth 118=false:=by kernel_rfl
theorem MX:Tryz.prog.keyTypeAt 6 118=true:=by kernel_rfl
theorem N0:nJ Tryz.prog 6 118=some 8:=by kernel_rfl
theorem Lt:(match Tryz.prog.underlying 118 with|some (.struct _)|some (.array _ _)=>true|_=>false)=true:=by kernel_rfl
theorem Lw:Tryz.prog.cellsOf 118=8:=by kernel_rfl
theorem zl(a b:BallotT):
 DT 181 #[(.agg (ints a.flat).toArray),(.agg (ints b.flat).toArray)] T0 [] (RI (.bool (Cu a b)) []):=by
 refine BD 20 Tryz.func181 rfl rfl rfl λw0 F hF=>sr λ_ J1=>XY (ints a.flat) λb2=>?_
 refine XY (ints b.flat) λb3=>?_
 refine PS ?_;refine nx J1 (aa λ_ J2=>sr λ_ J3=>FA 0 kg aQ ?_);refine LU 1 Y3 (fk a rfl) ?_;refine FA 0 kg aQ ?_;refine LU 0 Y3 (fk b rfl) ?_;refine PS ?_;refine ao ?_ ?_<;>intro h9;refine nx J3 (CY (sr λ_ J4=>FA 0 kg aQ ?_));refine LU 1 Y3 (fk a rfl) ?_;refine FA 0 kg aQ ?_;refine LU 0 Y3 (fk b rfl) ?_;refine P2 ?_;refine nx J4 (ai (af (WK [] (av rfl rfl ?_))));exact⟨congrArg Value.bool (by simp[Cu, *]),rfl⟩;refine nx J3 (CN (qx J2 (sr λ_ J5=>FA 1 kg aQ ?_)));refine LU 1 Y3 (BallotT.at_who a rfl) ?_;refine FA 1 kg aQ ?_;refine LU 0 Y3 (BallotT.at_who b rfl) ?_;refine P2 ?_;refine nx J5 (ai (WK [] (av rfl rfl ?_)));exact⟨congrArg Value.bool (by simp[Cu, *]),rfl⟩
theorem sR(a:AccT)(ep:Int)(b:BallotT):
 DT 175 #[(.agg (ints a.flat).toArray),(.int .i64 (ep)),(.agg (ints b.flat).toArray)] T0 [] (RI (.bool (zP a ep b)) []):=by
 refine BD 22 Tryz.func175 rfl rfl rfl λw0 F hF=>sr λ_ J1=>XY (ints a.flat) λb3=>?_
 refine XY (ints b.flat) λb5=>?_
 refine PS ?_;refine nx J1 (sr λ_ J2=>PS ?_);refine FA 0 jb aQ ?_;refine LU 1 Y3 (AccT.at_epoch a rfl) ?_;refine PS ?_;refine ao ?_ ?_<;>intro h10;refine PS ?_
 iterate 3 refine UT ?_
 refine P2 ?_
 iterate 4 refine UT ?_
 refine P2 ?_;refine nx J2 (ai (WK [] (av rfl rfl ?_)));exact⟨congrArg Value.bool (by simp[zP, *]),rfl⟩;refine PS ?_;refine FA 0 kg aQ ?_;refine LU 0 Y3 (fk b rfl) ?_;refine PS ?_;refine ao ?_ ?_<;>intro h14;refine P2 ?_
 iterate 4 refine UT ?_
 refine P2 ?_;refine nx J2 (ai (WK [] (av rfl rfl ?_)));exact⟨congrArg Value.bool (by simp[zP, *]),rfl⟩;refine P2 ?_;refine LW 0 kg cz ap ?_;refine FA 1 jb cz ?_;refine LV 1 kg cz ap AccT.sp_vow (y:=a.vow) ?_;refine CE KY (zl b a.vow) ID ?_;refine P2 ?_;refine nx J2 (ai (WK [] (av rfl rfl ?_)));exact⟨congrArg Value.bool (by simp[zP, *]),rfl⟩
theorem nM(a:AccT)(ep:Int)(b:BallotT):
 DT 153 #[(.agg (ints a.flat).toArray),(.int .i64 (ep)),(.agg (ints b.flat).toArray)] T0 [] (RI (.tuple #[.agg (ints (bS a ep b).1.flat).toArray, .bool (bS a ep b).2]) []):=by
 refine BD 16 Tryz.func153 rfl rfl rfl λw0 F hF=>sr λ_ J1=>XY (ints a.flat) λb3=>?_
 refine XY (ints b.flat) λb5=>?_
 refine XZ vT (ints AccT.zero.flat) λb6=>?_
 refine PS ?_;refine nx J1 (aa λ_ J2=>sr λ_ J3=>LW 2 jb dF bb ?_);refine PS ?_;refine LW 1 kg cz ap ?_;refine CE K6 (sR a ep b) ID ?_;refine bc ?_ ?_<;>intro h11;refine nx J3 (CY (sr λ_ J4=>LW 2 jb dF bb ?_));refine SW 0 dF bb ?_;refine PS ?_;refine nx J4 (ai (af (RT 0 [] jb dF (bb _) ?_)));exact⟨by rw[bS];simp_all,rfl⟩;refine nx J3 (CN (qx J2 (sr λ_ J5=>LW 1 kg cz ap ?_)));refine FA 1 jb cz ?_;refine SP 2 cz ap bb AccT.wp_vow ?_;refine nx J5 (sr λ_ J6=>LW 2 jb dF bb ?_);refine SW 0 dF bb ?_;refine PS ?_;refine nx J6 (ai (RT 0 [] jb dF (bb _) ?_));exact⟨by rw[bS];simp_all,rfl⟩
theorem u9(a:AccT)(ep:Int)(b:BallotT)(ch:ChangeT):
 DT 180 #[(.agg (ints a.flat).toArray),(.int .i64 (ep)),(.agg (ints b.flat).toArray),(.agg (ints ch.flat).toArray)] T0 [] (RI (.tuple #[.agg (ints (gH a ep b ch).1.flat).toArray, .bool (gH a ep b ch).2]) []):=by
 refine BD 22 Tryz.func180 rfl rfl rfl λw0 F hF=>sr λ_ J1=>XY (ints a.flat) λb4=>?_
 refine XY (ints b.flat) λb6=>?_
 refine XY (ints ch.flat) λb7=>?_
 refine XZ vT (ints AccT.zero.flat) λb8=>?_
 refine PS ?_;refine nx J1 (aa λ_ J2=>sr λ_ J3=>LW 3 jb dF bb ?_);refine PS ?_;refine LW 2 kg cz ap ?_;refine CE K6 (sR a ep b) ID ?_;refine bc ?_ ?_<;>intro h13;refine nx J3 (CY (sr λ_ J4=>LW 3 jb dF bb ?_));refine SW 0 dF bb ?_;refine PS ?_;refine nx J4 (ai (af (RT 0 [] jb dF (bb _) ?_)));exact⟨by rw[gH];simp_all,rfl⟩;refine nx J3 (CN (qx J2 (aa λ_ J5=>D2 2 1 bm ?_)));refine LY 0 kg cz ap ?_;refine LY 1 kg cz ap ?_;refine LY 2 np fI aL ?_;refine FD 3 1 jb cz ?_;refine AL 4 ?_;refine SP 3 cz ap bb AccT.wp_vow ?_;refine EN (FD 5 3 jb cz ?_);refine AL 6 ?_;refine SP 3 cz ap bb AccT.wp_had ?_;refine EN (FD 7 5 jb fI ?_);refine AL 8 ?_;refine SP 3 fI aL bb AccT.wp_change ?_;refine EN (DN (ac J5 (sr λ_ J6=>LW 3 jb dF bb ?_)));refine SW 0 dF bb ?_;refine PS ?_;refine nx J6 (ai (RT 0 [] jb dF (bb _) ?_));exact⟨by rw[gH];simp_all,rfl⟩
theorem uO(b:Int):
 DT 184 #[(.int .i64 (b))] T0 [] (dz (λr' H=>∃u,r'=u∧H=[own u (D4 b).length (ints (D4 b)) 3 1])):=by
 refine BD 19 Tryz.func184 rfl rfl rfl λw0 F hF=>sr λ_ J1=>PS ?_
 refine nx J1 (sr λ_ J2=>PS ?_);refine nx J2 (aa λ_ J3=>sr λ_ J4=>PS ?_);refine nx J4 (aq ?_)
 refine bw (α:=(Nat)×(Value)) (λ⟨k,u⟩=>k≤5∧u.oneCell'=true) (λ⟨k,u⟩=>[(0,(.int .i64 (b))),(2,(.slice none 0 0)),(3,u),(5,(.int .i64 (((k:Nat):Int))))]) (λ⟨k,u⟩=>[own u ((li b k).length) (ints (li b k)) 3 1]) (λ⟨k,u⟩=>5-k) (0,(.slice none 0 0))
  ⟨aN _,rfl⟩ SB
  (λ_ s=>gV 3 1 (am [] rfl s)) (λ⟨k,u⟩ hinv=>?_)
 obtain⟨hk,hu⟩:=hinv;have hol:=tN b k;refine sr λ_ J5=>PS ?_
 refine ao ?_ ?_<;>intro h6;refine nx J5 (aa λ_ J6=>CY (qx J6 (aa λ_ J7=>aq (sr λ_ J8=>P2 ?_))));refine nx J8 (sr λ_ J9=>P2 ?_);refine tp (l8 (r:=(b.fdiv (2^min ((k:Nat):Int).toNat IntKind.i64.bits))) rfl rfl rfl (by omega) rfl) ?_;refine tp (tt (r:=((b.fdiv (2^min ((k:Nat):Int).toNat IntKind.i64.bits))%2)) rfl rfl rfl (mask (k:=1) (by decide) _)) ?_;refine PS ?_;refine ao ?_ ?_<;>intro h12;refine nx J9 (CY (ae (P2 ?_)));refine aW (cells:=#[(.int .i64 (((k:Nat):Int)))]) (ab rfl) rfl rfl rfl kl rG rfl rfl rfl (by as_aux_lemma=>kernel_rfl) (λb15=>cL (k:=1) (news:=[(.int .i64 (((k:Nat):Int)))]) (nn':=(li b k).length+1) (xs':=ints (li b k)++[(.int .i64 (((k:Nat):Int)))]) (ab rfl) rfl rfl rfl kl rG rfl rfl rfl rfl rfl rfl (λ_ _=>jK rfl (RO 0) rfl) (by simp[Value.oneCell']) (by simp only[maxLen];omega) (by omega) (by simp) (by simp) (λv16 ov16=>PS ?_));refine au (ag (ac J7 (ae (AD ?_))));refine PS ?_;refine au ?_
 exact aK ((k+1,v16):(Nat)×(Value)) ⟨by omega,ov16⟩ (by show 5- (k+1)<5-k;omega)
  SB
  (λ_ q=>by
   show bG [own v16 (li b (k+1)).length (ints (li b (k+1))) 3 1] _;rw[show li b (k+1)=li b k++[((k:Nat):Int)]by rw[wx,if_pos (by rw[Hw,decide_eq_true (by assumption)])],ah,ez]
   exact am [1] rfl q)
 refine nx J9 (CN (aU (ag (ac J7 (ae (AD ?_))))));refine PS ?_;refine au ?_
 exact aK ((k+1,u):(Nat)×(Value)) ⟨by omega,hu⟩ (by show 5- (k+1)<5-k;omega)
  SB
  (λ_ q=>by
   show bG [own u (li b (k+1)).length (ints (li b (k+1))) 3 1] _;rw[show li b (k+1)=li b k by rw[wx,if_neg (by rw[Hw,decide_eq_false (by assumption)];decide),aP]]
   exact am [0] rfl q)
 refine nx J5 (aa λ_ J10=>CN (aX (aA (aA (br (ac J3 (sr λ_ J11=>P2 ?_)))))));refine nx J11 (ai (WK [0] (av rfl rfl ?_)));obtain rfl:k=5:=by omega
 exact⟨u,rfl,rfl⟩
theorem AI(part all:Int):
 DT 183 #[(.int .i64 (part)),(.int .i64 (all))] T0 [] (RI (.bool (Lq part all)) []):=by
 refine BD 15 Tryz.func183 rfl rfl rfl λw0 F hF=>sr λ_ J1=>PS ?_
 refine nx J1 (sr λ_ J2=>P2 ?_);refine tp (tt (r:=(tl .i64 part all)) rfl rfl rfl rfl) ?_;refine CR KX (uO (tl .i64 part all)) ID λvR HR hR=>?_
 obtain⟨_,rfl,rfl⟩:=hR;revert vR;intro us1;refine kY 0 rfl rfl (λhlus1 _=>?_);have hzus1:=tN (tl .i64 part all) 5;change (D4 (tl .i64 part all)).length≤5 at hzus1;refine tp (eh rfl kl rfl hlus1) ?_;refine tp (KK (r:=(2* (((D4 (tl .i64 part all)).length:Nat):Int))) rfl rfl rfl (bV (by omega) (by omega))) ?_;refine PS ?_;refine CR KX (uO all) ID λvR HR hR=>?_
 obtain⟨_,rfl,rfl⟩:=hR;revert vR;intro us2;refine kY 0 rfl rfl (λhlus2 _=>?_);have hzus2:=tN all 5;change (D4 all).length≤5 at hzus2;refine tp (eh rfl kl rfl hlus2) ?_;refine P2 ?_;exact nx J2 (ai (WK [] (av rfl rfl ⟨rfl,rfl⟩)))
theorem jx(v:ViewT)(bits:Int):
 DT 182 #[(.agg (ints v.flat).toArray),(.int .i64 (bits))] T0 [] (RI (.bool (gN v bits)) []):=by
 refine BD 9 Tryz.func182 rfl rfl rfl λw0 F hF=>sr λ_ J1=>XY (ints v.flat) λb2=>?_
 refine PS ?_;refine nx J1 (sr λ_ J2=>PS ?_);refine FA 1 eS aQ ?_;refine LU 0 Y3 (mm v rfl) ?_;refine CE Nl (AI bits v.members) ID ?_;refine PS ?_;exact nx J2 (ai (WK [] (av rfl rfl ⟨rfl,rfl⟩)))
theorem Ab(v:ViewT)(b:BallotT)(ch:ChangeT):
 DT 154 #[(.agg (ints v.flat).toArray),(.agg (ints b.flat).toArray),(.agg (ints ch.flat).toArray)] T0 [] (dz (λr' H=>∃vb,r'= .pointer (some ⟨vb,0,none⟩)∧H=[ak vb (VoteT.cells (kd v b ch)) 227])):=by
 refine BD 12 Tryz.func154 rfl rfl rfl λw0 F hF=>sr λ_ J1=>XY (ints v.flat) λb3=>?_
 refine XY (ints b.flat) λb4=>?_
 refine XY (ints ch.flat) λb5=>?_
 refine PS ?_;refine nx J1 (sr λ_ J2=>LW 2 eS bk an ?_);refine LW 1 kg cz ap ?_;refine LW 0 np fI aL ?_;refine tp (yL (cs:=VoteT.cells (VoteT.mk v b ch BallotT.zero 0 0 false)) (segs:=[ints ViewT.zero.flat,ints BallotT.zero.flat,ints ChangeT.zero.flat,ints BallotT.zero.flat,[Value.int .i64 0],[Value.int .i64 0],[Value.bool false]]) (res:=[ints v.flat,ints b.flat,ints ch.flat,ints BallotT.zero.flat,[Value.int .i64 0],[Value.int .i64 0],[Value.bool false]]) (parts:=[(0,ints v.flat),(1,ints b.flat),(2,ints ch.flat)]) rfl rfl jJ (by kernel_rfl) (by kernel_rfl) rfl (fm rfl ((an v).trans (an ViewT.zero).symm) (fm rfl ((ap b).trans (ap BallotT.zero).symm) (fm rfl ((aL ch).trans (aL ChangeT.zero).symm) lM))) (fD (VoteT.mk v b ch BallotT.zero 0 0 false)).symm) ?_;refine XY (VoteT.cells (VoteT.mk v b ch BallotT.zero 0 0 false)) λb11=>?_
 refine PS ?_;exact nx J2 (ai (WK [0] (av rfl rfl ⟨b11,rfl,rfl⟩)))
theorem bI(vb:Nat)(v:VoteT):
 DT 155 #[(.pointer (some ⟨vb,0,none⟩))] T0 [ak vb (VoteT.cells v) 227] (RI (.agg (ints v.ballot.flat).toArray) [ak vb (VoteT.cells v) 227]):=by
 refine BD 7 Tryz.func155 rfl rfl rfl λw0 F hF=>sr λ_ J1=>XZ OC (ints BallotT.zero.flat) λb2=>?_
 refine nx J1 (sr λ_ J2=>P2 ?_);refine FA 7 jJ cz ?_;refine LV 1 kg cz ap VoteT.sp_ballot (y:=v.ballot) ?_;refine SW 0 cz ap ?_;refine nx J2 (ai (RC 0 [1] kg cz (ap _) ?_));exact⟨rfl,rfl⟩
theorem dh(vb:Nat)(v:VoteT):
 DT 111 #[(.pointer (some ⟨vb,0,none⟩))] T0 [ak vb (VoteT.cells v) 227] (RI (.agg (ints v.change.flat).toArray) [ak vb (VoteT.cells v) 227]):=by
 refine BD 7 Tryz.func111 rfl rfl rfl λw0 F hF=>sr λ_ J1=>XZ OE (ints ChangeT.zero.flat) λb2=>?_
 refine nx J1 (sr λ_ J2=>P2 ?_);refine FA 9 jJ fI ?_;refine LV 1 np fI aL VoteT.sp_change (y:=v.change) ?_;refine SW 0 fI aL ?_;refine nx J2 (ai (RC 0 [1] np fI (aL _) ?_));exact⟨rfl,rfl⟩
theorem n6(vb:Nat)(v:VoteT):
 DT 156 #[(.pointer (some ⟨vb,0,none⟩))] T0 [ak vb (VoteT.cells v) 227] (RI (.bool v.putting) [ak vb (VoteT.cells v) 227]):=by
 refine BD 7 Tryz.func156 rfl rfl rfl λw0 F hF=>sr λ_ J1=>PS ?_
 refine nx J1 (sr λ_ J2=>P2 ?_);refine FA 16 jJ k9 ?_;refine LU 0 Y4 (ml v rfl) ?_;refine PS ?_;exact nx J2 (ai (WK [0] (av rfl rfl ⟨rfl,rfl⟩)))
theorem DL(vb:Nat)(v:VoteT)(who:Int)(b had:BallotT)(ch:ChangeT)(hb:WF b.flat)(hvb:WF v.ballot.flat):
 DT 172 #[(.pointer (some ⟨vb,0,none⟩)),(.int .i64 (who)),(.agg (ints b.flat).toArray),(.agg (ints had.flat).toArray),(.agg (ints ch.flat).toArray)] T0 [ak vb (VoteT.cells v) 227] (RI (.bool (eW v who b had ch).2) [ak vb (VoteT.cells (eW v who b had ch).1) 227]):=by
 refine BD 76 Tryz.func172 rfl rfl rfl λw0 F hF=>sr λ_ J1=>XY (ints b.flat) λb7=>?_
 refine XY (ints had.flat) λb8=>?_
 refine XY (ints ch.flat) λb9=>?_
 refine PS ?_;refine nx J1 (aa λ_ J2=>aa λ_ J3=>D2 3 2 bm ?_);refine PD 0 ?_;refine PD 1 ?_;refine FD 2 16 jJ k9 ?_;refine LR 3 Y4 (ml v rfl) ?_;refine oA ?_ ?_<;>intro h14;refine PD 4 ?_;refine NT 5 ?_;refine NT 6 ?_;refine NT 7 ?_;refine NT 8 ?_;refine NT 9 ?_;refine NT 10 ?_;refine PD 11 ?_;refine PD 12 ?_;refine NT 13 ?_;refine NT 14 ?_;refine NT 15 ?_;refine NT 16 ?_;refine NT 17 ?_;refine NT 18 ?_;refine NT 19 ?_;refine PD 20 ?_;refine DN (ac J3 (CY (sr λ_ J4=>PS ?_)));refine nx J4 (ai (af (WK [3] (av rfl rfl ?_))));have e:eW v who b had ch=(v,false):=by rw[eW,h14,if_pos (by rfl)]
 exact⟨congrArg (λq:VoteT×Bool=>Value.bool q.2) e.symm,congrArg (λq:VoteT×Bool=>[ak vb (VoteT.cells q.1) 227]) e.symm⟩;refine PD 4 ?_;refine LY 5 kg cz ap ?_;refine PD 6 ?_;refine PD 7 ?_;refine FD 8 7 jJ cz ?_;refine tb 9 rfl (aM (vs:=ints v.ballot.flat) rfl kg rfl cz rfl (λ_ h=>h.2.1) (ap v.ballot) (KH v 0 rfl (by decide) (whole (ap v.ballot)))) ?_;refine tb 10 rfl (KJ (a:=b.flat) (b:=v.ballot.flat) (m:=6) (c:=2) L0 LQ rfl Mt (dq (ap b)) (dq (ap v.ballot)) ⟨fS Hn Hu (dq (ap b)),fS Hn Hu (dq (ap v.ballot))⟩ hb hvb rfl rfl rfl) ?_;refine jc ?_ ?_<;>intro h21;refine PD 11 ?_;refine PD 12 ?_;refine NT 13 ?_;refine NT 14 ?_;refine NT 15 ?_;refine NT 16 ?_;refine NT 17 ?_;refine NT 18 ?_;refine NT 19 ?_;refine PD 20 ?_;refine DN (ac J3 (CY (sr λ_ J5=>PS ?_)));refine nx J5 (ai (af (WK [3] (av rfl rfl ?_))));have e:eW v who b had ch=(v,false):=by rw[eW,nQ,decide_eq_false h21,if_pos (by rw[h14];rfl)]
 exact⟨congrArg (λq:VoteT×Bool=>Value.bool q.2) e.symm,congrArg (λq:VoteT×Bool=>[ak vb (VoteT.cells q.1) 227]) e.symm⟩;refine PD 11 ?_;refine PD 12 ?_;refine PD 13 ?_;refine PD 14 ?_;refine FD 15 0 jJ bk ?_;refine tb 16 rfl (aM (vs:=ints v.view.flat) rfl eS rfl bk rfl (λ_ h=>h.2.1) (an v.view) (Dq v 0 rfl (by decide) (whole (an v.view)))) ?_;refine PD 17 ?_;refine AL 18 ?_;refine CE p4 (dI v.view who) ID ?_;refine bc ?_ ?_<;>intro h29;have hw:0≤who∧who<5:=by unfold iZ cN at h29;simp only[aw,decide_eq_true_eq]at h29;exact h29.1
 refine EN (PD 19 ?_);refine PD 20 ?_;refine DN (ac J3 (CN (qx J2 (aa λ_ J6=>D0 bm ?_))));refine PD 0 ?_;refine PD 1 ?_;refine FD 2 14 jJ aQ ?_;refine PD 4 ?_;refine ta 5 rfl (yI (r:=(de who)) rfl rfl rfl (by omega) rfl) ?_;refine AL 3 ?_;refine LU 3 Y3 (l4 v rfl) ?_;refine EN (ta 6 rfl (Jo (r:=(iS .i64 v.vowed (de who))) rfl rfl rfl rfl) ?_);refine PD 7 ?_;refine FD 8 14 jJ aQ ?_;refine AL 9 ?_;refine SS 3 aQ (nN _) (VoteT.set_vowed v rfl _) ?_;refine EN (DN (ac J6 (aa λ_ J7=>aa λ_ J8=>D2 1 3 bm ?_)));refine FD 0 0 kg aQ ?_;refine LR 1 Y3 (fk had rfl) ?_;refine PD 2 ?_;refine jc ?_ ?_<;>intro h43;refine PD 3 ?_;refine PD 4 ?_;refine PD 5 ?_;refine FD 6 12 jJ cz ?_;refine tb 7 rfl (aM (vs:=ints v.best.flat) rfl kg rfl cz rfl (λ_ h=>h.2.2.1) (ap v.best) (VoteT.sub_best (VoteT.mk v.view v.ballot v.change v.best (iS .i64 v.vowed (de who)) v.took v.putting) 0 rfl (by decide) (whole (ap v.best)))) ?_;refine LY 8 kg cz ap ?_;refine AL 9 ?_;refine CE KY (zl v.best had) ID ?_;refine bc ?_ ?_<;>intro h50;refine EN (PD 10 ?_);refine DN (ac J8 (CY (D2 1 0 bm ?_)));refine PD 0 ?_;refine PD 1 ?_;refine LY 2 kg cz ap ?_;refine LY 3 np fI aL ?_;refine PD 4 ?_;refine FD 5 12 jJ cz ?_;refine AL 6 ?_;refine SP 3 cz ap nN VoteT.wp_best ?_;refine EN (PD 7 ?_);refine FD 8 9 jJ fI ?_;refine AL 9 ?_;refine SP 3 fI aL nN VoteT.wp_change ?_
 refine EN (DN (ac J7 (aa λ_ J9=>fg (α:=Unit) (λ_=>True) (λ_u=>[(0,(.pointer (some ⟨vb,0,none⟩))),(10,(.bool false))]) (λ_u=>[ak b9 (ints ch.flat) 28,ak b8 (ints had.flat) 88,ak b7 (ints b.flat) 88,ak vb (VoteT.cells (VoteT.mk v.view v.ballot ch had (iS .i64 v.vowed (de who)) v.took (gN v.view (iS .i64 v.vowed (de who))))) 227]) (λ_u _=>?_) (λtl9=>?_))));refine ac J9 (sr λ_ J10=>P2 ?_);refine FA 16 jJ k9 ?_;refine LT 3 Y4 (.bool (gN v.view (iS .i64 v.vowed (de who)))) ?_ (hc:=by exact ml _ rfl);refine PS ?_;refine nx J10 (ai (WK [3] (av rfl rfl ?_)));have e:eW v who b had ch=((VoteT.mk v.view v.ballot ch had (iS .i64 v.vowed (de who)) v.took (gN v.view (iS .i64 v.vowed (de who)))),gN v.view (iS .i64 v.vowed (de who))):=by rw[eW,nQ,decide_eq_true (show b.flat=v.ballot.flat from Decidable.not_not.1 h21),h29,h14,if_neg (by decide),wg,decide_eq_true (show 0<had.round by omega),h50,if_pos (by decide)]
 exact⟨congrArg (λq:VoteT×Bool=>Value.bool q.2) e.symm,congrArg (λq:VoteT×Bool=>[ak vb (VoteT.cells q.1) 227]) e.symm⟩;refine D0 bm ?_;refine PD 0 ?_;refine PD 1 ?_;refine PD 2 ?_;refine FD 3 0 jJ bk ?_;refine PD 5 ?_;refine PD 6 ?_;refine FD 7 14 jJ aQ ?_;refine cT [4,8] (by kernel_rfl) rfl (aG rfl ?_ ?_);refine LV 3 eS bk an pD (y:=v.view) ?_;refine EN (AL 8 ?_);refine LT 3 Y3 (.int .i64 ((iS .i64 v.vowed (de who)))) ?_ (hc:=by exact l4 _ rfl);refine EN (AL 9 ?_);refine CE w3 (jx v.view (iS .i64 v.vowed (de who))) ID ?_;refine EN (PD 10 ?_);refine FD 11 16 jJ k9 ?_;refine AL 12 ?_;refine SS 3 k9 (nN _) (ll _ rfl _) ?_;refine EN (DN ?_)
 exact aF
  SB
  (λ_ s=>s)
  (tl9 (():Unit) trivial)
 refine aG rfl ?_ ?_;refine LT 3 Y3 (.int .i64 ((iS .i64 v.vowed (de who)))) ?_ (hc:=by exact l4 _ rfl);refine EN (AL 4 ?_);refine LV 3 eS bk an pD (y:=v.view) ?_;refine EN (AL 9 ?_);refine CE w3 (jx v.view (iS .i64 v.vowed (de who))) ID ?_;refine EN (PD 10 ?_);refine FD 11 16 jJ k9 ?_;refine AL 12 ?_;refine SS 3 k9 (nN _) (ll _ rfl _) ?_;refine EN (DN ?_)
 exact aF
  SB
  (λ_ s=>s)
  (tl9 (():Unit) trivial)
 exact bJ;refine EN (PD 10 ?_);refine DN (ac J8 (CN (qx J7 (aa λ_ J11=>fg (α:=Unit) (λ_=>True) (λ_u=>[(0,(.pointer (some ⟨vb,0,none⟩))),(10,(.bool false))]) (λ_u=>[ak b9 (ints ch.flat) 28,ak b8 (ints had.flat) 88,ak b7 (ints b.flat) 88,ak vb (VoteT.cells (VoteT.mk v.view v.ballot v.change v.best (iS .i64 v.vowed (de who)) v.took (gN v.view (iS .i64 v.vowed (de who))))) 227]) (λ_u _=>?_) (λtl11=>?_)))));refine ac J11 (sr λ_ J12=>P2 ?_);refine FA 16 jJ k9 ?_;refine LT 3 Y4 (.bool (gN v.view (iS .i64 v.vowed (de who)))) ?_ (hc:=by exact ml _ rfl);refine PS ?_;refine nx J12 (ai (WK [3] (av rfl rfl ?_)));have e:eW v who b had ch=((VoteT.mk v.view v.ballot v.change v.best (iS .i64 v.vowed (de who)) v.took (gN v.view (iS .i64 v.vowed (de who)))),gN v.view (iS .i64 v.vowed (de who))):=by rw[eW,nQ,decide_eq_true (show b.flat=v.ballot.flat from Decidable.not_not.1 h21),h29,h14,if_neg (by decide),wg,h50,mh,if_neg (by decide)]
 exact⟨congrArg (λq:VoteT×Bool=>Value.bool q.2) e.symm,congrArg (λq:VoteT×Bool=>[ak vb (VoteT.cells q.1) 227]) e.symm⟩;refine D0 bm ?_;refine PD 0 ?_;refine PD 1 ?_;refine PD 2 ?_;refine FD 3 0 jJ bk ?_;refine PD 5 ?_;refine PD 6 ?_;refine FD 7 14 jJ aQ ?_;refine cT [4,8] (by kernel_rfl) rfl (aG rfl ?_ ?_);refine LV 3 eS bk an pD (y:=v.view) ?_;refine EN (AL 8 ?_);refine LT 3 Y3 (.int .i64 ((iS .i64 v.vowed (de who)))) ?_ (hc:=by exact l4 _ rfl);refine EN (AL 9 ?_);refine CE w3 (jx v.view (iS .i64 v.vowed (de who))) ID ?_;refine EN (PD 10 ?_);refine FD 11 16 jJ k9 ?_;refine AL 12 ?_;refine SS 3 k9 (nN _) (ll _ rfl _) ?_;refine EN (DN ?_)
 exact aF
  SB
  (λ_ s=>s)
  (tl11 (():Unit) trivial)
 refine aG rfl ?_ ?_;refine LT 3 Y3 (.int .i64 ((iS .i64 v.vowed (de who)))) ?_ (hc:=by exact l4 _ rfl);refine EN (AL 4 ?_);refine LV 3 eS bk an pD (y:=v.view) ?_;refine EN (AL 9 ?_);refine CE w3 (jx v.view (iS .i64 v.vowed (de who))) ID ?_;refine EN (PD 10 ?_);refine FD 11 16 jJ k9 ?_;refine AL 12 ?_;refine SS 3 k9 (nN _) (ll _ rfl _) ?_;refine EN (DN ?_)
 exact aF
  SB
  (λ_ s=>s)
  (tl11 (():Unit) trivial)
 exact bJ;refine PD 3 ?_;refine NT 4 ?_;refine NT 5 ?_;refine NT 6 ?_;refine NT 7 ?_;refine NT 8 ?_;refine NT 9 ?_;refine PD 10 ?_;refine DN (ac J8 (CN (qx J7 (aa λ_ J13=>fg (α:=Unit) (λ_=>True) (λ_u=>[(0,(.pointer (some ⟨vb,0,none⟩))),(10,(.bool false))]) (λ_u=>[ak b9 (ints ch.flat) 28,ak b8 (ints had.flat) 88,ak b7 (ints b.flat) 88,ak vb (VoteT.cells (VoteT.mk v.view v.ballot v.change v.best (iS .i64 v.vowed (de who)) v.took (gN v.view (iS .i64 v.vowed (de who))))) 227]) (λ_u _=>?_) (λtl13=>?_)))));refine ac J13 (sr λ_ J14=>P2 ?_);refine FA 16 jJ k9 ?_;refine LT 3 Y4 (.bool (gN v.view (iS .i64 v.vowed (de who)))) ?_ (hc:=by exact ml _ rfl);refine PS ?_;refine nx J14 (ai (WK [3] (av rfl rfl ?_)));have e:eW v who b had ch=((VoteT.mk v.view v.ballot v.change v.best (iS .i64 v.vowed (de who)) v.took (gN v.view (iS .i64 v.vowed (de who)))),gN v.view (iS .i64 v.vowed (de who))):=by rw[eW,nQ,decide_eq_true (show b.flat=v.ballot.flat from Decidable.not_not.1 h21),h29,h14,if_neg (by decide),wg,decide_eq_false (show ¬0<had.round by omega),gS,if_neg (by decide)]
 exact⟨congrArg (λq:VoteT×Bool=>Value.bool q.2) e.symm,congrArg (λq:VoteT×Bool=>[ak vb (VoteT.cells q.1) 227]) e.symm⟩;refine D0 bm ?_;refine PD 0 ?_;refine PD 1 ?_;refine PD 2 ?_;refine FD 3 0 jJ bk ?_;refine PD 5 ?_;refine PD 6 ?_;refine FD 7 14 jJ aQ ?_;refine cT [4,8] (by kernel_rfl) rfl (aG rfl ?_ ?_);refine LV 3 eS bk an pD (y:=v.view) ?_;refine EN (AL 8 ?_);refine LT 3 Y3 (.int .i64 ((iS .i64 v.vowed (de who)))) ?_ (hc:=by exact l4 _ rfl);refine EN (AL 9 ?_);refine CE w3 (jx v.view (iS .i64 v.vowed (de who))) ID ?_;refine EN (PD 10 ?_);refine FD 11 16 jJ k9 ?_;refine AL 12 ?_;refine SS 3 k9 (nN _) (ll _ rfl _) ?_;refine EN (DN ?_)
 exact aF
  SB
  (λ_ s=>s)
  (tl13 (():Unit) trivial)
 refine aG rfl ?_ ?_;refine LT 3 Y3 (.int .i64 ((iS .i64 v.vowed (de who)))) ?_ (hc:=by exact l4 _ rfl);refine EN (AL 4 ?_);refine LV 3 eS bk an pD (y:=v.view) ?_;refine EN (AL 9 ?_);refine CE w3 (jx v.view (iS .i64 v.vowed (de who))) ID ?_;refine EN (PD 10 ?_);refine FD 11 16 jJ k9 ?_;refine AL 12 ?_;refine SS 3 k9 (nN _) (ll _ rfl _) ?_;refine EN (DN ?_)
 exact aF
  SB
  (λ_ s=>s)
  (tl13 (():Unit) trivial)
 exact bJ;refine EN (PD 19 ?_);refine PD 20 ?_;refine DN (ac J3 (CY (sr λ_ J15=>PS ?_)));refine nx J15 (ai (af (WK [3] (av rfl rfl ?_))));have e:eW v who b had ch=(v,false):=by rw[eW,nQ,h29,if_pos (by rw[h14,mh];rfl)]
 exact⟨congrArg (λq:VoteT×Bool=>Value.bool q.2) e.symm,congrArg (λq:VoteT×Bool=>[ak vb (VoteT.cells q.1) 227]) e.symm⟩
theorem DW(vb:Nat)(v:VoteT)(who:Int)(b:BallotT)(hb:WF b.flat)(hvb:WF v.ballot.flat):
 DT 173 #[(.pointer (some ⟨vb,0,none⟩)),(.int .i64 (who)),(.agg (ints b.flat).toArray)] T0 [ak vb (VoteT.cells v) 227] (RI (.bool (gC v who b).2) [ak vb (VoteT.cells (gC v who b).1) 227]):=by
 refine BD 47 Tryz.func173 rfl rfl rfl λw0 F hF=>sr λ_ J1=>XY (ints b.flat) λb5=>?_
 refine PS ?_;refine nx J1 (aa λ_ J2=>aa λ_ J3=>D2 1 0 bm ?_);refine PD 0 ?_;refine PD 1 ?_;refine FD 2 16 jJ k9 ?_;refine LR 3 Y4 (ml v rfl) ?_;refine oA ?_ ?_<;>intro h10;refine PD 4 ?_;refine PD 5 ?_;refine LY 6 kg cz ap ?_;refine PD 7 ?_;refine PD 8 ?_;refine FD 9 7 jJ cz ?_;refine tb 10 rfl (aM (vs:=ints v.ballot.flat) rfl kg rfl cz rfl (λ_ h=>h.2.1) (ap v.ballot) (KH v 0 rfl (by decide) (whole (ap v.ballot)))) ?_;refine tb 11 rfl (KJ (a:=b.flat) (b:=v.ballot.flat) (m:=6) (c:=2) L0 LQ rfl Mt (dq (ap b)) (dq (ap v.ballot)) ⟨fS Hn Hu (dq (ap b)),fS Hn Hu (dq (ap v.ballot))⟩ hb hvb rfl rfl rfl) ?_;refine jc ?_ ?_<;>intro h18;refine PD 12 ?_;refine PD 13 ?_;refine NT 14 ?_;refine NT 15 ?_;refine NT 16 ?_;refine NT 17 ?_;refine NT 18 ?_;refine NT 19 ?_;refine NT 20 ?_;refine PD 21 ?_;refine DN (ac J3 (CY (sr λ_ J4=>PS ?_)));refine nx J4 (ai (af (WK [1] (av rfl rfl ?_))));have e:gC v who b=(v,false):=by rw[gC,nQ,decide_eq_false h18,if_pos (by rw[h10];rfl)]
 exact⟨congrArg (λq:VoteT×Bool=>Value.bool q.2) e.symm,congrArg (λq:VoteT×Bool=>[ak vb (VoteT.cells q.1) 227]) e.symm⟩;refine PD 12 ?_;refine PD 13 ?_;refine PD 14 ?_;refine PD 15 ?_;refine FD 16 0 jJ bk ?_;refine tb 17 rfl (aM (vs:=ints v.view.flat) rfl eS rfl bk rfl (λ_ h=>h.2.1) (an v.view) (Dq v 0 rfl (by decide) (whole (an v.view)))) ?_;refine PD 18 ?_;refine AL 19 ?_;refine CE p4 (dI v.view who) ID ?_;refine bc ?_ ?_<;>intro h26;have hw:0≤who∧who<5:=by unfold iZ cN at h26;simp only[aw,decide_eq_true_eq]at h26;exact h26.1
 refine EN (PD 20 ?_);refine PD 21 ?_;refine DN (ac J3 (CN (qx J2 (aa λ_ J5=>D0 bm ?_))));refine PD 0 ?_;refine PD 1 ?_;refine FD 2 15 jJ aQ ?_;refine PD 4 ?_;refine ta 5 rfl (yI (r:=(de who)) rfl rfl rfl (by omega) rfl) ?_;refine AL 3 ?_;refine LU 1 Y3 (VoteT.at_took v rfl) ?_;refine EN (ta 6 rfl (Jo (r:=(iS .i64 v.took (de who))) rfl rfl rfl rfl) ?_);refine PD 7 ?_;refine FD 8 15 jJ aQ ?_;refine AL 9 ?_;refine SS 1 aQ (nN _) (VoteT.set_took v rfl _) ?_;refine EN (DN (ac J5 (aa λ_ J6=>D1 1 bm ?_)));refine PD 0 ?_;refine PD 1 ?_;refine FD 2 0 jJ bk ?_;refine ta 3 rfl (aM (vs:=ints v.view.flat) rfl eS rfl bk rfl (λ_ h=>h.2.1) (an v.view) (Dq (VoteT.mk v.view v.ballot v.change v.best v.vowed (iS .i64 v.took (de who)) v.putting) 0 rfl (by decide) (whole (an v.view)))) ?_;refine PD 4 ?_;refine PD 5 ?_;refine FD 6 15 jJ aQ ?_;refine LX 7 Y3 (.int .i64 ((iS .i64 v.took (de who)))) ?_ (hc:=by exact VoteT.at_took _ rfl);refine AL 8 ?_;refine CE w3 (jx v.view (iS .i64 v.took (de who))) ID ?_;refine EN (PD 9 ?_);refine DN (ac J6 (ai (WK [1] (av rfl rfl ?_))));have e:gC v who b=((VoteT.mk v.view v.ballot v.change v.best v.vowed (iS .i64 v.took (de who)) v.putting),gN v.view (iS .i64 v.took (de who))):=by rw[gC,nQ,decide_eq_true (show b.flat=v.ballot.flat from Decidable.not_not.1 h18),h26,h10,if_neg (by decide)]
 exact⟨congrArg (λq:VoteT×Bool=>Value.bool q.2) e.symm,congrArg (λq:VoteT×Bool=>[ak vb (VoteT.cells q.1) 227]) e.symm⟩;refine EN (PD 20 ?_);refine PD 21 ?_;refine DN (ac J3 (CY (sr λ_ J7=>PS ?_)));refine nx J7 (ai (af (WK [1] (av rfl rfl ?_))));have e:gC v who b=(v,false):=by rw[gC,nQ,h26,if_pos (by rw[h10,mh];rfl)]
 exact⟨congrArg (λq:VoteT×Bool=>Value.bool q.2) e.symm,congrArg (λq:VoteT×Bool=>[ak vb (VoteT.cells q.1) 227]) e.symm⟩;refine PD 4 ?_;refine PD 5 ?_;refine NT 6 ?_;refine NT 7 ?_;refine NT 8 ?_;refine NT 9 ?_;refine NT 10 ?_;refine NT 11 ?_;refine PD 12 ?_;refine PD 13 ?_;refine NT 14 ?_;refine NT 15 ?_;refine NT 16 ?_;refine NT 17 ?_;refine NT 18 ?_;refine NT 19 ?_;refine NT 20 ?_;refine PD 21 ?_;refine DN (ac J3 (CY (sr λ_ J8=>PS ?_)));refine nx J8 (ai (af (WK [1] (av rfl rfl ?_))));have e:gC v who b=(v,false):=by rw[gC,h10,if_pos (by rfl)]
 exact⟨congrArg (λq:VoteT×Bool=>Value.bool q.2) e.symm,congrArg (λq:VoteT×Bool=>[ak vb (VoteT.cells q.1) 227]) e.symm⟩
theorem Ba{δ:Type}(V:Env δ)(r vb:Nat)(s:MS δ)(vt:VoteT)(hv:s.vote=some vt)[OkR V.toDk s]:
 DT 174 #[(.pointer (some ⟨r,0,none⟩)),(.iface V.T V.ov)] T0 [vM V r s (.pointer (some ⟨vb,0,none⟩)),ak vb (VoteT.cells vt) 227] (dz (λ_ H=>H=[cJ V r (ke V.toDk s vt.change)])):=by
 refine BD 32 Tryz.func174 rfl rfl rfl λw0 F hF=>aa λ_ J1=>fg (α:=(Nat)) (λ_=>True) (λb4=>[(0,(.pointer (some ⟨r,0,none⟩))),(1,(.iface V.T V.ov)),(4,(.pointer (some ⟨b4,0,none⟩))),(5,(.int .i64 ((dY s.view vt.change).2)))]) (λb4=>[ak b4 (ints ((dY s.view vt.change).1).flat) 44,ak vb (VoteT.cells vt) 227,vM V r s (.pointer (some ⟨vb,0,none⟩))]) (λb4 _=>?_) (λtl1=>?_)
 refine ac J1 (aa λ_ J2=>sr λ_ J3=>cA (H':=cJ V r s::[ak b4 (ints ((dY s.view vt.change).1).flat) 44]) (λ_ q=>om hv (aC [2,1] rfl q)) (P2 ?_));refine ao ?_ ?_<;>intro h20;refine PS ?_
 iterate 5 refine UT ?_
 refine PS ?_;refine nx J3 (CY (ai (af (WK [0] (dP rfl ?_)))));exact MQ (by rw[ke,if_pos h20]);refine P3 ?_;refine LW 1 eS bk an ?_;refine CE Iu (uT V r s ((dY s.view vt.change).1)) ID ?_;refine bc ?_ ?_<;>intro h25;refine PS ?_;refine PS ?_;refine nx J3 (CN (qx J2 (ae (P2 ?_))));refine LW 1 eS bk an ?_;refine CZ IF (m4 V r (gX V.toDk s ((dY s.view vt.change).1)) ((dY s.view vt.change).1)) ID λvR=>?_
 refine au (WK [0] (bD rfl ?_));exact MQ (by rw[ke,if_neg h20,h25,if_pos rfl]);refine PS ?_;refine PS ?_;refine nx J3 (CY (ai (af (WK [0] (dP rfl ?_)))));exact MQ (by rw[ke,if_neg h20,h25,if_neg (by decide)]);refine D1 1 bm ?_;refine PD 0 ?_;refine PD 1 ?_;refine FD 2 2 bn bk ?_;refine PD 4 ?_;refine PD 5 ?_;refine FD 6 1067 bn jo ?_;refine cT [3,7,13] (by kernel_rfl) rfl (aG rfl ?_ ?_);refine LZ 0 eS bk an s.view ?_ (hc:=by exact λ_=>cX _);refine EN (cT [7,13] (by kernel_rfl) rfl (aG rfl ?_ ?_));refine LG 0 iT (.pointer (some ⟨vb,0,none⟩)) ?_ (hc:=by exact λa_=>(bT _ rfl));refine EN (cT [8,13] (by kernel_rfl) rfl (aG rfl ?_ ?_));refine CE oj (dh vb vt) (SM [1]) ?_;refine EN (cT [9,13] (by kernel_rfl) rfl (aG rfl ?_ ?_));refine CE nb (dy s.view vt.change OkVw.rng) ID ?_;refine EN (PD 10 ?_);refine PD 11 ?_;refine PD 12 ?_;refine AL 13 ?_;refine XZ r9 (ints ViewT.zero.flat) λb4=>?_
 refine EN (AL 14 ?_);refine SW 0 bk an ?_;refine EN (PD 15 ?_);refine DN ?_
 exact aF
  SB
  (λ_ s=>s)
  (tl1 ((b4):(Nat)) trivial)
 refine aG rfl ?_ ?_;refine XZ r9 (ints ViewT.zero.flat) λb4=>?_
 refine EN (AL 9 ?_);refine CE nb (dy s.view vt.change OkVw.rng) ID ?_;refine EN (PD 10 ?_);refine PD 11 ?_;refine PD 12 ?_;refine AL 14 ?_;refine SW 0 bk an ?_;refine EN (PD 15 ?_);refine DN ?_
 exact aF
  SB
  (λ_ s=>s)
  (tl1 ((b4):(Nat)) trivial)
 exact bJ;refine aG rfl ?_ ?_;refine XZ r9 (ints ViewT.zero.flat) λb4=>?_
 refine EN (AL 8 ?_);refine CE oj (dh vb vt) (SM [2]) ?_;refine EN (AL 9 ?_);refine CE nb (dy s.view vt.change OkVw.rng) ID ?_;refine EN (PD 10 ?_);refine PD 11 ?_;refine PD 12 ?_;refine AL 14 ?_;refine SW 1 bk an ?_;refine EN (PD 15 ?_);refine DN ?_
 exact aF
  SB
  (λ_ s=>am [1,0,0] rfl s)
  (tl1 ((b4):(Nat)) trivial)
 exact bJ;refine aG rfl ?_ ?_;refine XZ r9 (ints ViewT.zero.flat) λb4=>?_
 refine EN (AL 7 ?_);refine LG 1 iT (.pointer (some ⟨vb,0,none⟩)) ?_ (hc:=by exact λa_=>(bT _ rfl));refine EN (AL 8 ?_);refine CE oj (dh vb vt) (SM [2]) ?_;refine EN (AL 9 ?_);refine CE nb (dy s.view vt.change OkVw.rng) ID ?_;refine EN (PD 10 ?_);refine PD 11 ?_;refine PD 12 ?_;refine AL 14 ?_;refine SW 1 bk an ?_;refine EN (PD 15 ?_);refine DN ?_
 exact aF
  SB
  (λ_ s=>am [1,0,0] rfl s)
  (tl1 ((b4):(Nat)) trivial)
 exact bJ;refine aG rfl ?_ ?_;refine LG 0 iT (.pointer (some ⟨vb,0,none⟩)) ?_ (hc:=by exact λa_=>(bT _ rfl));refine EN (cT [3,8,13] (by kernel_rfl) rfl (aG rfl ?_ ?_));refine LZ 0 eS bk an s.view ?_ (hc:=by exact λ_=>cX _);refine EN (cT [8,13] (by kernel_rfl) rfl (aG rfl ?_ ?_));refine CE oj (dh vb vt) (SM [1]) ?_;refine EN (cT [9,13] (by kernel_rfl) rfl (aG rfl ?_ ?_));refine CE nb (dy s.view vt.change OkVw.rng) ID ?_;refine EN (PD 10 ?_);refine PD 11 ?_;refine PD 12 ?_;refine AL 13 ?_;refine XZ r9 (ints ViewT.zero.flat) λb4=>?_
 refine EN (AL 14 ?_);refine SW 0 bk an ?_;refine EN (PD 15 ?_);refine DN ?_
 exact aF
  SB
  (λ_ s=>s)
  (tl1 ((b4):(Nat)) trivial)
 refine aG rfl ?_ ?_;refine XZ r9 (ints ViewT.zero.flat) λb4=>?_
 refine EN (AL 9 ?_);refine CE nb (dy s.view vt.change OkVw.rng) ID ?_;refine EN (PD 10 ?_);refine PD 11 ?_;refine PD 12 ?_;refine AL 14 ?_;refine SW 0 bk an ?_;refine EN (PD 15 ?_);refine DN ?_
 exact aF
  SB
  (λ_ s=>s)
  (tl1 ((b4):(Nat)) trivial)
 exact bJ;refine aG rfl ?_ ?_;refine XZ r9 (ints ViewT.zero.flat) λb4=>?_
 refine EN (AL 8 ?_);refine CE oj (dh vb vt) (SM [2]) ?_;refine EN (AL 9 ?_);refine CE nb (dy s.view vt.change OkVw.rng) ID ?_;refine EN (PD 10 ?_);refine PD 11 ?_;refine PD 12 ?_;refine AL 14 ?_;refine SW 1 bk an ?_;refine EN (PD 15 ?_);refine DN ?_
 exact aF
  SB
  (λ_ s=>am [1,0,0] rfl s)
  (tl1 ((b4):(Nat)) trivial)
 exact bJ;refine aG rfl ?_ ?_;refine CE oj (dh vb vt) (SM [1]) ?_;refine EN (cT [3,13] (by kernel_rfl) rfl (aG rfl ?_ ?_));refine LZ 1 eS bk an s.view ?_ (hc:=by exact λ_=>cX _);refine EN (cT [9,13] (by kernel_rfl) rfl (aG rfl ?_ ?_));refine CE nb (dy s.view vt.change OkVw.rng) ID ?_;refine EN (PD 10 ?_);refine PD 11 ?_;refine PD 12 ?_;refine AL 13 ?_;refine XZ r9 (ints ViewT.zero.flat) λb4=>?_
 refine EN (AL 14 ?_);refine SW 0 bk an ?_;refine EN (PD 15 ?_);refine DN ?_
 exact aF
  SB
  (λ_ s=>s)
  (tl1 ((b4):(Nat)) trivial)
 refine aG rfl ?_ ?_;refine XZ r9 (ints ViewT.zero.flat) λb4=>?_
 refine EN (AL 9 ?_);refine CE nb (dy s.view vt.change OkVw.rng) ID ?_;refine EN (PD 10 ?_);refine PD 11 ?_;refine PD 12 ?_;refine AL 14 ?_;refine SW 0 bk an ?_;refine EN (PD 15 ?_);refine DN ?_
 exact aF
  SB
  (λ_ s=>s)
  (tl1 ((b4):(Nat)) trivial)
 exact bJ;refine aG rfl ?_ ?_;refine XZ r9 (ints ViewT.zero.flat) λb4=>?_
 refine EN (AL 3 ?_);refine LZ 2 eS bk an s.view ?_ (hc:=by exact λ_=>cX _);refine EN (AL 9 ?_);refine CE nb (dy s.view vt.change OkVw.rng) ID ?_;refine EN (PD 10 ?_);refine PD 11 ?_;refine PD 12 ?_;refine AL 14 ?_;refine SW 0 bk an ?_;refine EN (PD 15 ?_);refine DN ?_
 exact aF
  SB
  (λ_ s=>s)
  (tl1 ((b4):(Nat)) trivial)
 exact bJ;refine aG rfl ?_ ?_;refine XZ r9 (ints ViewT.zero.flat) λb4=>?_
 refine EN (cT [3,8] (by kernel_rfl) rfl (aG rfl ?_ ?_));refine LZ 1 eS bk an s.view ?_ (hc:=by exact λ_=>cX _);refine EN (AL 8 ?_);refine CE oj (dh vb vt) (SM [2]) ?_;refine EN (AL 9 ?_);refine CE nb (dy s.view vt.change OkVw.rng) ID ?_;refine EN (PD 10 ?_);refine PD 11 ?_;refine PD 12 ?_;refine AL 14 ?_;refine SW 1 bk an ?_;refine EN (PD 15 ?_);refine DN ?_
 exact aF
  SB
  (λ_ s=>am [1,0,0] rfl s)
  (tl1 ((b4):(Nat)) trivial)
 refine aG rfl ?_ ?_;refine CE oj (dh vb vt) (SM [2]) ?_;refine EN (AL 3 ?_);refine LZ 2 eS bk an s.view ?_ (hc:=by exact λ_=>cX _);refine EN (AL 9 ?_);refine CE nb (dy s.view vt.change OkVw.rng) ID ?_;refine EN (PD 10 ?_);refine PD 11 ?_;refine PD 12 ?_;refine AL 14 ?_;refine SW 1 bk an ?_;refine EN (PD 15 ?_);refine DN ?_
 exact aF
  SB
  (λ_ s=>am [1,0,0] rfl s)
  (tl1 ((b4):(Nat)) trivial)
 exact bJ;exact bJ;refine aG rfl ?_ ?_;refine XZ r9 (ints ViewT.zero.flat) λb4=>?_
 refine EN (cT [3,7] (by kernel_rfl) rfl (aG rfl ?_ ?_));refine LZ 1 eS bk an s.view ?_ (hc:=by exact λ_=>cX _);refine EN (AL 7 ?_);refine LG 1 iT (.pointer (some ⟨vb,0,none⟩)) ?_ (hc:=by exact λa_=>(bT _ rfl));refine EN (AL 8 ?_);refine CE oj (dh vb vt) (SM [2]) ?_;refine EN (AL 9 ?_);refine CE nb (dy s.view vt.change OkVw.rng) ID ?_;refine EN (PD 10 ?_);refine PD 11 ?_;refine PD 12 ?_;refine AL 14 ?_;refine SW 1 bk an ?_;refine EN (PD 15 ?_);refine DN ?_
 exact aF
  SB
  (λ_ s=>am [1,0,0] rfl s)
  (tl1 ((b4):(Nat)) trivial)
 refine aG rfl ?_ ?_;refine LG 1 iT (.pointer (some ⟨vb,0,none⟩)) ?_ (hc:=by exact λa_=>(bT _ rfl));refine EN (cT [3,8] (by kernel_rfl) rfl (aG rfl ?_ ?_));refine LZ 1 eS bk an s.view ?_ (hc:=by exact λ_=>cX _);refine EN (AL 8 ?_);refine CE oj (dh vb vt) (SM [2]) ?_;refine EN (AL 9 ?_);refine CE nb (dy s.view vt.change OkVw.rng) ID ?_;refine EN (PD 10 ?_);refine PD 11 ?_;refine PD 12 ?_;refine AL 14 ?_;refine SW 1 bk an ?_;refine EN (PD 15 ?_);refine DN ?_
 exact aF
  SB
  (λ_ s=>am [1,0,0] rfl s)
  (tl1 ((b4):(Nat)) trivial)
 refine aG rfl ?_ ?_;refine CE oj (dh vb vt) (SM [2]) ?_;refine EN (AL 3 ?_);refine LZ 2 eS bk an s.view ?_ (hc:=by exact λ_=>cX _);refine EN (AL 9 ?_);refine CE nb (dy s.view vt.change OkVw.rng) ID ?_;refine EN (PD 10 ?_);refine PD 11 ?_;refine PD 12 ?_;refine AL 14 ?_;refine SW 1 bk an ?_;refine EN (PD 15 ?_);refine DN ?_
 exact aF
  SB
  (λ_ s=>am [1,0,0] rfl s)
  (tl1 ((b4):(Nat)) trivial)
 exact bJ;exact bJ;exact bJ
theorem A9{δ:Type}(V:Env δ)(r:Nat)(s:MS δ)(vt:VoteT)(hv:s.vote=some vt)[OkR V.toDk s]:DT 174 #[.pointer (some ⟨r,0,none⟩), .iface V.T V.ov] T0 [cJ V r s] (dz (λ_ H=>H=[cJ V r (ke V.toDk s vt.change)])):=
 Leg.Does.ex (λ_ q=>nc hv q) λvb=>Ba V r vb s vt hv
theorem oo{δ:Type}{V:Env δ}{r:Nat}{s:MS δ}{H:List HP}{h:Hl}(hv:s.vote=none)(q:bG (vM V r s (.pointer none)::H) h):bG (cJ V r s::H) h:=by
 have q2:=Cq q
 rwa [show({s with vote:=none}:MS δ)=s by cases s;simp_all]at q2
theorem kH{δ:Type}(V:Env δ)(r:Nat)(s:MS δ)(f:MS δ→MS δ)(from':Int)(m:MsgT)[OkR V.toDk s][OkMg m](hfe:from'=s.id→m.epoch=s.view.epoch)(h3:m.kind=3→m.epoch=s.view.epoch→TK V r 170 (du s (max s.round m.ballot.round)) from' m (f (du s (max s.round m.ballot.round))))(h5:m.kind=5→m.epoch=s.view.epoch→TK V r 171 (du s (max s.round m.ballot.round)) from' m (f (du s (max s.round m.ballot.round))))(hn:m.kind≠3∧m.kind≠5→f (du s (max s.round m.ballot.round))=(du s (max s.round m.ballot.round)))(hv:m.kind=4∨m.kind=6→s.vote=none):
 DT 148 #[(.pointer (some ⟨r,0,none⟩)),(.iface V.T V.ov),(.int .i64 (from')),(.agg (ints m.flat).toArray)] T0 [cJ V r s] (dz (λ_ H=>H=[cJ V r (eI V.toDk f s from' m)])):=by
 refine BD 124 Tryz.func148 rfl rfl rfl λw0 F hF=>sr λ_ J1=>XY (ints m.flat) λb7=>?_
 refine nx J1 (aa λ_ J2=>aa λ_ J3=>DC bm (BL 0) (cZ 1 rfl rfl) ?_);refine FD 0 177 bf aQ ?_;refine LR 1 Y3 (eO m rfl) ?_;refine PD 2 ?_;refine PD 3 ?_;refine FD 4 2 bn bk ?_;refine FD 5 2 eS aQ ?_;refine ta 6 rfl (dm (v:=(.int .i64 (s.view.epoch))) rfl Y3 rfl rfl (λ_ h=>h.2.2.1) (λa_=>(cf (s.rep a_) 0 rfl (by decide) (bi _ rfl)))) ?_;refine PD 7 ?_;refine jc ?_ ?_<;>intro h15;refine DN (ac J3 (CY (aa λ_ J4=>sr λ_ J5=>FA 0 bf aQ ?_)));refine LU 0 Y3 (eX m rfl) ?_;refine PS ?_;refine ao ?_ ?_<;>intro h18;refine PS ?_
 iterate 3 refine UT ?_
 refine PS ?_;refine nx J5 (CY (ae ?_))
 iterate 5 refine PS ?_
 refine FA 2 bn bk ?_;refine LZ 1 eS bk an s.view ?_ (hc:=by exact λ_=>cX _);refine tp (lm MsgT.zero (MsgT.mk 7 0 RowT.zero 0 0 BallotT.zero BallotT.zero ChangeT.zero s.view) [(0,[Value.int .i64 7]),(8,ints s.view.flat)] bf bv (g:=MsgT.sg)) ?_;refine CZ jq (jE V r s from' (jB s.view) (λe=>absurd (hfe e) (by omega))) (SM [1]) λvR=>?_
 refine nx J4 (ai (af (WK [0] (dP rfl ?_))));exact congrArg (λq=>[cJ V r q]) (show(gW V.toDk s ([SaidT.mk from' (jB s.view)]))=eI V.toDk f s from' m by rw[eI,if_pos h15,if_pos (.inl h18)];rfl);refine PS ?_;refine FA 0 bf aQ ?_;refine LU 0 Y3 (eX m rfl) ?_;refine PS ?_;refine ao ?_ ?_<;>intro h22;refine PS ?_;refine nx J5 (CY (ae ?_))
 iterate 5 refine PS ?_
 refine FA 2 bn bk ?_;refine LZ 1 eS bk an s.view ?_ (hc:=by exact λ_=>cX _);refine tp (lm MsgT.zero (MsgT.mk 7 0 RowT.zero 0 0 BallotT.zero BallotT.zero ChangeT.zero s.view) [(0,[Value.int .i64 7]),(8,ints s.view.flat)] bf bv (g:=MsgT.sg)) ?_;refine CZ jq (jE V r s from' (jB s.view) (λe=>absurd (hfe e) (by omega))) (SM [1]) λvR=>?_
 refine nx J4 (ai (af (WK [0] (dP rfl ?_))));exact congrArg (λq=>[cJ V r q]) (show(gW V.toDk s ([SaidT.mk from' (jB s.view)]))=eI V.toDk f s from' m by rw[eI,if_pos h15,if_pos (.inr h22)];rfl);refine PS ?_;refine nx J5 (CN (qx J4 (ai (af (WK [1] (dP rfl ?_))))));exact congrArg (λq=>[cJ V r q]) (show s=eI V.toDk f s from' m by rw[eI,if_pos h15,if_neg (by omega)]);refine DN (ac J3 (CN (qx J2 (aa λ_ J6=>aa λ_ J7=>DC bm (BL 0) (cZ 1 rfl rfl) ?_))));refine FD 0 177 bf aQ ?_;refine LR 1 Y3 (eO m rfl) ?_;refine PD 2 ?_;refine PD 3 ?_;refine FD 4 2 bn bk ?_;refine FD 5 2 eS aQ ?_;refine ta 6 rfl (dm (v:=(.int .i64 (s.view.epoch))) rfl Y3 rfl rfl (λ_ h=>h.2.2.1) (λa_=>(cf (s.rep a_) 0 rfl (by decide) (bi _ rfl)))) ?_;refine PD 7 ?_;refine jc ?_ ?_<;>intro h40;refine PD 8 ?_;refine NT 9 ?_;refine NT 10 ?_;refine NT 11 ?_;refine NT 12 ?_;refine NT 13 ?_;refine NT 14 ?_;refine NT 15 ?_;refine NT 16 ?_;refine NT 17 ?_;refine NT 18 ?_;refine PD 19 ?_;refine DN (ac J7 (CY (ai (af (WK [1] (dP rfl ?_))))));exact congrArg (λq=>[cJ V r q]) (show s=eI V.toDk f s from' m by rw[eI,if_neg h15,if_pos (.inl (by omega))]);refine PD 8 ?_;refine PD 9 ?_;refine PD 10 ?_;refine FD 11 2 bn bk ?_;refine tb 12 rfl (gh (vs:=ints s.view.flat) rfl eS rfl bk rfl (λ_ h=>h.2.2.1) (an s.view) (λa_=>(fW (s.rep a_) 0 rfl (by decide) (whole (an ((s.rep a_).view)))))) ?_;refine PD 13 ?_;refine PD 14 ?_;refine FD 15 0 bn aQ ?_
 refine tb 16 rfl (dm (v:=(.int .i64 (s.id))) rfl Y3 rfl rfl (λ_ h=>h.2.2.1) (λa_=>(cE _ rfl))) ?_;refine AL 17 ?_;refine CE p4 (dI s.view s.id) ID ?_;refine bc ?_ ?_<;>intro h50;refine EN (PD 18 ?_);refine PD 19 ?_;refine DN (ac J7 (CN (qx J6 (aa λ_ J8=>D1 0 bm ?_))));refine PD 0 ?_;refine PD 1 ?_;refine PD 2 ?_;refine FD 3 1066 bn aQ ?_;refine FD 5 178 bf cz ?_;refine FD 6 178 kg aQ ?_;refine LX 7 Y3 (.int .i64 (m.ballot.round)) ?_ (hc:=by exact MsgT.pt_ballot m 0 rfl (by decide) (fk m.ballot rfl));refine AL 4 ?_;refine LG 1 Y3 (.int .i64 (s.round)) ?_ (hc:=by exact λa_=>(vw _ rfl));refine EN (ta 8 rfl (yK rfl rfl rfl) ?_);refine PD 9 ?_;refine FD 10 1066 bn aQ ?_;refine AL 11 ?_;refine SK 1 aQ (λ_=>cY _) ?_ (hc:=by exact λa_=>(l7 _ rfl _));refine EN (DN (ac J8 (sr λ_ J9=>FA 0 bf aQ ?_)));refine LU 0 Y3 (eX m rfl) ?_;refine nx J9 (aq (sr λ_ J10=>PS ?_));refine ao ?_ ?_<;>intro h67;refine PS ?_;refine nx J10 (CY (ae (P3 ?_)));refine LW 0 bf cb aI ?_;refine CZ Nu ((h3 (by omega) (by omega))) (SM [1]) λvR=>?_
 refine au (ag (WK [0] (bD rfl ?_)));exact congrArg (λq=>[cJ V r q]) (show(f (du s (max s.round m.ballot.round)))=eI V.toDk f s from' m by rw[eI,if_neg h15,if_neg (λh=>h.elim (λh=>absurd h (by omega)) (λh=>by rw[h50]at h;cases h))]);refine PS ?_;refine nx J10 (CN (sr λ_ J11=>PS ?_));refine ao ?_ ?_<;>intro h74;refine PS ?_;refine nx J11 (CY (ae (P3 ?_)));refine LW 0 bf cb aI ?_;refine CZ Nt ((h5 (by omega) (by omega))) (SM [1]) λvR=>?_
 refine au (ag (WK [0] (bD rfl ?_)));exact congrArg (λq=>[cJ V r q]) (show(f (du s (max s.round m.ballot.round)))=eI V.toDk f s from' m by rw[eI,if_neg h15,if_neg (λh=>h.elim (λh=>absurd h (by omega)) (λh=>by rw[h50]at h;cases h))]);refine PS ?_;refine nx J11 (CN (sr λ_ J12=>PS ?_));refine ao ?_ ?_<;>intro h81;refine cA (H':=vM V r (du s (max s.round m.ballot.round)) (.pointer none)::[ak b7 (ints m.flat) 178]) (λ_ q=>sW (hv (by omega)) (aC [1] rfl q)) (PS ?_);refine nx J12 (CY (aa λ_ J13=>DC bm (cZ 0 rfl rfl) (BL 1) ?_));refine PD 0 ?_;refine PD 1 ?_;refine FD 2 1067 bn jo ?_;refine ta 3 rfl (dm (v:=(.pointer none)) rfl iT rfl rfl (λ_ h=>h.2.1) (λa_=>(bT _ rfl))) ?_;refine ta 4 rfl (hX rfl iT rfl rfl) ?_;refine PD 5 ?_;refine NT 6 ?_;refine NT 7 ?_;refine NT 8 ?_;refine NT 9 ?_;refine NT 10 ?_;refine NT 11 ?_;refine NT 12 ?_;refine NT 13 ?_;refine NT 14 ?_;refine NT 15 ?_;refine NT 16 ?_;refine NT 17 ?_;refine PD 18 ?_;refine DN (ac J13 (CN (aU (ag (aF (H':=[cJ V r (du s (max s.round m.ballot.round))]) (dK _) (λ_ q=>oo (hv (by omega)) (am [0] rfl q)) (bD rfl ?_))))));exact congrArg (λq=>[cJ V r q]) (show(du s (max s.round m.ballot.round))=eI V.toDk f s from' m by rw[eI,if_neg h15,if_neg (λh=>h.elim (λh=>absurd h (by omega)) (λh=>by rw[h50]at h;cases h)),hn (by omega)]);refine PS ?_;refine nx J12 (CN (sr λ_ J14=>PS ?_));refine ao ?_ ?_<;>intro h105
 refine cA (H':=vM V r (du s (max s.round m.ballot.round)) (.pointer none)::[ak b7 (ints m.flat) 178]) (λ_ q=>sW (hv (by omega)) (aC [1] rfl q)) (PS ?_);refine nx J14 (CY (aa λ_ J15=>DC bm (cZ 0 rfl rfl) (BL 1) ?_));refine PD 0 ?_;refine PD 1 ?_;refine FD 2 1067 bn jo ?_;refine ta 3 rfl (dm (v:=(.pointer none)) rfl iT rfl rfl (λ_ h=>h.2.1) (λa_=>(bT _ rfl))) ?_;refine ta 4 rfl (hX rfl iT rfl rfl) ?_;refine PD 5 ?_;refine NT 6 ?_;refine NT 7 ?_;refine NT 8 ?_;refine NT 9 ?_;refine NT 10 ?_;refine NT 11 ?_;refine NT 12 ?_;refine NT 13 ?_;refine PD 14 ?_;refine DN (ac J15 (CN (aU (ag (aF (H':=[cJ V r (du s (max s.round m.ballot.round))]) (dK _) (λ_ q=>oo (hv (by omega)) (am [0] rfl q)) (bD rfl ?_))))));exact congrArg (λq=>[cJ V r q]) (show(du s (max s.round m.ballot.round))=eI V.toDk f s from' m by rw[eI,if_neg h15,if_neg (λh=>h.elim (λh=>absurd h (by omega)) (λh=>by rw[h50]at h;cases h)),hn (by omega)]);refine PS ?_;refine nx J14 (CN (aU (ag (WK [1] (bD rfl ?_)))));exact congrArg (λq=>[cJ V r q]) (show(du s (max s.round m.ballot.round))=eI V.toDk f s from' m by rw[eI,if_neg h15,if_neg (λh=>h.elim (λh=>absurd h (by omega)) (λh=>by rw[h50]at h;cases h)),hn (by omega)]);refine EN (PD 18 ?_);refine PD 19 ?_;refine DN (ac J7 (CY (ai (af (WK [1] (dP rfl ?_))))));exact congrArg (λq=>[cJ V r q]) (show s=eI V.toDk f s from' m by rw[eI,if_neg h15,if_pos (.inr h50)])
theorem Af(v:VoteT)(w:Int)(b:BallotT):(gC v w b).1.change=v.change:=by unfold gC;split<;>rfl
theorem pP{δ:Type}(V:Env δ)(r:Nat)(s:MS δ)(vt:VoteT)(from':Int)(m:MsgT)[OkR V.toDk s][OkMg m](hfe:from'=s.id→m.epoch=s.view.epoch)(hk:m.kind=4∨m.kind=6)(hv:s.vote=some vt)(hp:m.kind=4→(eW vt from' m.ballot m.had m.change).2=true→DT 113 #[.pointer (some ⟨r,0,none⟩), .iface V.T V.ov] T0 [cJ V r (ld (du s (max s.round m.ballot.round)) (eW vt from' m.ballot m.had m.change).1)] (dz (λ_ H=>H=[cJ V r (jY V.toDk (ld (du s (max s.round m.ballot.round)) (eW vt from' m.ballot m.had m.change).1) (eW vt from' m.ballot m.had m.change).1)]))):
    DT 148 #[(.pointer (some ⟨r,0,none⟩)),(.iface V.T V.ov),(.int .i64 (from')),(.agg (ints m.flat).toArray)] T0 [cJ V r s] (dz (λ_ H=>H=[cJ V r (eI V.toDk (λs_=>if m.kind=4 then oJ V.toDk from' m s_ else kG V.toDk from' m s_) s from' m)])):=by
 refine BD 124 Tryz.func148 rfl rfl rfl λw0 F hF=>?_
 have hov:OkVt vt:=OkR.vote vt hv;refine sr λ_ J1=>XY (ints m.flat) λb7=>?_
 refine nx J1 (aa λ_ J2=>aa λ_ J3=>DC bm (BL 0) (cZ 1 rfl rfl) ?_);refine FD 0 177 bf aQ ?_;refine LR 1 Y3 (eO m rfl) ?_;refine PD 2 ?_;refine PD 3 ?_;refine FD 4 2 bn bk ?_;refine FD 5 2 eS aQ ?_;refine ta 6 rfl (dm (v:=(.int .i64 (s.view.epoch))) rfl Y3 rfl rfl (λ_ h=>h.2.2.1) (λa_=>(cf (s.rep a_) 0 rfl (by decide) (bi _ rfl)))) ?_;refine PD 7 ?_;refine jc ?_ ?_<;>intro h15;refine DN (ac J3 (CY (aa λ_ J4=>sr λ_ J5=>FA 0 bf aQ ?_)));refine LU 0 Y3 (eX m rfl) ?_;refine PS ?_;refine ao ?_ ?_<;>intro h18;refine PS ?_
 iterate 3 refine UT ?_
 refine PS ?_;refine nx J5 (CY (ae ?_))
 iterate 5 refine PS ?_
 refine FA 2 bn bk ?_;refine LZ 1 eS bk an s.view ?_ (hc:=by exact λ_=>cX _);refine tp (lm MsgT.zero (MsgT.mk 7 0 RowT.zero 0 0 BallotT.zero BallotT.zero ChangeT.zero s.view) [(0,[Value.int .i64 7]),(8,ints s.view.flat)] bf bv (g:=MsgT.sg)) ?_;refine CZ jq (jE V r s from' (jB s.view) (λe=>absurd (hfe e) (by omega))) (SM [1]) λvR=>?_
 refine nx J4 (ai (af (WK [0] (dP rfl ?_))));exact MQ (by rw[eI,if_pos h15,if_pos (.inl h18)];rfl);refine PS ?_;refine FA 0 bf aQ ?_;refine LU 0 Y3 (eX m rfl) ?_;refine PS ?_;refine ao ?_ ?_<;>intro h22;refine PS ?_;refine nx J5 (CY (ae ?_))
 iterate 5 refine PS ?_
 refine FA 2 bn bk ?_;refine LZ 1 eS bk an s.view ?_ (hc:=by exact λ_=>cX _);refine tp (lm MsgT.zero (MsgT.mk 7 0 RowT.zero 0 0 BallotT.zero BallotT.zero ChangeT.zero s.view) [(0,[Value.int .i64 7]),(8,ints s.view.flat)] bf bv (g:=MsgT.sg)) ?_;refine CZ jq (jE V r s from' (jB s.view) (λe=>absurd (hfe e) (by omega))) (SM [1]) λvR=>?_
 refine nx J4 (ai (af (WK [0] (dP rfl ?_))));exact MQ (by rw[eI,if_pos h15,if_pos (.inr h22)];rfl);refine PS ?_;refine nx J5 (CN (qx J4 (ai (af (WK [1] (dP rfl ?_))))));exact MQ (by rw[eI,if_pos h15,if_neg (by omega)]);refine DN (ac J3 (CN (qx J2 (aa λ_ J6=>aa λ_ J7=>DC bm (BL 0) (cZ 1 rfl rfl) ?_))));refine FD 0 177 bf aQ ?_;refine LR 1 Y3 (eO m rfl) ?_;refine PD 2 ?_;refine PD 3 ?_;refine FD 4 2 bn bk ?_;refine FD 5 2 eS aQ ?_;refine ta 6 rfl (dm (v:=(.int .i64 (s.view.epoch))) rfl Y3 rfl rfl (λ_ h=>h.2.2.1) (λa_=>(cf (s.rep a_) 0 rfl (by decide) (bi _ rfl)))) ?_;refine PD 7 ?_;refine jc ?_ ?_<;>intro h40;refine PD 8 ?_;refine NT 9 ?_;refine NT 10 ?_;refine NT 11 ?_;refine NT 12 ?_;refine NT 13 ?_;refine NT 14 ?_;refine NT 15 ?_;refine NT 16 ?_;refine NT 17 ?_;refine NT 18 ?_;refine PD 19 ?_;refine DN (ac J7 (CY (ai (af (WK [1] (dP rfl ?_))))));exact MQ (by rw[eI,if_neg h15,if_pos (.inl (by omega))]);refine PD 8 ?_;refine PD 9 ?_;refine PD 10 ?_;refine FD 11 2 bn bk ?_;refine tb 12 rfl (gh (vs:=ints s.view.flat) rfl eS rfl bk rfl (λ_ h=>h.2.2.1) (an s.view) (λa_=>(fW (s.rep a_) 0 rfl (by decide) (whole (an ((s.rep a_).view)))))) ?_;refine PD 13 ?_;refine PD 14 ?_;refine FD 15 0 bn aQ ?_;refine tb 16 rfl (dm (v:=(.int .i64 (s.id))) rfl Y3 rfl rfl (λ_ h=>h.2.2.1) (λa_=>(cE _ rfl))) ?_;refine AL 17 ?_;refine CE p4 (dI s.view s.id) ID ?_;refine bc ?_ ?_<;>intro h50;refine EN (PD 18 ?_);refine PD 19 ?_
 refine DN (ac J7 (CN (qx J6 (aa λ_ J8=>D1 0 bm ?_))));refine PD 0 ?_;refine PD 1 ?_;refine PD 2 ?_;refine FD 3 1066 bn aQ ?_;refine FD 5 178 bf cz ?_;refine FD 6 178 kg aQ ?_;refine LX 7 Y3 (.int .i64 (m.ballot.round)) ?_ (hc:=by exact MsgT.pt_ballot m 0 rfl (by decide) (fk m.ballot rfl));refine AL 4 ?_;refine LG 1 Y3 (.int .i64 (s.round)) ?_ (hc:=by exact λa_=>(vw _ rfl));refine EN (ta 8 rfl (yK rfl rfl rfl) ?_);refine PD 9 ?_;refine FD 10 1066 bn aQ ?_;refine AL 11 ?_;refine SK 1 aQ (λ_=>cY _) ?_ (hc:=by exact λa_=>(l7 _ rfl _));refine EN (DN (ac J8 (sr λ_ J9=>FA 0 bf aQ ?_)));refine LU 0 Y3 (eX m rfl) ?_;refine nx J9 (aq (sr λ_ J10=>PS ?_));refine ao ?_ ?_<;>intro h67
 · exact absurd h67 (by omega)
 refine PS ?_;refine nx J10 (CN (sr λ_ J11=>PS ?_));refine ao ?_ ?_<;>intro h74
 · exact absurd h74 (by omega)
 refine PS ?_;refine nx J11 (CN (sr λ_ J12=>PS ?_));refine ao ?_ ?_<;>intro h81;refine Lz (H':=λvb:Nat=>vM V r (du s (max s.round m.ballot.round)) (.pointer (some ⟨vb,0,none⟩))::ak vb (VoteT.cells vt) 227::[ak b7 (ints m.flat) 178]) (λ_ q=>nc (s:=(du s (max s.round m.ballot.round))) hv (aC [1] rfl q)) (λvb=>PS ?_);refine nx J12 (CY (aa λ_ J13=>D1 2 bm ?_));refine PD 0 ?_;refine PD 1 ?_;refine FD 2 1067 bn jo ?_;refine AL 3 ?_;refine LG 0 iT (.pointer (some ⟨vb,0,none⟩)) ?_ (hc:=by exact λa_=>(bT _ rfl));refine EN (ta 4 rfl (gg rfl iT rfl rfl) ?_);refine PD 5 ?_;refine PD 6 ?_;refine PD 7 ?_;refine FD 8 1067 bn jo ?_;refine PD 10 ?_;refine FD 11 178 bf cz ?_;refine tb 12 rfl (aM (vs:=ints m.ballot.flat) rfl kg rfl cz rfl (λ_ h=>h.2.1) (ap m.ballot) (jg m 0 rfl (by decide) (whole (ap m.ballot)))) ?_;refine FD 13 180 bf cz ?_;refine tb 14 rfl (aM (vs:=ints m.had.flat) rfl kg rfl cz rfl (λ_ h=>h.2.1) (ap m.had) (PW m 0 rfl (by decide) (whole (ap m.had)))) ?_;refine FD 15 182 bf fI ?_;refine tb 16 rfl (aM (vs:=ints m.change.flat) rfl np rfl fI rfl (λ_ h=>h.2.1) (aL m.change) (nt m 0 rfl (by decide) (whole (aL m.change)))) ?_;refine AL 9 ?_;refine LG 0 iT (.pointer (some ⟨vb,0,none⟩)) ?_ (hc:=by exact λa_=>(bT _ rfl));refine EN (AL 17 ?_);refine CE Ns (DL vb vt from' m.ballot m.had m.change (OkMg.ballot) hov.ballot) (SM [1]) ?_;refine bc ?_ ?_<;>intro h99;refine EN (PD 18 ?_)
 refine DN (ac J13 (CY (ae (cA (H':=cJ V r (ld (du s (max s.round m.ballot.round)) ((eW vt from' m.ballot m.had m.change).1))::[ak b7 (ints m.flat) 178]) (λ_ q=>ol (aC [1,0] rfl q)) (P2 ?_)))));refine CZ FL ((hp (by omega) h99)) ID λvR=>?_
 refine au (ag (WK [0] (bD rfl ?_)))
 exact congrArg (λq=>[cJ V r q]) (show _=eI V.toDk (λs_=>if m.kind=4 then oJ V.toDk from' m s_ else kG V.toDk from' m s_) s from' m by
                              rw[eI,if_neg h15,if_neg (λh=>h.elim (λh=>absurd h (by omega)) (λh=>by rw[h50]at h;cases h)),if_pos (by omega),oJ];simp only[show(du s (max s.round m.ballot.round)).vote=some vt from hv]
                              rw[if_pos h99])
 refine EN (PD 18 ?_);refine DN (ac J13 (CN (aU (ag (aF (H':=[cJ V r (ld (du s (max s.round m.ballot.round)) (eW vt from' m.ballot m.had m.change).1)]) (dK _) (λ_ q=>ol (am [1,0] rfl q)) (bD rfl ?_))))))
 exact congrArg (λq=>[cJ V r q]) (show(ld (du s (max s.round m.ballot.round)) (eW vt from' m.ballot m.had m.change).1)=eI V.toDk (λs_=>if m.kind=4 then oJ V.toDk from' m s_ else kG V.toDk from' m s_) s from' m by
                              rw[eI,if_neg h15,if_neg (λh=>h.elim (λh=>absurd h (by omega)) (λh=>by rw[h50]at h;cases h)),if_pos (by omega),oJ];simp only[show(du s (max s.round m.ballot.round)).vote=some vt from hv]
                              rw[if_neg (by rw[h99];decide)])
 refine PS ?_;refine nx J12 (CN (sr λ_ J14=>PS ?_));refine ao ?_ ?_<;>intro h105;refine Lz (H':=λvb:Nat=>vM V r (du s (max s.round m.ballot.round)) (.pointer (some ⟨vb,0,none⟩))::ak vb (VoteT.cells vt) 227::[ak b7 (ints m.flat) 178]) (λ_ q=>nc (s:=(du s (max s.round m.ballot.round))) hv (aC [1] rfl q)) (λvb=>PS ?_);refine nx J14 (CY (aa λ_ J15=>D1 2 bm ?_));refine PD 0 ?_;refine PD 1 ?_;refine FD 2 1067 bn jo ?_;refine AL 3 ?_;refine LG 0 iT (.pointer (some ⟨vb,0,none⟩)) ?_ (hc:=by exact λa_=>(bT _ rfl));refine EN (ta 4 rfl (gg rfl iT rfl rfl) ?_);refine PD 5 ?_;refine PD 6 ?_;refine PD 7 ?_;refine FD 8 1067 bn jo ?_;refine PD 10 ?_;refine FD 11 178 bf cz ?_;refine tb 12 rfl (aM (vs:=ints m.ballot.flat) rfl kg rfl cz rfl (λ_ h=>h.2.1) (ap m.ballot) (jg m 0 rfl (by decide) (whole (ap m.ballot)))) ?_;refine AL 9 ?_;refine LG 0 iT (.pointer (some ⟨vb,0,none⟩)) ?_ (hc:=by exact λa_=>(bT _ rfl));refine EN (AL 13 ?_);refine CE Nr (DW vb vt from' m.ballot (OkMg.ballot) hov.ballot) (SM [1]) ?_;refine bc ?_ ?_<;>intro h119;refine EN (PD 14 ?_);refine DN (ac J15 (CY (ae (cA (H':=cJ V r (ld (du s (max s.round m.ballot.round)) ((gC vt from' m.ballot).1))::[ak b7 (ints m.flat) 178]) (λ_ q=>ol (aC [1,0] rfl q)) (P2 ?_)))));refine CZ Nq (A9 V r (ld (du s (max s.round m.ballot.round)) (gC vt from' m.ballot).1) (gC vt from' m.ballot).1 rfl) ID λvR=>?_
 refine au (ag (WK [0] (bD rfl ?_)))
 exact congrArg (λq=>[cJ V r q]) (show _=eI V.toDk (λs_=>if m.kind=4 then oJ V.toDk from' m s_ else kG V.toDk from' m s_) s from' m by
                                rw[eI,if_neg h15,if_neg (λh=>h.elim (λh=>absurd h (by omega)) (λh=>by rw[h50]at h;cases h)),if_neg (by omega),kG];simp only[show(du s (max s.round m.ballot.round)).vote=some vt from hv]
                                rw[if_pos h119,Af])
 refine EN (PD 14 ?_);refine DN (ac J15 (CN (aU (ag (aF (H':=[cJ V r (ld (du s (max s.round m.ballot.round)) (gC vt from' m.ballot).1)]) (dK _) (λ_ q=>ol (am [1,0] rfl q)) (bD rfl ?_))))))
 exact congrArg (λq=>[cJ V r q]) (show(ld (du s (max s.round m.ballot.round)) (gC vt from' m.ballot).1)=eI V.toDk (λs_=>if m.kind=4 then oJ V.toDk from' m s_ else kG V.toDk from' m s_) s from' m by
                                rw[eI,if_neg h15,if_neg (λh=>h.elim (λh=>absurd h (by omega)) (λh=>by rw[h50]at h;cases h)),if_neg (by omega),kG];simp only[show(du s (max s.round m.ballot.round)).vote=some vt from hv]
                                rw[if_neg (by rw[h119];decide)])
 · exact absurd h105 (by omega)
 refine EN (PD 18 ?_);refine PD 19 ?_;refine DN (ac J7 (CY (ai (af (WK [1] (dP rfl ?_))))));exact MQ (by rw[eI,if_neg h15,if_pos (.inr h50)])
theorem re{δ:Type}(V:Env δ)(r:Nat)(s:MS δ)(from':Int)(m:MsgT)[OkR V.toDk s][OkMg m](hfe:from'=s.id→m.epoch=s.view.epoch)(hk:m.kind=6):TK V r 105 s from' m (pR V.toDk s from' m):=oK (.inr (.inr (.inr hk))) (by
 cases hv:s.vote with
 |none=>exact kH V r s (kG V.toDk from' m) from' m hfe (λe=>by omega) (λe=>by omega) (λ_=>by rw[kG,show(du s (max s.round m.ballot.round)).vote=none from hv]) (λ_=>hv)
 |some vt=>
  have h:=pP V r s vt from' m hfe (.inr hk) hv (λe=>by omega)
  rwa [show(λs_:MS δ=>if m.kind=4 then oJ V.toDk from' m s_ else kG V.toDk from' m s_)=kG V.toDk from' m from funext λ_=>if_neg (by omega)]at h)
theorem yd{δ:Type}(V:Env δ)(r:Nat)(s:MS δ)(from':Int)(m:MsgT)[OkR V.toDk s][OkMg m](hep:m.epoch=s.view.epoch):
 DT 171 #[(.pointer (some ⟨r,0,none⟩)),(.iface V.T V.ov),(.int .i64 (from')),(.agg (ints m.flat).toArray)] T0 [cJ V r s] (dz (λ_ H=>H=[cJ V r (nF V.toDk from' m s)])):=by
 refine BD 69 Tryz.func171 rfl rfl rfl λw0 F hF=>sr λ_ J1=>XY (ints m.flat) λb7=>?_
 refine nx J1 (aa λ_ J2=>aa λ_ J3=>fg (α:=Unit) (λ_u=>True) (λ_u=>[(0,(.pointer (some ⟨r,0,none⟩))),(1,(.iface V.T V.ov)),(2,(.int .i64 (from'))),(7,(.pointer (some ⟨b7,0,none⟩))),(9,(.int .i64 ((dY s.view m.change).2)))]) (λ_u=>[cJ V r s,ak b7 (ints m.flat) 178]) (λ_u hinv=>?_) (λtl3=>?_));have _:=hinv;refine ac J3 (sr λ_ J4=>P2 ?_);refine ao ?_ ?_<;>intro h23;refine nx J4 (CY (ai (af (WK [0] (dP rfl ?_)))));exact MQ (by rw[nF,if_pos h23]);refine nx J4 (CN (qx J2 (aa λ_ J5=>fg (α:=(Nat)) (λb10=>True) (λb10=>[(0,(.pointer (some ⟨r,0,none⟩))),(1,(.iface V.T V.ov)),(2,(.int .i64 (from'))),(7,(.pointer (some ⟨b7,0,none⟩))),(10,(.pointer (some ⟨b10,0,none⟩))),(11,(.bool ((gH s.acc m.epoch m.ballot m.change).2)))]) (λb10=>[cJ V r s,ak b7 (ints m.flat) 178,ak b10 (ints ((gH s.acc m.epoch m.ballot m.change).1).flat) 118]) (λb10 hinv=>?_) (λtl5=>?_))));have _:=hinv;refine ac J5 (aa λ_ J6=>sr λ_ J7=>PS ?_);refine bc ?_ ?_<;>intro h38;refine PS ?_;refine nx J7 (CN (qx J6 (aa λ_ J8=>aa λ_ J9=>DC bm (BL 2) (cZ 0 rfl rfl) ?_)));refine LY 0 jb dF bb ?_;refine PD 1 ?_;refine PD 2 ?_;refine FD 3 1058 bn dF ?_;refine ta 4 rfl (gh (vs:=ints s.acc.flat) rfl jb rfl dF rfl (λ_ h=>h.2.2.1) (bb s.acc) (λa_=>(yG (s.rep a_) 0 rfl (by decide) (whole (bb ((s.rep a_).acc)))))) ?_
 refine ta 5 rfl (KJ (a:=((gH s.acc m.epoch m.ballot m.change).1).flat) (b:=s.acc.flat) (m:=6) (c:=8) MY MX rfl N0 (dq (bb ((gH s.acc m.epoch m.ballot m.change).1))) (dq (bb s.acc)) ⟨fS Lt Lw (dq (bb ((gH s.acc m.epoch m.ballot m.change).1))),fS Lt Lw (dq (bb s.acc))⟩ (OkAc.wf) (OkAc.wf) rfl rfl rfl) ?_;refine jc ?_ ?_<;>intro h45;refine DN (ac J9 (CY (aa λ_ J10=>sr λ_ J11=>PS ?_)));refine FA 177 bf aQ ?_;refine LU 1 Y3 (eO m rfl) ?_;refine FA 178 bf cz ?_;refine LV 1 kg cz ap oC (y:=m.ballot) ?_;refine FA 182 bf fI ?_;refine LV 1 np fI aL MsgT.sp_change (y:=m.change) ?_;refine tp (lm RecT.zero (RecT.mk 4 0 RowT.zero m.epoch m.ballot m.change ViewT.zero) [(0,[Value.int .i64 4]),(3,[Value.int .i64 m.epoch]),(4,ints m.ballot.flat),(5,ints m.change.flat)] je fh (g:=RecT.sg)) ?_;refine CE w4 (lv V r s (lA m.epoch m.ballot m.change)) ID ?_;refine PS ?_;refine ao ?_ ?_<;>intro h55;refine nx J11 (CY (ai (af (af (WK [0] (dP rfl ?_))))));exact MQ (by rw[nF,if_neg h23,if_neg (by rw[h38];decide),if_pos h45,if_pos h55]);refine nx J11 (CN (qx J10 (ae (PS ?_))));refine LW 2 jb dF bb ?_;refine PS ?_;refine FA 1058 bn dF ?_
 refine g9 (vs:=ints ((gH s.acc m.epoch m.ballot m.change).1).flat) (i:=0) (ab rfl) rfl rfl rfl rfl rfl (by rw[(bb ((gH s.acc m.epoch m.ballot m.change).1))];exact dF) (bC _) rfl rfl (λ_=>LC (cY _) (bb _)) (λa_=>(ky ((dC V.toDk s (lA m.epoch m.ballot m.change)).rep a_) 0 rfl (by have h1:=(bb ((gH s.acc m.epoch m.ballot m.change).1));omega) (ct ((bb (((dC V.toDk s (lA m.epoch m.ballot m.change)).rep a_).acc)).trans (bb ((gH s.acc m.epoch m.ballot m.change).1)).symm)))) (nx J8 (ae (P3 ?_)));refine FA 177 bf aQ ?_;refine LU 1 Y3 (eO m rfl) ?_;refine FA 178 bf cz ?_;refine LV 1 kg cz ap oC (y:=m.ballot) ?_;refine tp (lm MsgT.zero (MsgT.mk 6 0 RowT.zero 0 m.epoch m.ballot BallotT.zero ChangeT.zero ViewT.zero) [(0,[Value.int .i64 6]),(4,[Value.int .i64 m.epoch]),(5,ints m.ballot.flat)] bf bv (g:=MsgT.sg)) ?_;refine CZ jq (gp V r (vl (dC V.toDk s (lA m.epoch m.ballot m.change)) (gH s.acc m.epoch m.ballot m.change).1) from' (jl m.epoch m.ballot) (λs_=>pR V.toDk s_ s_.id (jl m.epoch m.ballot)) (λ_=>re V r (vl (dC V.toDk s (lA m.epoch m.ballot m.change)) (gH s.acc m.epoch m.ballot m.change).1) (vl (dC V.toDk s (lA m.epoch m.ballot m.change)) (gH s.acc m.epoch m.ballot m.change).1).id (jl m.epoch m.ballot) (λ_=>hep) rfl)) ID λvR=>?_
 refine au (WK [0] (bD rfl ?_));exact MQ (by rw[nF,if_neg h23,if_neg (by rw[h38];decide),if_pos h45,if_neg h55];rfl);refine DN (ac J9 (CN (qx J8 (ae (P3 ?_)))));refine FA 177 bf aQ ?_;refine LU 1 Y3 (eO m rfl) ?_;refine FA 178 bf cz ?_;refine LV 1 kg cz ap oC (y:=m.ballot) ?_;refine tp (lm MsgT.zero (MsgT.mk 6 0 RowT.zero 0 m.epoch m.ballot BallotT.zero ChangeT.zero ViewT.zero) [(0,[Value.int .i64 6]),(4,[Value.int .i64 m.epoch]),(5,ints m.ballot.flat)] bf bv (g:=MsgT.sg)) ?_;refine CZ jq (gp V r s from' (jl m.epoch m.ballot) (λs_=>pR V.toDk s_ s_.id (jl m.epoch m.ballot)) (λ_=>re V r s s.id (jl m.epoch m.ballot) (λ_=>hep) rfl)) ID λvR=>?_
 refine au (WK [0] (bD rfl ?_));exact MQ (by rw[nF,if_neg h23,if_neg (by rw[h38];decide),if_neg h45];rfl);refine PS ?_;refine nx J7 (CY (ai (af (WK [0] (dP rfl ?_)))));exact MQ (by rw[nF,if_neg h23,if_pos h38]);refine DC bm (cZ 0 rfl rfl) (BL 1) ?_;refine PD 0 ?_;refine PD 1 ?_;refine FD 2 1058 bn dF ?_;refine ta 3 rfl (gh (vs:=ints s.acc.flat) rfl jb rfl dF rfl (λ_ h=>h.2.1) (bb s.acc) (λa_=>(yG (s.rep a_) 0 rfl (by decide) (whole (bb ((s.rep a_).acc)))))) ?_;refine FD 4 177 bf aQ ?_;refine LR 5 Y3 (eO m rfl) ?_;refine FD 6 178 bf cz ?_;refine ta 7 rfl (aM (vs:=ints m.ballot.flat) rfl kg rfl cz rfl (λ_ h=>h.2.2.1) (ap m.ballot) (jg m 0 rfl (by decide) (whole (ap m.ballot)))) ?_;refine FD 8 182 bf fI ?_;refine ta 9 rfl (aM (vs:=ints m.change.flat) rfl np rfl fI rfl (λ_ h=>h.2.2.1) (aL m.change) (nt m 0 rfl (by decide) (whole (aL m.change)))) ?_;refine cT [10,14] (by kernel_rfl) rfl (aG rfl ?_ ?_);refine CE KZ (u9 s.acc m.epoch m.ballot m.change) ID ?_;refine EN (PD 11 ?_);refine PD 12 ?_;refine PD 13 ?_;refine oA ?_ ?_<;>intro h37;refine AL 14 ?_;refine XZ vT (ints AccT.zero.flat) λb10=>?_
 refine EN (AL 15 ?_);refine SW 0 dF bb ?_;refine EN (PD 16 ?_);refine DN ?_
 exact aF
  (aT (aT (aT (aT (aT (bz rfl (by rw[h37]) SB))))))
  (λ_ s=>am [1,1,0] rfl s)
  (tl5 ((b10):(Nat)) trivial)
 refine AL 14 ?_;refine XZ vT (ints AccT.zero.flat) λb10=>?_
 refine EN (AL 15 ?_);refine SW 0 dF bb ?_;refine EN (PD 16 ?_);refine DN ?_
 exact aF
  (aT (aT (aT (aT (aT (bz rfl (by rw[h37]) SB))))))
  (λ_ s=>am [1,1,0] rfl s)
  (tl5 ((b10):(Nat)) trivial)
 refine aG rfl ?_ ?_;refine XZ vT (ints AccT.zero.flat) λb10=>?_
 refine EN (AL 10 ?_);refine CE KZ (u9 s.acc m.epoch m.ballot m.change) ID ?_;refine EN (PD 11 ?_);refine PD 12 ?_;refine PD 13 ?_;refine oA ?_ ?_<;>intro h37;refine AL 15 ?_;refine SW 0 dF bb ?_;refine EN (PD 16 ?_);refine DN ?_
 exact aF
  (aT (aT (aT (aT (aT (bz rfl (by rw[h37]) SB))))))
  (λ_ s=>am [1,1,0] rfl s)
  (tl5 ((b10):(Nat)) trivial)
 refine AL 15 ?_;refine SW 0 dF bb ?_;refine EN (PD 16 ?_);refine DN ?_
 exact aF
  (aT (aT (aT (aT (aT (bz rfl (by rw[h37]) SB))))))
  (λ_ s=>am [1,1,0] rfl s)
  (tl5 ((b10):(Nat)) trivial)
 exact bJ;refine DC bm (cZ 1 rfl rfl) (BL 0) ?_;refine PD 0 ?_;refine PD 1 ?_;refine FD 2 2 bn bk ?_;refine ta 3 rfl (gh (vs:=ints s.view.flat) rfl eS rfl bk rfl (λ_ h=>h.2.1) (an s.view) (λa_=>(fW (s.rep a_) 0 rfl (by decide) (whole (an ((s.rep a_).view)))))) ?_;refine FD 4 182 bf fI ?_;refine ta 5 rfl (aM (vs:=ints m.change.flat) rfl np rfl fI rfl (λ_ h=>h.2.2.1) (aL m.change) (nt m 0 rfl (by decide) (whole (aL m.change)))) ?_;refine cT [6,10] (by kernel_rfl) rfl (aG rfl ?_ ?_);refine CE nb (dy s.view m.change OkVw.rng) ID ?_;refine EN (PD 7 ?_);refine PD 8 ?_;refine PD 9 ?_;refine AL 10 ?_;refine XZ r9 (ints ViewT.zero.flat) λb8=>?_
 refine EN (AL 11 ?_);refine SW 0 bk an ?_;refine EN (PD 12 ?_);refine DN ?_
 exact aF
  SB
  (λ_ s=>am [2,1] rfl s)
  (tl3 (():Unit) trivial)
 refine aG rfl ?_ ?_;refine XZ r9 (ints ViewT.zero.flat) λb8=>?_
 refine EN (AL 6 ?_);refine CE nb (dy s.view m.change OkVw.rng) ID ?_;refine EN (PD 7 ?_);refine PD 8 ?_;refine PD 9 ?_;refine AL 11 ?_;refine SW 0 bk an ?_;refine EN (PD 12 ?_);refine DN ?_
 exact aF
  SB
  (λ_ s=>am [2,1] rfl s)
  (tl3 (():Unit) trivial)
 exact bJ
theorem wl{δ:Type}(V:Env δ)(r:Nat)(s:MS δ)(from':Int)(m:MsgT)[OkR V.toDk s][OkMg m](hfe:from'=s.id→m.epoch=s.view.epoch)(hk:m.kind=5):TK V r 105 s from' m (rf V.toDk s from' m):=oK (by omega) (kH V r s (nF V.toDk from' m) from' m hfe (λe _=>by omega) (λ_ hep=>yd V r (du s (max s.round m.ballot.round)) from' m hep) (λe=>by omega) (λe=>by omega))
theorem yj{δ:Type}(V:Env δ)(r vb:Nat)(s:MS δ)(vt:VoteT)(hv:s.vote=some vt)(hpt:vt.putting=true)[OkR V.toDk s][OkVt vt]:
 DT 113 #[(.pointer (some ⟨r,0,none⟩)),(.iface V.T V.ov)] T0 [vM V r s (.pointer (some ⟨vb,0,none⟩)),ak vb (VoteT.cells vt) 227] (dz (λ_ H=>H=[cJ V r (jY V.toDk s vt)])):=by
 refine BD 68 Tryz.func113 rfl rfl rfl λw0 F hF=>aa λ_ J1=>fg (α:=(Nat)) (λb4=>True) (λb4=>[(0,(.pointer (some ⟨r,0,none⟩))),(1,(.iface V.T V.ov)),(4,(.pointer (some ⟨b4,0,none⟩)))]) (λb4=>[vM V r s (.pointer (some ⟨vb,0,none⟩)),ak vb (VoteT.cells vt) 227,ak b4 (ints (fz s.view.epoch vt.ballot).flat) 178]) (λb4 hinv=>?_) (λtl1=>?_)
 have _:=hinv;refine ac J1 (aa λ_ J2=>sr λ_ J3=>P2 ?_);refine FA 1067 bn jo ?_;refine LG 0 iT (.pointer (some ⟨vb,0,none⟩)) ?_ (hc:=by exact λa_=>(bT _ rfl));refine CE Lc (n6 vb vt) (SM [1]) ?_;refine bc ?_ ?_<;>intro h22;refine nx J3 (CY (ae (P2 ?_)));refine FA 1067 bn jo ?_;refine LG 1 iT (.pointer (some ⟨vb,0,none⟩)) ?_ (hc:=by exact λa_=>(bT _ rfl));refine CE oj (dh vb vt) ID ?_;refine FA 0 bf aQ ?_;refine SS 2 aQ (aI _) (MsgT.set_kind _ rfl _) ?_;refine FA 182 bf fI ?_;refine SP 2 fI aL aI Of ?_;refine nx J2 (sr λ_ J4=>cA (H':=cJ V r s::[ak b4 (ints (MsgT.mk 5 ((fz s.view.epoch vt.ballot).whose) ((fz s.view.epoch vt.ballot).row) ((fz s.view.epoch vt.ballot).version) ((fz s.view.epoch vt.ballot).epoch) ((fz s.view.epoch vt.ballot).ballot) ((fz s.view.epoch vt.ballot).had) vt.change ((fz s.view.epoch vt.ballot).view)).flat) 178]) (λ_ q=>om hv (aC [1,0] rfl q)) (P2 ?_));refine FA 2 bn bk ?_;refine LZ 0 eS bk an s.view ?_ (hc:=by exact λ_=>cX _);refine XZ r9 (ints ViewT.zero.flat) λb5=>?_
 refine SW 0 bk an ?_;refine nx J4 (aa λ_ J5=>sr λ_ J6=>PS ?_);refine nx J6 (aq ?_)
 refine bw (α:=(Nat)) (λk=>k≤5) (λk=>[(0,(.pointer (some ⟨r,0,none⟩))),(1,(.iface V.T V.ov)),(4,(.pointer (some ⟨b4,0,none⟩))),(5,(.pointer (some ⟨b5,0,none⟩))),(34,(.int .i64 (((k:Nat):Int))))]) (λk=>[ak b5 (ints s.view.flat) 44,ak b4 (ints (iR s.view.epoch vt.ballot vt.change).flat) 178,cJ V r (gW V.toDk s (nu s.id (iR s.view.epoch vt.ballot vt.change) (λi=>iZ s.view ((i:Nat):Int)) k))]) (λk=>5-k) 0
  (aN _) SB
  (λ_ q=>by
  rw[show nu s.id (iR s.view.epoch vt.ballot vt.change) (λi=>iZ s.view ((i:Nat):Int)) 0=[]from rfl,pZ]
  exact am [0,1,0] rfl q) (λk hinv=>?_)
 obtain hk:=hinv;refine sr λ_ J7=>PS ?_
 refine ao ?_ ?_<;>intro h35;refine nx J7 (aa λ_ J8=>CY (qx J8 (aa λ_ J9=>aq (sr λ_ J10=>P2 ?_))));refine nx J10 (sr λ_ J11=>P3 ?_);refine FA 0 bn aQ ?_;refine LG 2 Y3 (.int .i64 (s.id)) ?_ (hc:=by exact λa_=>(cE _ rfl));refine PS ?_;refine ao ?_ ?_<;>intro h42;refine PS ?_;refine LW 0 eS bk an ?_;refine PS ?_;refine CE p4 (dI s.view ((k:Nat):Int)) ID ?_;refine bc ?_ ?_<;>intro h46;refine PS ?_;refine nx J11 (CY (ae (P3 ?_)));refine LW 1 bf cb aI ?_;refine CZ jq (oe V r s (nu s.id (iR s.view.epoch vt.ballot vt.change) (λi=>iZ s.view ((i:Nat):Int)) k) ((k:Nat):Int) (iR s.view.epoch vt.ballot vt.change) h42) (SM [2]) λvR=>?_
 refine au (ag (ac J9 (ae (AD ?_))));refine PS ?_;refine au ?_
 exact aK ((k+1):(Nat)) (by omega) (by show 5- (k+1)<5-k;omega)
  SB
  (λ_ q=>by
   rw[iM,if_pos ⟨h42,h46⟩]
   exact am [1,1,0] rfl q)
 refine PS ?_;refine nx J11 (CN (aU (ag (ac J9 (ae (AD ?_))))));refine PS ?_;refine au ?_
 exact aK ((k+1):(Nat)) (by omega) (by show 5- (k+1)<5-k;omega)
  SB
  (λ_ q=>by
   rw[iM,if_neg (λh=>by have:=h.2;rw[h46]at this;cases this)];rw[aP]
   exact am [0,0,0] rfl q)
 refine PS ?_
 iterate 3 refine UF ?_
 refine PS ?_;refine nx J11 (CN (aU (ag (ac J9 (ae (AD ?_))))));refine PS ?_;refine au ?_
 exact aK ((k+1):(Nat)) (by omega) (by show 5- (k+1)<5-k;omega)
  SB
  (λ_ q=>by
   rw[iM,if_neg (λh=>h42 h.1)];rw[aP]
   exact am [0,0,0] rfl q)
 obtain rfl:k=5:=by omega
 refine nx J7 (aa λ_ J12=>CN (aX (aA (aA (br (ac J5 (aa λ_ J13=>DC bm (BL 0) (cZ 2 rfl rfl) ?_)))))));refine LY 0 eS bk an ?_;refine PD 1 ?_;refine PD 2 ?_;refine FD 3 0 bn aQ ?_;refine ta 4 rfl (dm (v:=(.int .i64 ((js V.toDk s (iR s.view.epoch vt.ballot vt.change)).id))) rfl Y3 rfl rfl (λ_ h=>h.2.2.1) (λa_=>(cE _ rfl))) ?_;refine AL 5 ?_;refine CE p4 (dI s.view ((js V.toDk s (iR s.view.epoch vt.ballot vt.change)).id)) ID ?_;refine bc ?_ ?_<;>intro h59;refine EN (DN (ac J13 (CY (D1 1 bm ?_))));refine PD 0 ?_;refine PD 1 ?_;refine PD 2 ?_;refine PD 3 ?_;refine FD 4 0 bn aQ ?_;refine LY 6 bf cb aI ?_;refine AL 5 ?_;refine LG 2 Y3 (.int .i64 ((js V.toDk s (iR s.view.epoch vt.ballot vt.change)).id)) ?_ (hc:=by exact λa_=>(cE _ rfl));refine EN (AL 7 ?_);refine CZ jq (gp V r (js V.toDk s (iR s.view.epoch vt.ballot vt.change)) s.id (iR s.view.epoch vt.ballot vt.change) (λs_=>rf V.toDk s_ s_.id (iR s.view.epoch vt.ballot vt.change)) (λ_=>wl V r (js V.toDk s (iR s.view.epoch vt.ballot vt.change)) s.id (iR s.view.epoch vt.ballot vt.change) (λ_=>rfl) rfl)) (SM [2]) λvR=>?_
 refine EN (DN (WK [0] (bD rfl ?_)));exact MQ (by rw[jY,iD,if_pos (show iZ s.view s.id=true from h59),mw,if_pos (show s.id=(js V.toDk s (iR s.view.epoch vt.ballot vt.change)).id from rfl)]<;>rfl);refine EN (DN (ac J13 (CN (aU (WK [2] (bD rfl ?_))))));exact MQ (by rw[jY,iD,if_neg (by rw[show iZ s.view s.id=false from h59];decide)]<;>rfl)
 · rw[hpt]at h22;cases h22
 refine D1 1 bm ?_;refine PD 0 ?_;refine PD 1 ?_;refine FD 2 2 bn bk ?_;refine FD 3 2 eS aQ ?_;refine PD 5 ?_;refine PD 6 ?_;refine FD 7 1067 bn jo ?_;refine cT [4,8,11] (by kernel_rfl) rfl (aG rfl ?_ ?_);refine LG 0 Y3 (.int .i64 (s.view.epoch)) ?_ (hc:=by exact λa_=>(cf (s.rep ⟨(a_:Nat×Value).1,(.pointer (some ⟨vb,0,none⟩)),a_.2⟩) 0 rfl (by decide) (bi _ rfl)));refine EN (cT [8,11] (by kernel_rfl) rfl (aG rfl ?_ ?_));refine LG 0 iT (.pointer (some ⟨vb,0,none⟩)) ?_ (hc:=by exact λa_=>(bT _ rfl));refine EN (cT [9,11] (by kernel_rfl) rfl (aG rfl ?_ ?_));refine CE jP (bI vb vt) (SM [1]) ?_;refine EN (ta 10 rfl (lm MsgT.zero (MsgT.mk 3 0 RowT.zero 0 s.view.epoch vt.ballot BallotT.zero ChangeT.zero ViewT.zero) [(0,[Value.int .i64 3]),(4,[Value.int .i64 s.view.epoch]),(5,ints vt.ballot.flat)] bf bv (g:=MsgT.sg)) ?_);refine AL 11 ?_;refine XZ mB (ints MsgT.zero.flat) λb4=>?_
 refine EN (AL 12 ?_);refine SW 0 cb aI ?_;refine EN (DN ?_)
 exact aF
  SB
  (λ_ s=>am [2,1,0] rfl s)
  (tl1 ((b4):(Nat)) trivial)
 refine aG rfl ?_ ?_;refine XZ mB (ints MsgT.zero.flat) λb4=>?_
 refine EN (AL 9 ?_);refine CE jP (bI vb vt) (SM [2]) ?_;refine EN (ta 10 rfl (lm MsgT.zero (MsgT.mk 3 0 RowT.zero 0 s.view.epoch vt.ballot BallotT.zero ChangeT.zero ViewT.zero) [(0,[Value.int .i64 3]),(4,[Value.int .i64 s.view.epoch]),(5,ints vt.ballot.flat)] bf bv (g:=MsgT.sg)) ?_);refine AL 12 ?_;refine SW 1 cb aI ?_;refine EN (DN ?_)
 exact aF
  SB
  (λ_ s=>am [2,0,0] rfl s)
  (tl1 ((b4):(Nat)) trivial)
 exact bJ;refine aG rfl ?_ ?_;refine XZ mB (ints MsgT.zero.flat) λb4=>?_
 refine EN (AL 8 ?_);refine LG 1 iT (.pointer (some ⟨vb,0,none⟩)) ?_ (hc:=by exact λa_=>(bT _ rfl));refine EN (AL 9 ?_);refine CE jP (bI vb vt) (SM [2]) ?_;refine EN (ta 10 rfl (lm MsgT.zero (MsgT.mk 3 0 RowT.zero 0 s.view.epoch vt.ballot BallotT.zero ChangeT.zero ViewT.zero) [(0,[Value.int .i64 3]),(4,[Value.int .i64 s.view.epoch]),(5,ints vt.ballot.flat)] bf bv (g:=MsgT.sg)) ?_);refine AL 12 ?_;refine SW 1 cb aI ?_;refine EN (DN ?_)
 exact aF
  SB
  (λ_ s=>am [2,0,0] rfl s)
  (tl1 ((b4):(Nat)) trivial)
 exact bJ;refine aG rfl ?_ ?_;refine LG 0 iT (.pointer (some ⟨vb,0,none⟩)) ?_ (hc:=by exact λa_=>(bT _ rfl));refine EN (cT [4,9,11] (by kernel_rfl) rfl (aG rfl ?_ ?_));refine LG 0 Y3 (.int .i64 (s.view.epoch)) ?_ (hc:=by exact λa_=>(cf (s.rep ⟨(a_:Nat×Value).1,(.pointer (some ⟨vb,0,none⟩)),a_.2⟩) 0 rfl (by decide) (bi _ rfl)));refine EN (cT [9,11] (by kernel_rfl) rfl (aG rfl ?_ ?_));refine CE jP (bI vb vt) (SM [1]) ?_;refine EN (ta 10 rfl (lm MsgT.zero (MsgT.mk 3 0 RowT.zero 0 s.view.epoch vt.ballot BallotT.zero ChangeT.zero ViewT.zero) [(0,[Value.int .i64 3]),(4,[Value.int .i64 s.view.epoch]),(5,ints vt.ballot.flat)] bf bv (g:=MsgT.sg)) ?_);refine AL 11 ?_;refine XZ mB (ints MsgT.zero.flat) λb4=>?_
 refine EN (AL 12 ?_);refine SW 0 cb aI ?_;refine EN (DN ?_)
 exact aF
  SB
  (λ_ s=>am [2,1,0] rfl s)
  (tl1 ((b4):(Nat)) trivial)
 refine aG rfl ?_ ?_;refine XZ mB (ints MsgT.zero.flat) λb4=>?_
 refine EN (AL 9 ?_);refine CE jP (bI vb vt) (SM [2]) ?_;refine EN (ta 10 rfl (lm MsgT.zero (MsgT.mk 3 0 RowT.zero 0 s.view.epoch vt.ballot BallotT.zero ChangeT.zero ViewT.zero) [(0,[Value.int .i64 3]),(4,[Value.int .i64 s.view.epoch]),(5,ints vt.ballot.flat)] bf bv (g:=MsgT.sg)) ?_);refine AL 12 ?_;refine SW 1 cb aI ?_;refine EN (DN ?_)
 exact aF
  SB
  (λ_ s=>am [2,0,0] rfl s)
  (tl1 ((b4):(Nat)) trivial)
 exact bJ;refine aG rfl ?_ ?_;refine CE jP (bI vb vt) (SM [1]) ?_;refine EN (cT [4,11] (by kernel_rfl) rfl (aG rfl ?_ ?_));refine LG 1 Y3 (.int .i64 (s.view.epoch)) ?_ (hc:=by exact λa_=>(cf (s.rep ⟨(a_:Nat×Value).1,(.pointer (some ⟨vb,0,none⟩)),a_.2⟩) 0 rfl (by decide) (bi _ rfl)));refine EN (ta 10 rfl (lm MsgT.zero (MsgT.mk 3 0 RowT.zero 0 s.view.epoch vt.ballot BallotT.zero ChangeT.zero ViewT.zero) [(0,[Value.int .i64 3]),(4,[Value.int .i64 s.view.epoch]),(5,ints vt.ballot.flat)] bf bv (g:=MsgT.sg)) ?_);refine AL 11 ?_;refine XZ mB (ints MsgT.zero.flat) λb4=>?_
 refine EN (AL 12 ?_);refine SW 0 cb aI ?_;refine EN (DN ?_)
 exact aF
  SB
  (λ_ s=>am [2,1,0] rfl s)
  (tl1 ((b4):(Nat)) trivial)
 refine aG rfl ?_ ?_;refine XZ mB (ints MsgT.zero.flat) λb4=>?_
 refine EN (AL 4 ?_);refine LG 2 Y3 (.int .i64 (s.view.epoch)) ?_ (hc:=by exact λa_=>(cf (s.rep ⟨(a_:Nat×Value).1,(.pointer (some ⟨vb,0,none⟩)),a_.2⟩) 0 rfl (by decide) (bi _ rfl)));refine EN (ta 10 rfl (lm MsgT.zero (MsgT.mk 3 0 RowT.zero 0 s.view.epoch vt.ballot BallotT.zero ChangeT.zero ViewT.zero) [(0,[Value.int .i64 3]),(4,[Value.int .i64 s.view.epoch]),(5,ints vt.ballot.flat)] bf bv (g:=MsgT.sg)) ?_);refine AL 12 ?_;refine SW 0 cb aI ?_;refine EN (DN ?_)
 exact aF
  SB
  (λ_ s=>am [2,1,0] rfl s)
  (tl1 ((b4):(Nat)) trivial)
 exact bJ;refine aG rfl ?_ ?_;refine XZ mB (ints MsgT.zero.flat) λb4=>?_
 refine EN (cT [4,9] (by kernel_rfl) rfl (aG rfl ?_ ?_));refine LG 1 Y3 (.int .i64 (s.view.epoch)) ?_ (hc:=by exact λa_=>(cf (s.rep ⟨(a_:Nat×Value).1,(.pointer (some ⟨vb,0,none⟩)),a_.2⟩) 0 rfl (by decide) (bi _ rfl)));refine EN (AL 9 ?_);refine CE jP (bI vb vt) (SM [2]) ?_;refine EN (ta 10 rfl (lm MsgT.zero (MsgT.mk 3 0 RowT.zero 0 s.view.epoch vt.ballot BallotT.zero ChangeT.zero ViewT.zero) [(0,[Value.int .i64 3]),(4,[Value.int .i64 s.view.epoch]),(5,ints vt.ballot.flat)] bf bv (g:=MsgT.sg)) ?_);refine AL 12 ?_;refine SW 1 cb aI ?_;refine EN (DN ?_)
 exact aF
  SB
  (λ_ s=>am [2,0,0] rfl s)
  (tl1 ((b4):(Nat)) trivial)
 refine aG rfl ?_ ?_;refine CE jP (bI vb vt) (SM [2]) ?_;refine EN (AL 4 ?_);refine LG 2 Y3 (.int .i64 (s.view.epoch)) ?_ (hc:=by exact λa_=>(cf (s.rep ⟨(a_:Nat×Value).1,(.pointer (some ⟨vb,0,none⟩)),a_.2⟩) 0 rfl (by decide) (bi _ rfl)));refine EN (ta 10 rfl (lm MsgT.zero (MsgT.mk 3 0 RowT.zero 0 s.view.epoch vt.ballot BallotT.zero ChangeT.zero ViewT.zero) [(0,[Value.int .i64 3]),(4,[Value.int .i64 s.view.epoch]),(5,ints vt.ballot.flat)] bf bv (g:=MsgT.sg)) ?_);refine AL 12 ?_;refine SW 1 cb aI ?_;refine EN (DN ?_)
 exact aF
  SB
  (λ_ s=>am [2,0,0] rfl s)
  (tl1 ((b4):(Nat)) trivial)
 exact bJ;exact bJ;refine aG rfl ?_ ?_;refine XZ mB (ints MsgT.zero.flat) λb4=>?_
 refine EN (cT [4,8] (by kernel_rfl) rfl (aG rfl ?_ ?_));refine LG 1 Y3 (.int .i64 (s.view.epoch)) ?_ (hc:=by exact λa_=>(cf (s.rep ⟨(a_:Nat×Value).1,(.pointer (some ⟨vb,0,none⟩)),a_.2⟩) 0 rfl (by decide) (bi _ rfl)));refine EN (AL 8 ?_);refine LG 1 iT (.pointer (some ⟨vb,0,none⟩)) ?_ (hc:=by exact λa_=>(bT _ rfl));refine EN (AL 9 ?_);refine CE jP (bI vb vt) (SM [2]) ?_;refine EN (ta 10 rfl (lm MsgT.zero (MsgT.mk 3 0 RowT.zero 0 s.view.epoch vt.ballot BallotT.zero ChangeT.zero ViewT.zero) [(0,[Value.int .i64 3]),(4,[Value.int .i64 s.view.epoch]),(5,ints vt.ballot.flat)] bf bv (g:=MsgT.sg)) ?_);refine AL 12 ?_;refine SW 1 cb aI ?_;refine EN (DN ?_)
 exact aF
  SB
  (λ_ s=>am [2,0,0] rfl s)
  (tl1 ((b4):(Nat)) trivial)
 refine aG rfl ?_ ?_;refine LG 1 iT (.pointer (some ⟨vb,0,none⟩)) ?_ (hc:=by exact λa_=>(bT _ rfl));refine EN (cT [4,9] (by kernel_rfl) rfl (aG rfl ?_ ?_));refine LG 1 Y3 (.int .i64 (s.view.epoch)) ?_ (hc:=by exact λa_=>(cf (s.rep ⟨(a_:Nat×Value).1,(.pointer (some ⟨vb,0,none⟩)),a_.2⟩) 0 rfl (by decide) (bi _ rfl)));refine EN (AL 9 ?_);refine CE jP (bI vb vt) (SM [2]) ?_;refine EN (ta 10 rfl (lm MsgT.zero (MsgT.mk 3 0 RowT.zero 0 s.view.epoch vt.ballot BallotT.zero ChangeT.zero ViewT.zero) [(0,[Value.int .i64 3]),(4,[Value.int .i64 s.view.epoch]),(5,ints vt.ballot.flat)] bf bv (g:=MsgT.sg)) ?_);refine AL 12 ?_;refine SW 1 cb aI ?_;refine EN (DN ?_)
 exact aF
  SB
  (λ_ s=>am [2,0,0] rfl s)
  (tl1 ((b4):(Nat)) trivial)
 refine aG rfl ?_ ?_;refine CE jP (bI vb vt) (SM [2]) ?_;refine EN (AL 4 ?_);refine LG 2 Y3 (.int .i64 (s.view.epoch)) ?_ (hc:=by exact λa_=>(cf (s.rep ⟨(a_:Nat×Value).1,(.pointer (some ⟨vb,0,none⟩)),a_.2⟩) 0 rfl (by decide) (bi _ rfl)));refine EN (ta 10 rfl (lm MsgT.zero (MsgT.mk 3 0 RowT.zero 0 s.view.epoch vt.ballot BallotT.zero ChangeT.zero ViewT.zero) [(0,[Value.int .i64 3]),(4,[Value.int .i64 s.view.epoch]),(5,ints vt.ballot.flat)] bf bv (g:=MsgT.sg)) ?_);refine AL 12 ?_;refine SW 1 cb aI ?_;refine EN (DN ?_)
 exact aF
  SB
  (λ_ s=>am [2,0,0] rfl s)
  (tl1 ((b4):(Nat)) trivial)
 exact bJ;exact bJ;exact bJ
theorem sT{δ:Type}(V:Env δ)(r:Nat)(s:MS δ)(vt:VoteT)(hv:s.vote=some vt)(hpt:vt.putting=true)[OkR V.toDk s]:DT 113 #[.pointer (some ⟨r,0,none⟩), .iface V.T V.ov] T0 [cJ V r s] (dz (λ_ H=>H=[cJ V r (jY V.toDk s vt)])):=
 have:OkVt vt:=OkR.vote vt hv
 Leg.Does.ex (λ_ q=>nc hv q) λvb=>yj V r vb s vt hv hpt
theorem rh{δ:Type}(V:Env δ)(r:Nat)(s:MS δ)(from':Int)(m:MsgT)[OkR V.toDk s][OkMg m](hfe:from'=s.id→m.epoch=s.view.epoch)(hk:m.kind=4):TK V r 105 s from' m (pS V.toDk s from' m):=oK (by omega) (by
 cases hv:s.vote with
 |none=>exact kH V r s (oJ V.toDk from' m) from' m hfe (λe=>by omega) (λe=>by omega) (λ_=>by rw[oJ,show(du s (max s.round m.ballot.round)).vote=none from hv]) (λ_=>hv)
 |some vt=>
  have hov:OkVt vt:=OkR.vote vt hv;have h:=pP V r s vt from' m hfe (.inl hk) hv (λ_ h2=>sT V r (ld (du s (max s.round m.ballot.round)) (eW vt from' m.ballot m.had m.change).1) (eW vt from' m.ballot m.had m.change).1 rfl (DK h2))
  rwa [show(λs_:MS δ=>if m.kind=4 then oJ V.toDk from' m s_ else kG V.toDk from' m s_)=oJ V.toDk from' m from funext λ_=>if_pos hk]at h)
theorem ye{δ:Type}(V:Env δ)(r:Nat)(s:MS δ)(from':Int)(m:MsgT)[OkR V.toDk s][OkMg m](hep:m.epoch=s.view.epoch):
 DT 170 #[(.pointer (some ⟨r,0,none⟩)),(.iface V.T V.ov),(.int .i64 (from')),(.agg (ints m.flat).toArray)] T0 [cJ V r s] (dz (λ_ H=>H=[cJ V r (oz V.toDk from' m s)])):=by
 refine BD 57 Tryz.func170 rfl rfl rfl λw0 F hF=>?_
 have hpm:OkMg (kc m.epoch m.ballot (bS s.acc m.epoch m.ballot).1.had (bS s.acc m.epoch m.ballot).1.change):=OkMg.promM m.epoch inferInstance;refine sr λ_ J1=>XY (ints m.flat) λb7=>?_
 refine nx J1 (aa λ_ J2=>fg (α:=(Nat)) (λb8=>True) (λb8=>[(0,(.pointer (some ⟨r,0,none⟩))),(1,(.iface V.T V.ov)),(2,(.int .i64 (from'))),(7,(.pointer (some ⟨b7,0,none⟩))),(8,(.pointer (some ⟨b8,0,none⟩))),(9,(.bool ((bS s.acc m.epoch m.ballot).2)))]) (λb8=>[cJ V r s,ak b7 (ints m.flat) 178,ak b8 (ints ((bS s.acc m.epoch m.ballot).1).flat) 118]) (λb8 hinv=>?_) (λtl2=>?_));have _:=hinv;refine ac J2 (aa λ_ J3=>sr λ_ J4=>PS ?_);refine bc ?_ ?_<;>intro h22;refine PS ?_;refine nx J4 (CN (qx J3 (aa λ_ J5=>aa λ_ J6=>DC bm (BL 2) (cZ 0 rfl rfl) ?_)));refine FD 0 1 jb cz ?_;refine ta 1 rfl (aM (vs:=ints (((bS s.acc m.epoch m.ballot).1).vow).flat) rfl kg rfl cz rfl (λ_ h=>h.2.1) (ap (((bS s.acc m.epoch m.ballot).1).vow)) (P0 ((bS s.acc m.epoch m.ballot).1) 0 rfl (by decide) (whole (ap (((bS s.acc m.epoch m.ballot).1).vow))))) ?_;refine PD 2 ?_;refine PD 3 ?_;refine FD 4 1058 bn dF ?_;refine FD 5 1059 jb cz ?_;refine ta 6 rfl (gh (vs:=ints s.acc.vow.flat) rfl kg rfl cz rfl (λ_ h=>h.2.2.1) (ap s.acc.vow) (λa_=>(yG (s.rep a_) 1 rfl (by decide) (P0 ((s.rep a_).acc) 0 rfl (by decide) (whole (ap (((s.rep a_).acc).vow))))))) ?_
 refine ta 7 rfl (KJ (a:=(((bS s.acc m.epoch m.ballot).1).vow).flat) (b:=s.acc.vow.flat) (m:=6) (c:=2) L0 LQ rfl Mt (dq (ap (((bS s.acc m.epoch m.ballot).1).vow))) (dq (ap s.acc.vow)) ⟨fS Hn Hu (dq (ap (((bS s.acc m.epoch m.ballot).1).vow))),fS Hn Hu (dq (ap s.acc.vow))⟩ (OkAc.vow inferInstance) (OkAc.vow inferInstance) rfl rfl rfl) ?_;refine jc ?_ ?_<;>intro h31;refine DN (ac J6 (CY (aa λ_ J7=>sr λ_ J8=>PS ?_)));refine FA 177 bf aQ ?_;refine LU 1 Y3 (eO m rfl) ?_;refine FA 178 bf cz ?_;refine LV 1 kg cz ap oC (y:=m.ballot) ?_;refine tp (lm RecT.zero (RecT.mk 3 0 RowT.zero m.epoch m.ballot ChangeT.zero ViewT.zero) [(0,[Value.int .i64 3]),(3,[Value.int .i64 m.epoch]),(4,ints m.ballot.flat)] je fh (g:=RecT.sg)) ?_;refine CE w4 (lv V r s (gT m.epoch m.ballot)) ID ?_;refine PS ?_;refine ao ?_ ?_<;>intro h39;refine nx J8 (CY (ai (af (af (WK [0] (dP rfl ?_))))));exact MQ (by rw[oz,if_neg (by rw[h22];decide),if_pos h31,if_pos h39]);refine nx J8 (CN (qx J7 (ae (PS ?_))));refine LW 2 jb dF bb ?_;refine PS ?_;refine FA 1058 bn dF ?_
 refine g9 (vs:=ints ((bS s.acc m.epoch m.ballot).1).flat) (i:=0) (ab rfl) rfl rfl rfl rfl rfl (by rw[(bb ((bS s.acc m.epoch m.ballot).1))];exact dF) (bC _) rfl rfl (λ_=>LC (cY _) (bb _)) (λa_=>(ky ((dC V.toDk s (gT m.epoch m.ballot)).rep a_) 0 rfl (by have h1:=(bb ((bS s.acc m.epoch m.ballot).1));omega) (ct ((bb (((dC V.toDk s (gT m.epoch m.ballot)).rep a_).acc)).trans (bb ((bS s.acc m.epoch m.ballot).1)).symm)))) (nx J5 (ae (P3 ?_)));refine FA 177 bf aQ ?_;refine LU 1 Y3 (eO m rfl) ?_;refine FA 178 bf cz ?_;refine LV 1 kg cz ap oC (y:=m.ballot) ?_;refine FA 3 jb cz ?_;refine LV 2 kg cz ap AccT.sp_had (y:=(((bS s.acc m.epoch m.ballot).1).had)) ?_;refine FA 5 jb fI ?_;refine LV 2 np fI aL AccT.sp_change (y:=(((bS s.acc m.epoch m.ballot).1).change)) ?_;refine tp (lm MsgT.zero (MsgT.mk 4 0 RowT.zero 0 m.epoch m.ballot (((bS s.acc m.epoch m.ballot).1).had) (((bS s.acc m.epoch m.ballot).1).change) ViewT.zero) [(0,[Value.int .i64 4]),(4,[Value.int .i64 m.epoch]),(5,ints m.ballot.flat),(6,ints (((bS s.acc m.epoch m.ballot).1).had).flat),(7,ints (((bS s.acc m.epoch m.ballot).1).change).flat)] bf bv (g:=MsgT.sg)) ?_
 refine CZ jq (gp V r (vl (dC V.toDk s (gT m.epoch m.ballot)) (bS s.acc m.epoch m.ballot).1) from' (kc m.epoch m.ballot (bS s.acc m.epoch m.ballot).1.had (bS s.acc m.epoch m.ballot).1.change) (λs_=>pS V.toDk s_ s_.id (kc m.epoch m.ballot (bS s.acc m.epoch m.ballot).1.had (bS s.acc m.epoch m.ballot).1.change)) (λ_=>rh V r (vl (dC V.toDk s (gT m.epoch m.ballot)) (bS s.acc m.epoch m.ballot).1) (vl (dC V.toDk s (gT m.epoch m.ballot)) (bS s.acc m.epoch m.ballot).1).id (kc m.epoch m.ballot (bS s.acc m.epoch m.ballot).1.had (bS s.acc m.epoch m.ballot).1.change) (λ_=>hep) rfl)) ID λvR=>?_
 refine au (WK [0] (bD rfl ?_));exact MQ (by rw[oz,if_neg (by rw[h22];decide),if_pos h31,if_neg h39];rfl);refine DN (ac J6 (CN (qx J5 (ae (P3 ?_)))));refine FA 177 bf aQ ?_;refine LU 1 Y3 (eO m rfl) ?_;refine FA 178 bf cz ?_;refine LV 1 kg cz ap oC (y:=m.ballot) ?_;refine FA 3 jb cz ?_;refine LV 2 kg cz ap AccT.sp_had (y:=(((bS s.acc m.epoch m.ballot).1).had)) ?_;refine FA 5 jb fI ?_;refine LV 2 np fI aL AccT.sp_change (y:=(((bS s.acc m.epoch m.ballot).1).change)) ?_;refine tp (lm MsgT.zero (MsgT.mk 4 0 RowT.zero 0 m.epoch m.ballot (((bS s.acc m.epoch m.ballot).1).had) (((bS s.acc m.epoch m.ballot).1).change) ViewT.zero) [(0,[Value.int .i64 4]),(4,[Value.int .i64 m.epoch]),(5,ints m.ballot.flat),(6,ints (((bS s.acc m.epoch m.ballot).1).had).flat),(7,ints (((bS s.acc m.epoch m.ballot).1).change).flat)] bf bv (g:=MsgT.sg)) ?_;refine CZ jq (gp V r s from' (kc m.epoch m.ballot (bS s.acc m.epoch m.ballot).1.had (bS s.acc m.epoch m.ballot).1.change) (λs_=>pS V.toDk s_ s_.id (kc m.epoch m.ballot (bS s.acc m.epoch m.ballot).1.had (bS s.acc m.epoch m.ballot).1.change)) (λ_=>rh V r s s.id (kc m.epoch m.ballot (bS s.acc m.epoch m.ballot).1.had (bS s.acc m.epoch m.ballot).1.change) (λ_=>hep) rfl)) ID λvR=>?_
 refine au (WK [0] (bD rfl ?_));exact MQ (by rw[oz,if_neg (by rw[h22];decide),if_neg h31];rfl);refine PS ?_;refine nx J4 (CY (ai (af (WK [0] (dP rfl ?_)))));exact MQ (by rw[oz,if_pos h22]);refine DC bm (cZ 1 rfl rfl) (BL 0) ?_;refine PD 0 ?_;refine PD 1 ?_;refine FD 2 1058 bn dF ?_;refine ta 3 rfl (gh (vs:=ints s.acc.flat) rfl jb rfl dF rfl (λ_ h=>h.2.1) (bb s.acc) (λa_=>(yG (s.rep a_) 0 rfl (by decide) (whole (bb ((s.rep a_).acc)))))) ?_;refine FD 4 177 bf aQ ?_;refine LR 5 Y3 (eO m rfl) ?_;refine FD 6 178 bf cz ?_;refine ta 7 rfl (aM (vs:=ints m.ballot.flat) rfl kg rfl cz rfl (λ_ h=>h.2.2.1) (ap m.ballot) (jg m 0 rfl (by decide) (whole (ap m.ballot)))) ?_;refine cT [8,12] (by kernel_rfl) rfl (aG rfl ?_ ?_);refine CE FG (nM s.acc m.epoch m.ballot) ID ?_;refine EN (PD 9 ?_);refine PD 10 ?_;refine PD 11 ?_;refine oA ?_ ?_<;>intro h21;refine AL 12 ?_;refine XZ vT (ints AccT.zero.flat) λb8=>?_
 refine EN (AL 13 ?_);refine SW 0 dF bb ?_;refine EN (PD 14 ?_);refine DN ?_
 exact aF
  (aT (aT (aT (aT (aT (bz rfl (by rw[h21]) SB))))))
  (λ_ s=>am [2,1,0] rfl s)
  (tl2 ((b8):(Nat)) trivial)
 refine AL 12 ?_;refine XZ vT (ints AccT.zero.flat) λb8=>?_
 refine EN (AL 13 ?_);refine SW 0 dF bb ?_;refine EN (PD 14 ?_);refine DN ?_
 exact aF
  (aT (aT (aT (aT (aT (bz rfl (by rw[h21]) SB))))))
  (λ_ s=>am [2,1,0] rfl s)
  (tl2 ((b8):(Nat)) trivial)
 refine aG rfl ?_ ?_;refine XZ vT (ints AccT.zero.flat) λb8=>?_
 refine EN (AL 8 ?_);refine CE FG (nM s.acc m.epoch m.ballot) ID ?_;refine EN (PD 9 ?_);refine PD 10 ?_;refine PD 11 ?_;refine oA ?_ ?_<;>intro h21;refine AL 13 ?_;refine SW 0 dF bb ?_;refine EN (PD 14 ?_);refine DN ?_
 exact aF
  (aT (aT (aT (aT (aT (bz rfl (by rw[h21]) SB))))))
  (λ_ s=>am [2,1,0] rfl s)
  (tl2 ((b8):(Nat)) trivial)
 refine AL 13 ?_;refine SW 0 dF bb ?_;refine EN (PD 14 ?_);refine DN ?_
 exact aF
  (aT (aT (aT (aT (aT (bz rfl (by rw[h21]) SB))))))
  (λ_ s=>am [2,1,0] rfl s)
  (tl2 ((b8):(Nat)) trivial)
 exact bJ
theorem wm{δ:Type}(V:Env δ)(r:Nat)(s:MS δ)(from':Int)(m:MsgT)[OkR V.toDk s][OkMg m](hfe:from'=s.id→m.epoch=s.view.epoch)(hk:m.kind=3):TK V r 105 s from' m (ri V.toDk s from' m):=oK (by omega) (kH V r s (oz V.toDk from' m) from' m hfe (λ_ hep=>ye V r (du s (max s.round m.ballot.round)) from' m hep) (λe _=>by omega) (λe=>by omega) (λe=>by omega))
theorem yk{δ:Type}(V:Env δ)(r vb:Nat)(s:MS δ)(vt:VoteT)(hv:s.vote=some vt)(hpt:vt.putting=false)[OkR V.toDk s][OkVt vt]:
 DT 113 #[(.pointer (some ⟨r,0,none⟩)),(.iface V.T V.ov)] T0 [vM V r s (.pointer (some ⟨vb,0,none⟩)),ak vb (VoteT.cells vt) 227] (dz (λ_ H=>H=[cJ V r (lO V.toDk s vt)])):=by
 refine BD 68 Tryz.func113 rfl rfl rfl λw0 F hF=>aa λ_ J1=>fg (α:=(Nat)) (λb4=>True) (λb4=>[(0,(.pointer (some ⟨r,0,none⟩))),(1,(.iface V.T V.ov)),(4,(.pointer (some ⟨b4,0,none⟩)))]) (λb4=>[vM V r s (.pointer (some ⟨vb,0,none⟩)),ak vb (VoteT.cells vt) 227,ak b4 (ints (fz s.view.epoch vt.ballot).flat) 178]) (λb4 hinv=>?_) (λtl1=>?_)
 have _:=hinv;refine ac J1 (aa λ_ J2=>sr λ_ J3=>P2 ?_);refine FA 1067 bn jo ?_;refine LG 0 iT (.pointer (some ⟨vb,0,none⟩)) ?_ (hc:=by exact λa_=>(bT _ rfl));refine CE Lc (n6 vb vt) (SM [1]) ?_;refine bc ?_ ?_<;>intro h22
 · rw[hpt]at h22;cases h22
 refine nx J3 (CN (qx J2 (sr λ_ J4=>cA (H':=cJ V r s::[ak b4 (ints (fz s.view.epoch vt.ballot).flat) 178]) (λ_ q=>om hv (aC [1,0] rfl q)) (P2 ?_))));refine FA 2 bn bk ?_;refine LZ 0 eS bk an s.view ?_ (hc:=by exact λ_=>cX _);refine XZ r9 (ints ViewT.zero.flat) λb5=>?_
 refine SW 0 bk an ?_;refine nx J4 (aa λ_ J5=>sr λ_ J6=>PS ?_);refine nx J6 (aq ?_)
 refine bw (α:=(Nat)) (λk=>k≤5) (λk=>[(0,(.pointer (some ⟨r,0,none⟩))),(1,(.iface V.T V.ov)),(4,(.pointer (some ⟨b4,0,none⟩))),(5,(.pointer (some ⟨b5,0,none⟩))),(34,(.int .i64 (((k:Nat):Int))))]) (λk=>[ak b5 (ints s.view.flat) 44,ak b4 (ints (fz s.view.epoch vt.ballot).flat) 178,cJ V r (gW V.toDk s (nu s.id (fz s.view.epoch vt.ballot) (λi=>iZ s.view ((i:Nat):Int)) k))]) (λk=>5-k) 0
  (aN _) SB
  (λ_ q=>by
  rw[show nu s.id (fz s.view.epoch vt.ballot) (λi=>iZ s.view ((i:Nat):Int)) 0=[]from rfl,pZ]
  exact am [0,1,0] rfl q) (λk hinv=>?_)
 obtain hk:=hinv;refine sr λ_ J7=>PS ?_
 refine ao ?_ ?_<;>intro h35;refine nx J7 (aa λ_ J8=>CY (qx J8 (aa λ_ J9=>aq (sr λ_ J10=>P2 ?_))));refine nx J10 (sr λ_ J11=>P3 ?_);refine FA 0 bn aQ ?_;refine LG 2 Y3 (.int .i64 (s.id)) ?_ (hc:=by exact λa_=>(cE _ rfl));refine PS ?_;refine ao ?_ ?_<;>intro h42;refine PS ?_;refine LW 0 eS bk an ?_;refine PS ?_;refine CE p4 (dI s.view ((k:Nat):Int)) ID ?_;refine bc ?_ ?_<;>intro h46;refine PS ?_;refine nx J11 (CY (ae (P3 ?_)));refine LW 1 bf cb aI ?_;refine CZ jq (oe V r s (nu s.id (fz s.view.epoch vt.ballot) (λi=>iZ s.view ((i:Nat):Int)) k) ((k:Nat):Int) (fz s.view.epoch vt.ballot) h42) (SM [2]) λvR=>?_
 refine au (ag (ac J9 (ae (AD ?_))));refine PS ?_;refine au ?_
 exact aK ((k+1):(Nat)) (by omega) (by show 5- (k+1)<5-k;omega)
  SB
  (λ_ q=>by
   rw[iM,if_pos ⟨h42,h46⟩]
   exact am [1,1,0] rfl q)
 refine PS ?_;refine nx J11 (CN (aU (ag (ac J9 (ae (AD ?_))))));refine PS ?_;refine au ?_
 exact aK ((k+1):(Nat)) (by omega) (by show 5- (k+1)<5-k;omega)
  SB
  (λ_ q=>by
   rw[iM,if_neg (λh=>by have:=h.2;rw[h46]at this;cases this)];rw[aP]
   exact am [0,0,0] rfl q)
 refine PS ?_
 iterate 3 refine UF ?_
 refine PS ?_;refine nx J11 (CN (aU (ag (ac J9 (ae (AD ?_))))));refine PS ?_;refine au ?_
 exact aK ((k+1):(Nat)) (by omega) (by show 5- (k+1)<5-k;omega)
  SB
  (λ_ q=>by
   rw[iM,if_neg (λh=>h42 h.1)];rw[aP]
   exact am [0,0,0] rfl q)
 obtain rfl:k=5:=by omega
 refine nx J7 (aa λ_ J12=>CN (aX (aA (aA (br (ac J5 (aa λ_ J13=>DC bm (BL 0) (cZ 2 rfl rfl) ?_)))))));refine LY 0 eS bk an ?_;refine PD 1 ?_;refine PD 2 ?_;refine FD 3 0 bn aQ ?_;refine ta 4 rfl (dm (v:=(.int .i64 ((js V.toDk s (fz s.view.epoch vt.ballot)).id))) rfl Y3 rfl rfl (λ_ h=>h.2.2.1) (λa_=>(cE _ rfl))) ?_;refine AL 5 ?_;refine CE p4 (dI s.view ((js V.toDk s (fz s.view.epoch vt.ballot)).id)) ID ?_;refine bc ?_ ?_<;>intro h59;refine EN (DN (ac J13 (CY (D1 1 bm ?_))));refine PD 0 ?_;refine PD 1 ?_;refine PD 2 ?_;refine PD 3 ?_;refine FD 4 0 bn aQ ?_;refine LY 6 bf cb aI ?_;refine AL 5 ?_;refine LG 2 Y3 (.int .i64 ((js V.toDk s (fz s.view.epoch vt.ballot)).id)) ?_ (hc:=by exact λa_=>(cE _ rfl));refine EN (AL 7 ?_);refine CZ jq (gp V r (js V.toDk s (fz s.view.epoch vt.ballot)) s.id (fz s.view.epoch vt.ballot) (λs_=>ri V.toDk s_ s_.id (fz s.view.epoch vt.ballot)) (λ_=>wm V r (js V.toDk s (fz s.view.epoch vt.ballot)) s.id (fz s.view.epoch vt.ballot) (λ_=>rfl) rfl)) (SM [2]) λvR=>?_
 refine EN (DN (WK [0] (bD rfl ?_)));exact MQ (by rw[lO,iD,if_pos (show iZ s.view s.id=true from h59),mw,if_pos (show s.id=(js V.toDk s (fz s.view.epoch vt.ballot)).id from rfl)]<;>rfl);refine EN (DN (ac J13 (CN (aU (WK [2] (bD rfl ?_))))));exact MQ (by rw[lO,iD,if_neg (by rw[show iZ s.view s.id=false from h59];decide)]<;>rfl);refine D1 1 bm ?_;refine PD 0 ?_;refine PD 1 ?_;refine FD 2 2 bn bk ?_;refine FD 3 2 eS aQ ?_;refine PD 5 ?_;refine PD 6 ?_;refine FD 7 1067 bn jo ?_;refine cT [4,8,11] (by kernel_rfl) rfl (aG rfl ?_ ?_);refine LG 0 Y3 (.int .i64 (s.view.epoch)) ?_ (hc:=by exact λa_=>(cf (s.rep ⟨(a_:Nat×Value).1,(.pointer (some ⟨vb,0,none⟩)),a_.2⟩) 0 rfl (by decide) (bi _ rfl)));refine EN (cT [8,11] (by kernel_rfl) rfl (aG rfl ?_ ?_));refine LG 0 iT (.pointer (some ⟨vb,0,none⟩)) ?_ (hc:=by exact λa_=>(bT _ rfl));refine EN (cT [9,11] (by kernel_rfl) rfl (aG rfl ?_ ?_));refine CE jP (bI vb vt) (SM [1]) ?_;refine EN (ta 10 rfl (lm MsgT.zero (MsgT.mk 3 0 RowT.zero 0 s.view.epoch vt.ballot BallotT.zero ChangeT.zero ViewT.zero) [(0,[Value.int .i64 3]),(4,[Value.int .i64 s.view.epoch]),(5,ints vt.ballot.flat)] bf bv (g:=MsgT.sg)) ?_);refine AL 11 ?_;refine XZ mB (ints MsgT.zero.flat) λb4=>?_
 refine EN (AL 12 ?_);refine SW 0 cb aI ?_;refine EN (DN ?_)
 exact aF
  SB
  (λ_ s=>am [2,1,0] rfl s)
  (tl1 ((b4):(Nat)) trivial)
 refine aG rfl ?_ ?_;refine XZ mB (ints MsgT.zero.flat) λb4=>?_
 refine EN (AL 9 ?_);refine CE jP (bI vb vt) (SM [2]) ?_;refine EN (ta 10 rfl (lm MsgT.zero (MsgT.mk 3 0 RowT.zero 0 s.view.epoch vt.ballot BallotT.zero ChangeT.zero ViewT.zero) [(0,[Value.int .i64 3]),(4,[Value.int .i64 s.view.epoch]),(5,ints vt.ballot.flat)] bf bv (g:=MsgT.sg)) ?_);refine AL 12 ?_;refine SW 1 cb aI ?_;refine EN (DN ?_)
 exact aF
  SB
  (λ_ s=>am [2,0,0] rfl s)
  (tl1 ((b4):(Nat)) trivial)
 exact bJ;refine aG rfl ?_ ?_;refine XZ mB (ints MsgT.zero.flat) λb4=>?_
 refine EN (AL 8 ?_);refine LG 1 iT (.pointer (some ⟨vb,0,none⟩)) ?_ (hc:=by exact λa_=>(bT _ rfl));refine EN (AL 9 ?_);refine CE jP (bI vb vt) (SM [2]) ?_;refine EN (ta 10 rfl (lm MsgT.zero (MsgT.mk 3 0 RowT.zero 0 s.view.epoch vt.ballot BallotT.zero ChangeT.zero ViewT.zero) [(0,[Value.int .i64 3]),(4,[Value.int .i64 s.view.epoch]),(5,ints vt.ballot.flat)] bf bv (g:=MsgT.sg)) ?_);refine AL 12 ?_;refine SW 1 cb aI ?_;refine EN (DN ?_)
 exact aF
  SB
  (λ_ s=>am [2,0,0] rfl s)
  (tl1 ((b4):(Nat)) trivial)
 exact bJ;refine aG rfl ?_ ?_;refine LG 0 iT (.pointer (some ⟨vb,0,none⟩)) ?_ (hc:=by exact λa_=>(bT _ rfl));refine EN (cT [4,9,11] (by kernel_rfl) rfl (aG rfl ?_ ?_));refine LG 0 Y3 (.int .i64 (s.view.epoch)) ?_ (hc:=by exact λa_=>(cf (s.rep ⟨(a_:Nat×Value).1,(.pointer (some ⟨vb,0,none⟩)),a_.2⟩) 0 rfl (by decide) (bi _ rfl)));refine EN (cT [9,11] (by kernel_rfl) rfl (aG rfl ?_ ?_));refine CE jP (bI vb vt) (SM [1]) ?_;refine EN (ta 10 rfl (lm MsgT.zero (MsgT.mk 3 0 RowT.zero 0 s.view.epoch vt.ballot BallotT.zero ChangeT.zero ViewT.zero) [(0,[Value.int .i64 3]),(4,[Value.int .i64 s.view.epoch]),(5,ints vt.ballot.flat)] bf bv (g:=MsgT.sg)) ?_);refine AL 11 ?_;refine XZ mB (ints MsgT.zero.flat) λb4=>?_
 refine EN (AL 12 ?_);refine SW 0 cb aI ?_;refine EN (DN ?_)
 exact aF
  SB
  (λ_ s=>am [2,1,0] rfl s)
  (tl1 ((b4):(Nat)) trivial)
 refine aG rfl ?_ ?_;refine XZ mB (ints MsgT.zero.flat) λb4=>?_
 refine EN (AL 9 ?_);refine CE jP (bI vb vt) (SM [2]) ?_;refine EN (ta 10 rfl (lm MsgT.zero (MsgT.mk 3 0 RowT.zero 0 s.view.epoch vt.ballot BallotT.zero ChangeT.zero ViewT.zero) [(0,[Value.int .i64 3]),(4,[Value.int .i64 s.view.epoch]),(5,ints vt.ballot.flat)] bf bv (g:=MsgT.sg)) ?_);refine AL 12 ?_;refine SW 1 cb aI ?_;refine EN (DN ?_)
 exact aF
  SB
  (λ_ s=>am [2,0,0] rfl s)
  (tl1 ((b4):(Nat)) trivial)
 exact bJ;refine aG rfl ?_ ?_;refine CE jP (bI vb vt) (SM [1]) ?_;refine EN (cT [4,11] (by kernel_rfl) rfl (aG rfl ?_ ?_));refine LG 1 Y3 (.int .i64 (s.view.epoch)) ?_ (hc:=by exact λa_=>(cf (s.rep ⟨(a_:Nat×Value).1,(.pointer (some ⟨vb,0,none⟩)),a_.2⟩) 0 rfl (by decide) (bi _ rfl)));refine EN (ta 10 rfl (lm MsgT.zero (MsgT.mk 3 0 RowT.zero 0 s.view.epoch vt.ballot BallotT.zero ChangeT.zero ViewT.zero) [(0,[Value.int .i64 3]),(4,[Value.int .i64 s.view.epoch]),(5,ints vt.ballot.flat)] bf bv (g:=MsgT.sg)) ?_);refine AL 11 ?_;refine XZ mB (ints MsgT.zero.flat) λb4=>?_
 refine EN (AL 12 ?_);refine SW 0 cb aI ?_;refine EN (DN ?_)
 exact aF
  SB
  (λ_ s=>am [2,1,0] rfl s)
  (tl1 ((b4):(Nat)) trivial)
 refine aG rfl ?_ ?_;refine XZ mB (ints MsgT.zero.flat) λb4=>?_
 refine EN (AL 4 ?_);refine LG 2 Y3 (.int .i64 (s.view.epoch)) ?_ (hc:=by exact λa_=>(cf (s.rep ⟨(a_:Nat×Value).1,(.pointer (some ⟨vb,0,none⟩)),a_.2⟩) 0 rfl (by decide) (bi _ rfl)));refine EN (ta 10 rfl (lm MsgT.zero (MsgT.mk 3 0 RowT.zero 0 s.view.epoch vt.ballot BallotT.zero ChangeT.zero ViewT.zero) [(0,[Value.int .i64 3]),(4,[Value.int .i64 s.view.epoch]),(5,ints vt.ballot.flat)] bf bv (g:=MsgT.sg)) ?_);refine AL 12 ?_;refine SW 0 cb aI ?_;refine EN (DN ?_)
 exact aF
  SB
  (λ_ s=>am [2,1,0] rfl s)
  (tl1 ((b4):(Nat)) trivial)
 exact bJ;refine aG rfl ?_ ?_;refine XZ mB (ints MsgT.zero.flat) λb4=>?_
 refine EN (cT [4,9] (by kernel_rfl) rfl (aG rfl ?_ ?_));refine LG 1 Y3 (.int .i64 (s.view.epoch)) ?_ (hc:=by exact λa_=>(cf (s.rep ⟨(a_:Nat×Value).1,(.pointer (some ⟨vb,0,none⟩)),a_.2⟩) 0 rfl (by decide) (bi _ rfl)));refine EN (AL 9 ?_);refine CE jP (bI vb vt) (SM [2]) ?_;refine EN (ta 10 rfl (lm MsgT.zero (MsgT.mk 3 0 RowT.zero 0 s.view.epoch vt.ballot BallotT.zero ChangeT.zero ViewT.zero) [(0,[Value.int .i64 3]),(4,[Value.int .i64 s.view.epoch]),(5,ints vt.ballot.flat)] bf bv (g:=MsgT.sg)) ?_);refine AL 12 ?_;refine SW 1 cb aI ?_;refine EN (DN ?_)
 exact aF
  SB
  (λ_ s=>am [2,0,0] rfl s)
  (tl1 ((b4):(Nat)) trivial)
 refine aG rfl ?_ ?_;refine CE jP (bI vb vt) (SM [2]) ?_;refine EN (AL 4 ?_);refine LG 2 Y3 (.int .i64 (s.view.epoch)) ?_ (hc:=by exact λa_=>(cf (s.rep ⟨(a_:Nat×Value).1,(.pointer (some ⟨vb,0,none⟩)),a_.2⟩) 0 rfl (by decide) (bi _ rfl)));refine EN (ta 10 rfl (lm MsgT.zero (MsgT.mk 3 0 RowT.zero 0 s.view.epoch vt.ballot BallotT.zero ChangeT.zero ViewT.zero) [(0,[Value.int .i64 3]),(4,[Value.int .i64 s.view.epoch]),(5,ints vt.ballot.flat)] bf bv (g:=MsgT.sg)) ?_);refine AL 12 ?_;refine SW 1 cb aI ?_;refine EN (DN ?_)
 exact aF
  SB
  (λ_ s=>am [2,0,0] rfl s)
  (tl1 ((b4):(Nat)) trivial)
 exact bJ;exact bJ;refine aG rfl ?_ ?_;refine XZ mB (ints MsgT.zero.flat) λb4=>?_
 refine EN (cT [4,8] (by kernel_rfl) rfl (aG rfl ?_ ?_));refine LG 1 Y3 (.int .i64 (s.view.epoch)) ?_ (hc:=by exact λa_=>(cf (s.rep ⟨(a_:Nat×Value).1,(.pointer (some ⟨vb,0,none⟩)),a_.2⟩) 0 rfl (by decide) (bi _ rfl)));refine EN (AL 8 ?_);refine LG 1 iT (.pointer (some ⟨vb,0,none⟩)) ?_ (hc:=by exact λa_=>(bT _ rfl));refine EN (AL 9 ?_);refine CE jP (bI vb vt) (SM [2]) ?_;refine EN (ta 10 rfl (lm MsgT.zero (MsgT.mk 3 0 RowT.zero 0 s.view.epoch vt.ballot BallotT.zero ChangeT.zero ViewT.zero) [(0,[Value.int .i64 3]),(4,[Value.int .i64 s.view.epoch]),(5,ints vt.ballot.flat)] bf bv (g:=MsgT.sg)) ?_);refine AL 12 ?_;refine SW 1 cb aI ?_;refine EN (DN ?_)
 exact aF
  SB
  (λ_ s=>am [2,0,0] rfl s)
  (tl1 ((b4):(Nat)) trivial)
 refine aG rfl ?_ ?_;refine LG 1 iT (.pointer (some ⟨vb,0,none⟩)) ?_ (hc:=by exact λa_=>(bT _ rfl));refine EN (cT [4,9] (by kernel_rfl) rfl (aG rfl ?_ ?_));refine LG 1 Y3 (.int .i64 (s.view.epoch)) ?_ (hc:=by exact λa_=>(cf (s.rep ⟨(a_:Nat×Value).1,(.pointer (some ⟨vb,0,none⟩)),a_.2⟩) 0 rfl (by decide) (bi _ rfl)));refine EN (AL 9 ?_);refine CE jP (bI vb vt) (SM [2]) ?_;refine EN (ta 10 rfl (lm MsgT.zero (MsgT.mk 3 0 RowT.zero 0 s.view.epoch vt.ballot BallotT.zero ChangeT.zero ViewT.zero) [(0,[Value.int .i64 3]),(4,[Value.int .i64 s.view.epoch]),(5,ints vt.ballot.flat)] bf bv (g:=MsgT.sg)) ?_);refine AL 12 ?_;refine SW 1 cb aI ?_;refine EN (DN ?_)
 exact aF
  SB
  (λ_ s=>am [2,0,0] rfl s)
  (tl1 ((b4):(Nat)) trivial)
 refine aG rfl ?_ ?_;refine CE jP (bI vb vt) (SM [2]) ?_;refine EN (AL 4 ?_);refine LG 2 Y3 (.int .i64 (s.view.epoch)) ?_ (hc:=by exact λa_=>(cf (s.rep ⟨(a_:Nat×Value).1,(.pointer (some ⟨vb,0,none⟩)),a_.2⟩) 0 rfl (by decide) (bi _ rfl)));refine EN (ta 10 rfl (lm MsgT.zero (MsgT.mk 3 0 RowT.zero 0 s.view.epoch vt.ballot BallotT.zero ChangeT.zero ViewT.zero) [(0,[Value.int .i64 3]),(4,[Value.int .i64 s.view.epoch]),(5,ints vt.ballot.flat)] bf bv (g:=MsgT.sg)) ?_);refine AL 12 ?_;refine SW 1 cb aI ?_;refine EN (DN ?_)
 exact aF
  SB
  (λ_ s=>am [2,0,0] rfl s)
  (tl1 ((b4):(Nat)) trivial)
 exact bJ;exact bJ;exact bJ
theorem AA{δ:Type}(V:Env δ)(r:Nat)(s:MS δ)(vt:VoteT)(hv:s.vote=some vt)(hpt:vt.putting=false)[OkR V.toDk s]:DT 113 #[.pointer (some ⟨r,0,none⟩), .iface V.T V.ov] T0 [cJ V r s] (dz (λ_ H=>H=[cJ V r (lO V.toDk s vt)])):=
 have:OkVt vt:=OkR.vote vt hv
 Leg.Does.ex (λ_ q=>nc hv q) λvb=>yk V r vb s vt hv hpt
theorem rq{δ:Type}(V:Env δ)(r:Nat)(s:MS δ)(vt:VoteT)(hv:s.vote=some vt)[OkR V.toDk s]:DT 113 #[.pointer (some ⟨r,0,none⟩), .iface V.T V.ov] T0 [cJ V r s] (dz (λ_ H=>H=[cJ V r (nG V.toDk s vt)])):=by
 cases hp:vt.putting with
 |true=>rw[nG,if_pos hp];exact sT V r s vt hv hp
 |false=>rw[nG,if_neg (by rw[hp];decide)];exact AA V r s vt hv hp
theorem Ag{δ:Type}(V:Env δ)(r:Nat)(s:MS δ)(from':Int)(m:MsgT)[OkR V.toDk s][OkMg m](hto:from'≠s.id)(hrs:s.replies.length≤1000000):TK V r 105 s from' m (gj V.toDk s from' m):=by
 have hfe:from'=s.id→m.epoch=s.view.epoch:=λe=>absurd e hto
 by_cases h3:m.kind=3
 · rw[gj];simp only[h3];exact wm V r s from' m hfe h3
 by_cases h4:m.kind=4
 · rw[gj];simp only[h4];exact rh V r s from' m hfe h4
 by_cases h5:m.kind=5
 · rw[gj];simp only[h5];exact wl V r s from' m hfe h5
 by_cases h6:m.kind=6
 · rw[gj];simp only[h6];exact re V r s from' m hfe h6
 refine oL V r s _ from' m (λh=>?_) (λh=>?_) (λh=>?_) (λh=>?_) (λh=>?_) (λh=>?_) (λh=>by omega) (λh=>?_)
 · rw[gj,if_pos h];exact yc V r s from' m hto
 · rw[gj,if_neg (by omega),if_pos h];exact wk V r s from' m hrs
 · rw[gj,if_neg (by omega),if_neg (by omega),if_pos h]
 · rw[gj,if_neg (by omega),if_neg (by omega),if_neg (by omega),if_pos h];exact uU V r s m.view
 · rw[gj,if_neg (by omega),if_neg (by omega),if_neg (by omega),if_neg (by omega),if_pos h];exact wj V r s from' m
 · rw[gj,if_neg (by omega),if_neg (by omega),if_neg (by omega),if_neg (by omega),if_neg (by omega),if_pos h];exact oa V r s from' m
 · rw[gj,if_neg h.1,if_neg h.2.1,if_neg h.2.2.1,if_neg h.2.2.2.1,if_neg h.2.2.2.2.1,if_neg h.2.2.2.2.2.1,if_neg h3,if_neg h4,if_neg h5,if_neg h6]
end Go.Proofs.YtjblgopghhgflaaGreat
end
