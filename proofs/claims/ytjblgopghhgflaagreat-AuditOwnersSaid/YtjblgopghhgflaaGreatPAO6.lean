/-
  Joined texts:what a statement's proof reaches.
-/
import Derived.Test.YtjblgopghhgflaaGreatPAO5
set_option maxHeartbeats 8000000
set_option maxRecDepth 100000
set_option linter.unusedSimpArgs false
set_option linter.unusedVariables false
section
namespace Go.Proofs.YtjblgopghhgflaaGreat
open Go Leg Codec Api Dsk Wal
theorem FO{δ:Type}(V:Env δ)(r lg:Nat)(x:RepT)(m:RecT)(e:δ)(l:List SaidT)(hlog:x.log= .pointer (some ⟨lg,0,none⟩))(hok:V.ok e):
 DT 136 #[(.pointer (some ⟨r,0,none⟩)),(.agg (ints m.flat).toArray)] T0 [ah r (RepT.cells x) 123,V.lg lg e,V.E e l] (RI (.int .i64 (V.pt e (gj m)).2) [ah r (RepT.cells x) 123,V.lg lg (V.pt e (gj m)).1,V.E (V.pt e (gj m)).1 l]):=by
 refine BD 12 Tryz.func136 rfl rfl rfl λw0 F hF=>sr λ_ J1=>XY (ints m.flat) λb3=>?_
 refine PS ?_;refine nx J1 (ab λ_ J2=>D2 1 0 bh ?_);refine PD 0 ?_;refine PD 1 ?_;refine FD 2 1 bi LK ?_;refine LX 3 Tryz.underlying114 (.pointer (some ⟨lg,0,none⟩)) ?_ (hc:=by exact(RepT.at_log x rfl).trans (congrArg some hlog));refine LY 4 iv iI bk ?_;refine AL 5 ?_;refine CR I9 (nc m) ID λvR HR hR=>?_
 obtain⟨_,rfl,rfl⟩:=hR;revert vR;intro ue;refine EN (AL 6 ?_);refine CF Ms (V.put lg ue (gj m) e l hok (BP m)) (SM [3,3]) (λg d s=>Iy (sx 0 rfl rfl g d s)) ?_;refine EN (PD 7 ?_);exact DN (ac J2 (ai (WK [4,0,0] (au rfl rfl ⟨rfl,rfl⟩))))
theorem kT{δ:Type}(V:Env δ)(r:Nat)(s:MS δ)(m:RecT)[hs:OkR V.toDk s]:DT 136 #[.pointer (some ⟨r,0,none⟩), .agg (ints m.flat).toArray] T0 [cD V r s] (RI (.int .i64 (sa V.toDk s m)) [cD V r (eh V.toDk s m)]):=
 Leg.Does.pack λa=>Leg.Does.withinR (FO V r a.lg (s.rep a) m s.e s.o rfl hs.e) (λ_ _ _ _=>trivial) (λ_ q=>aC [0,0,2] rfl q) λv H hp=>by
  obtain⟨h1,rfl⟩:=hp;exact⟨_,λ_ q=>bj (p:=λa:Adr=>[ah r (RepT.cells ((eh V.toDk s m).rep a)) 123,V.lg a.lg (eh V.toDk s m).e,own a.rs (eh V.toDk s m).replies.length (ints ((eh V.toDk s m).replies.flatMap ReplyT.flat)) 37 3,Ed a.vo (eh V.toDk s m).vote,V.E (eh V.toDk s m).e (eh V.toDk s m).o]) a (aC [0,0,1,1,0] rfl q),h1,rfl⟩
theorem eX{δ:Type}(V:Env δ)(r:Nat)(s:MS δ)(op err val:Int)(hrs:s.replies.length≤1000000):DT 97 #[.pointer (some ⟨r,0,none⟩), .int .i64 op, .int .i64 err, .int .i64 val] T0 [cD V r s] (dm (λ_ H=>H=[cD V r (dH s op err val)])):=
 Leg.Does.pack λa=>Leg.Does.withinR (C6 r (s.rep a) op err val s.replies hrs) (λ_ _ _ _=>trivial) (λ_ q=>aC [0,1] rfl q) λv H hp=>by
  obtain⟨v',_,rfl⟩:=hp;exact⟨_,λ_ q=>bj (p:=λa:Adr=>[ah r (RepT.cells ((dH s op err val).rep a)) 123,V.lg a.lg (dH s op err val).e,own a.rs (dH s op err val).replies.length (ints ((dH s op err val).replies.flatMap ReplyT.flat)) 37 3,Ed a.vo (dH s op err val).vote,V.E (dH s op err val).e (dH s op err val).o]) {a with rs:=v'} (aC [0,1,0,0,0] rfl q),rfl⟩
theorem qZ{δ:Type}(V:Env δ)(r:Nat)(s:MS δ)(y:RowT)(op:Int)[OkR V.toDk s][OkRow y]:
 DT 98 #[(.pointer (some ⟨r,0,none⟩)),(.iface V.T V.ov),(.agg (ints y.flat).toArray),(.int .i64 (op))] T0 [cD V r s] (RI (.int .i64 (e5 V.toDk s y op).2) [cD V r (e5 V.toDk s y op).1]):=by
 refine BD 34 Tryz.func98 rfl rfl rfl λw0 F hF=>sr λ_ J1=>XY (ints y.flat) λb6=>?_
 refine PS ?_;refine nx J1 (ab λ_ J2=>sr λ_ J3=>PS ?_);refine LW 0 dD aZ ag ?_;refine tp (kI RecT.zero (RecT.mk 0 0 y 0 BallotT.zero ChangeT.zero ViewT.zero) [(0,[Value.int .i64 0]),(2,ints y.flat)] iv eF (g:=RecT.sg)) ?_;refine CE wc (kT V r s (fF y)) (SM [1]) ?_;refine PS ?_;refine nx J3 (sr λ_ J4=>P2 ?_);refine an ?_ ?_<;>intro h15;refine nx J4 (CY (sr λ_ J5=>P2 ?_));refine nx J5 (ai (ae (WK [0] (au rfl rfl ?_))));have e:e5 V.toDk s y op=(eh V.toDk s (fF y),sa V.toDk s (fF y)):=if_pos h15;exact jA e;refine nx J4 (CN (qx J2 (sr λ_ J6=>P4 ?_)));refine LW 1 dD aZ ag ?_;refine P2 ?_;refine FA 9 bi aZ ?_;refine gH (vs:=ints y.flat) (i:=0) (aa rfl) rfl rfl rfl rfl rfl (by rw[(ag y)];exact aZ) (bw _) rfl rfl (λ_=>LC (cN _) (ag _)) (λa_=>(OG ((eh V.toDk s (fF y)).rep a_) 0 rfl (by have h1:=(ag y);omega) (cn ((ag (((eh V.toDk s (fF y)).rep a_).own)).trans (ag y).symm)))) (PS ?_);refine FA 1938 bi kM ?_;refine SK 0 kM (λ_=>cN _) ?_ (hc:=by exact λa_=>(Oo _ rfl _));refine PS ?_;refine FA 1939 bi aQ ?_;refine SK 0 aQ (λ_=>cN _) ?_ (hc:=by exact λa_=>(On _ rfl _));refine PS ?_;refine FA 1940 bi aQ ?_;refine SK 0 aQ (λ_=>cN _) ?_ (hc:=by exact λa_=>(RepT.set_waits _ rfl _));refine nx J6 (sr λ_ J7=>P2 ?_);refine CZ HH (nq V r (uh (eh V.toDk s (fF y)) y op)) ID λvR=>?_
 refine nx J7 (sr λ_ J8=>PS ?_);refine nx J8 (ai (WK [0] (au rfl rfl ?_)));have e:e5 V.toDk s y op=(fm V.toDk (uh (eh V.toDk s (fF y)) y op),0):=if_neg h15;exact jA e
theorem oN(x:RowT)(who:Int)(d:RowT):
 DT 152 #[(.agg (ints x.flat).toArray),(.int .i64 (who)),(.agg (ints d.flat).toArray)] T0 [] (RI (.tuple #[.agg (ints (dP x who d).1.flat).toArray, .int .i64 (dP x who d).2]) []):=by
 refine BD 68 Tryz.func152 rfl rfl rfl λw0 F hF=>sr λ_ J1=>XY (ints x.flat) λb3=>?_
 refine XY (ints d.flat) λb5=>?_
 refine XZ uz (ints RowT.zero.flat) λb6=>?_
 refine PS ?_;refine nx J1 (ab λ_ J2=>sr λ_ J3=>PS ?_);refine CE Ex (jU who) ID ?_;refine aX ?_ ?_<;>intro h11;have hw:cI who=true:=by simpa using h11
 have hw2:0≤who∧who<5:=of_decide_eq_true hw;refine PS ?_;refine nx J3 (CN (qx J2 (ab λ_ J4=>sr λ_ J5=>PS ?_)));refine FA 29 dD eV ?_;refine IX (29+who.toNat) jC aQ ?_;refine LT 2 Y3 (.int .i64 ((x.heir[who.toNat]'(by omega)))) ?_ (hc:=by exact ri x (who.toNat) (by omega) (by omega) (ka x.heir (by omega)));refine PS ?_;refine an ?_ ?_<;>intro h18;refine nx J5 (CY (sr λ_ J6=>BV ((ints RowT.zero.flat).toArray) ?_));refine SW 0 aZ ag ?_;refine PS ?_;refine nx J6 (ai (ae (RT 0 [] dD aZ (ag _) ?_)));have e:dP x who d=(.zero,8):=by rw[dP,hw,fN,dif_pos hw,if_neg (by decide),if_pos h18]
 exact⟨by rw[e],rfl⟩;refine nx J5 (CN (qx J4 (ab λ_ J7=>D1 1 bh ?_)));refine PD 0 ?_;refine PD 1 ?_;refine FD 2 0 dD aQ ?_;refine LR 3 Y3 (cC d rfl) ?_;refine ta 4 rfl (ci (r:=(fP (d.version+1))) rfl rfl rfl rfl) ?_;refine FD 5 1 dD lj ?_;refine ta 6 rfl (aN (vs:=ints (bF d.cells.toList)) rfl Ak rfl lj rfl (λ_ h=>h.2.1) (ec d.cells) (Ck d 0 rfl (by decide) (whole (ec d.cells)))) ?_;refine FD 7 29 dD eV ?_;refine IY 8 (29+who.toNat) jC aQ ?_;refine FD 10 34 dD Az ?_;refine AL 9 ?_;refine bD (i:=2) (aa rfl) rfl rfl rfl rfl rfl aQ rfl rfl (LB (ag _)) (RowT.st_heir x (who.toNat) (by omega) (by omega) (xW x.heir (by omega) _)) rfl (EN (IY 11 (34+who.toNat*28) Kr lj ?_));refine AL 12 ?_;refine bJ (vs:=ints (bF d.cells.toList)) (i:=2) (aa rfl) rfl rfl rfl rfl rfl (by rw[(ec d.cells)];exact lj) (bw _) rfl rfl (LC (ag _) (ec _)) (RowT.wr_left_ (RowT.mk x.version x.cells (x.heir.set who.toNat (fP (d.version+1)) (by omega)) x.left) (who.toNat*28) (by omega) (by have h1:=(ec d.cells);omega) (tG sX x.left (i:=who.toNat) 0 (by omega) (by omega) (by have h1:=(ec d.cells);omega) (cn ((ec (x.left[who.toNat]'(by omega))).trans (ec d.cells).symm)))) rfl (EN (DN (ac J7 (ab λ_ J8=>sr λ_ J9=>FA 29 dD eV ?_))));refine tp (aN (vs:=ints d.heir.toList) rfl jC rfl eV rfl (RO 1) (dS d.heir) (Oi d 0 rfl (by decide) (whole (dS d.heir)))) ?_;refine PS ?_;refine nx J9 (aq ?_)
 refine bp (α:=(Nat)×(RowT)) (λ⟨k,y⟩=>k≤5∧y=nX x who d k) (λ⟨k,y⟩=>[(1,(.int .i64 (who))),(3,(.pointer (some ⟨b3,0,none⟩))),(5,(.pointer (some ⟨b5,0,none⟩))),(6,(.pointer (some ⟨b6,0,none⟩))),(7,(.int .i64 0)),(32,(.agg (ints d.heir.toList).toArray)),(33,(.int .i64 (((k:Nat):Int))))]) (λ⟨k,y⟩=>[ah b6 (ints RowT.zero.flat) 60,ah b5 (ints d.flat) 60,ah b3 (ints y.flat) 60]) (λ⟨k,y⟩=>5-k) (0,(RowT.mk x.version x.cells (x.heir.set who.toNat (fP (d.version+1)) (by omega)) (x.left.set who.toNat d.cells (by omega))))
  ⟨aO _,by rw[nX,oq,dif_pos hw];rfl⟩ SB
  (λ_ s=>ak [0,0,0] rfl s) (λ⟨k,y⟩ hinv=>?_)
 obtain⟨hk,hy⟩:=hinv;refine sr λ_ J10=>PS ?_
 refine an ?_ ?_<;>intro h34;refine nx J10 (ab λ_ J11=>CY (qx J11 (ab λ_ J12=>aq (sr λ_ J13=>PS ?_))));refine tp (jQ (cs:=ints d.heir.toList) (v:=Value.int .i64 (d.heir[k]'(by omega))) (r:=k) rfl jC Y3 rfl aQ rfl rfl (by omega) (by omega) (by omega) (ka d.heir (by omega))) ?_;refine P2 ?_;refine nx J13 (sr λ_ J14=>P3 ?_);refine an ?_ ?_<;>intro h39;refine P3 ?_;refine an ?_ ?_<;>intro h42;refine P3 ?_;refine FA 29 dD eV ?_;refine IX (29+k) jC aQ ?_;refine LT 2 Y3 (.int .i64 ((y.heir[k]'(by omega)))) ?_ (hc:=by exact ri y k (by omega) (by omega) (ka y.heir (by omega)));refine PS ?_;refine an ?_ ?_<;>intro h49;refine PS ?_;refine nx J14 (CY (D1 1 bh ?_));refine PD 0 ?_;refine PD 1 ?_;refine PD 2 ?_;refine PD 3 ?_;refine FD 4 34 dD Az ?_;refine IY 5 (34+k*28) Kr lj ?_;refine ta 6 rfl (aN (vs:=ints (bF (d.left[k]'(by omega)).toList)) rfl Ak rfl lj rfl (λ_ h=>h.2.1) (ec (d.left[k]'(by omega))) (E3 d (k*28) (by omega) (by omega) (km sX d.left (i:=k) 0 (by omega) (by omega) (by decide) (whole (ec (d.left[k]'(by omega))))))) ?_;refine FD 7 29 dD eV ?_;refine IY 8 (29+k) jC aQ ?_;refine FD 10 34 dD Az ?_;refine AL 9 ?_;refine bD (i:=2) (aa rfl) rfl rfl rfl rfl rfl aQ rfl rfl (LB (ag _)) (RowT.st_heir y k (by omega) (by omega) (xW y.heir (by omega) _)) rfl (EN (IY 11 (34+k*28) Kr lj ?_));refine AL 12 ?_
 refine bJ (vs:=ints (bF (d.left[k]'(by omega)).toList)) (i:=2) (aa rfl) rfl rfl rfl rfl rfl (by rw[(ec (d.left[k]'(by omega)))];exact lj) (bw _) rfl rfl (LC (ag _) (ec _)) (RowT.wr_left_ (RowT.mk y.version y.cells (y.heir.set k (d.heir[k]'(by omega)) (by omega)) y.left) (k*28) (by omega) (by have h1:=(ec (d.left[k]'(by omega)));omega) (tG sX y.left (i:=k) 0 (by omega) (by omega) (by have h1:=(ec (d.left[k]'(by omega)));omega) (cn ((ec (y.left[k]'(by omega))).trans (ec (d.left[k]'(by omega))).symm)))) rfl (EN (DN (af (ac J12 (ad (AD ?_))))));refine PS ?_;refine ap ?_
 exact aI ((k+1,(RowT.mk y.version y.cells (y.heir.set k (d.heir[k]'(by omega)) (by omega)) (y.left.set k (d.left[k]'(by omega)) (by omega)))):(Nat)×(RowT)) ⟨by omega,by rw[oE,←hy,nf,gr _ (by omega),gr _ (by omega),if_pos ⟨by omega,by omega,by omega⟩,CU _ (by omega),Ge _ (by omega)]⟩ (by show 5- (k+1)<5-k;omega)
  SB
  (λ_ s=>ak [0,0,0] rfl s)
 refine PS ?_;refine nx J14 (CN (aR (af (ac J12 (ad (AD ?_))))));refine PS ?_;refine ap ?_
 exact aI ((k+1,y):(Nat)×(RowT)) ⟨by omega,by rw[oE,←hy,nf,gr _ (by omega),gr _ (by omega),if_neg (by omega)]⟩ (by show 5- (k+1)<5-k;omega)
  SB
  (λ_ s=>ak [0,0,0] rfl s)
 refine P2 ?_
 iterate 5 refine UF ?_
 refine PS ?_;refine nx J14 (CN (aR (af (ac J12 (ad (AD ?_))))));refine PS ?_;refine ap ?_
 exact aI ((k+1,y):(Nat)×(RowT)) ⟨by omega,by rw[oE,←hy,nf,gr _ (by omega),gr _ (by omega),if_neg (by omega)]⟩ (by show 5- (k+1)<5-k;omega)
  SB
  (λ_ s=>ak [0,0,0] rfl s)
 refine PS ?_;refine UF ?_;refine UF ?_;refine P2 ?_
 iterate 5 refine UF ?_
 refine PS ?_;refine nx J14 (CN (aR (af (ac J12 (ad (AD ?_))))));refine PS ?_;refine ap ?_
 exact aI ((k+1,y):(Nat)×(RowT)) ⟨by omega,by rw[oE,←hy,nf,gr _ (by omega),gr _ (by omega),if_neg (by omega)]⟩ (by show 5- (k+1)<5-k;omega)
  SB
  (λ_ s=>ak [0,0,0] rfl s)
 refine nx J10 (ab λ_ J15=>CN (aW (az (az (bm (ac J8 (sr λ_ J16=>FA 0 dD aQ ?_)))))));refine LU 2 Y3 (cC y rfl) ?_;refine tp (ci (r:=(fP (y.version+1))) rfl rfl rfl rfl) ?_;refine FA 0 dD aQ ?_;refine bD (i:=2) (aa rfl) rfl rfl rfl rfl rfl aQ rfl rfl (LB (ag _)) (w6 y rfl _) rfl (nx J16 (sr λ_ J17=>LW 2 dD aZ ag ?_));refine SW 0 aZ ag ?_;refine PS ?_;refine nx J17 (ai (RT 0 [] dD aZ (ag _) ?_));obtain rfl:k=5:=by omega
 subst hy;have e:dP x who d=({nX x who d 5 with version:=fP ((nX x who d 5).version+1)},0):=by rw[dP,hw,fN,dif_pos hw,if_neg (by decide),if_neg h18]
 exact⟨by rw[e],rfl⟩;refine PS ?_;refine nx J3 (CY (sr λ_ J18=>BV ((ints RowT.zero.flat).toArray) ?_));refine SW 0 aZ ag ?_;refine PS ?_;refine nx J18 (ai (ae (RT 0 [] dD aZ (ag _) ?_)));have hw:cI who=false:=by simpa using h11
 have e:dP x who d=(.zero,5):=by rw[dP,hw];rfl
 exact⟨by rw[e],rfl⟩
theorem yB{δ:Type}(V:Env δ)(r:Nat)(s:MS δ)[OkR V.toDk s]:
 DT 150 #[(.pointer (some ⟨r,0,none⟩))] T0 [cD V r s] (dm (λr' H=>∃u,r'=u∧H=[own u (bC s).length (ints (bC s)) 3 1,cD V r s])):=by
 refine BD 44 Tryz.func150 rfl rfl rfl λw0 F hF=>sr λ_ J1=>PS ?_
 refine nx J1 (sr λ_ J2=>PS ?_);refine nx J2 (ab λ_ J3=>sr λ_ J4=>PS ?_);refine nx J4 (aq ?_)
 refine bp (α:=(Nat)×(Value)) (λ⟨k,u⟩=>k≤5∧u.oneCell'=true) (λ⟨k,u⟩=>[(0,(.pointer (some ⟨r,0,none⟩))),(2,(.slice none 0 0)),(3,u),(7,(.int .i64 (((k:Nat):Int))))]) (λ⟨k,u⟩=>[own u ((gT s k).length) (ints (gT s k)) 3 1,cD V r s]) (λ⟨k,u⟩=>5-k) (0,(.slice none 0 0))
  ⟨aO _,rfl⟩ SB
  (λ_ s=>gC 3 1 (ak [0] rfl s)) (λ⟨k,u⟩ hinv=>?_)
 obtain⟨hk,hu⟩:=hinv;have hol:=Gv s k;refine sr λ_ J5=>PS ?_
 refine an ?_ ?_<;>intro h8;refine nx J5 (ab λ_ J6=>CY (qx J6 (ab λ_ J7=>aq (sr λ_ J8=>P2 ?_))));refine nx J8 (sr λ_ J9=>P2 ?_);refine FA 2 bi bc ?_;refine LZ 1 eD bc am s.view ?_ (hc:=by exact λ_=>cM _);refine PS ?_;refine CE Hq (nY s.view ((k:Nat):Int) OkVw.rng) ID ?_;refine P3 ?_;refine aX ?_ ?_<;>intro h18;refine P2 ?_;refine nx J9 (sr λ_ J10=>?_)
 iterate 5 refine PS ?_
 refine FA 0 bi aQ ?_;refine LG 1 Y3 (.int .i64 (s.id)) ?_ (hc:=by exact λa_=>(cy _ rfl));refine PS ?_;refine an ?_ ?_<;>intro h26
 iterate 5 refine PS ?_
 refine FA 9 bi aZ ?_;refine FA 38 dD eV ?_;refine IX (38+k) jC aQ ?_;refine LG 1 Y3 (.int .i64 ((s.own.heir[k]'(by omega)))) ?_ (hc:=by exact λa_=>(RepT.pt_own (s.rep a_) (29+k) (by omega) (by omega) (ri ((s.rep a_).own) k (by omega) (by omega) (ka (((s.rep a_).own).heir) (by omega)))));refine PS ?_;refine an ?_ ?_<;>intro h36;refine PS ?_;refine nx J10 (CY (ad (P2 ?_)));refine aU (cells:=#[(.int .i64 (((k:Nat):Int)))]) (aa rfl) rfl rfl rfl j9 qX rfl rfl rfl (by as_aux_lemma=>kernel_rfl) (λb40=>cH (k:=1) (news:=[(.int .i64 (((k:Nat):Int)))]) (nn':=(gT s k).length+1) (xs':=ints (gT s k)++[(.int .i64 (((k:Nat):Int)))]) (aa rfl) rfl rfl rfl j9 qX rfl rfl rfl rfl rfl rfl (λ_ _=>ju rfl (RO 0) rfl) (by simp[Value.oneCell']) (by simp only[maxLen];omega) (by omega) (by simp) (by simp) (λv41 ov41=>PS ?_));refine ap (af (ac J7 (ad (AD ?_))));refine PS ?_;refine ap ?_
 exact aI ((k+1,v41):(Nat)×(Value)) ⟨by omega,ov41⟩ (by show 5- (k+1)<5-k;omega)
  SB
  (λ_ q=>by
   show bE [own v41 (gT s (k+1)).length (ints (gT s (k+1))) 3 1,cD V r s] _;rw[show gT s (k+1)=gT s k++[((k:Nat):Int)]by rw[oF,if_pos (Lg h18 h26 (by rw[gr _ (by omega)];exact h36))],aj,ej]
   exact ak [1,1] rfl q)
 refine PS ?_;refine nx J10 (CN (aR (af (ac J7 (ad (AD ?_))))));refine PS ?_;refine ap ?_
 exact aI ((k+1,u):(Nat)×(Value)) ⟨by omega,hu⟩ (by show 5- (k+1)<5-k;omega)
  SB
  (λ_ q=>by
   show bE [own u (gT s (k+1)).length (ints (gT s (k+1))) 3 1,cD V r s] _;rw[show gT s (k+1)=gT s k by rw[oF,if_neg (by intro hq;have h2:=zO hq;rw[gr _ (by omega)]at h2;first|omega| (simp_all;done)| (simp_all;omega)),ba]]
   exact ak [0,0] rfl q)
 refine P2 ?_
 iterate 8 refine UF ?_
 refine PS ?_;refine nx J10 (CN (aR (af (ac J7 (ad (AD ?_))))));refine PS ?_;refine ap ?_
 exact aI ((k+1,u):(Nat)×(Value)) ⟨by omega,hu⟩ (by show 5- (k+1)<5-k;omega)
  SB
  (λ_ q=>by
   show bE [own u (gT s (k+1)).length (ints (gT s (k+1))) 3 1,cD V r s] _;rw[show gT s (k+1)=gT s k by rw[oF,if_neg (by intro hq;have h2:=zO hq;rw[gr _ (by omega)]at h2;first|omega| (simp_all;done)| (simp_all;omega)),ba]]
   exact ak [0,0] rfl q)
 refine P2 ?_;refine nx J9 (sr λ_ J11=>P2 ?_)
 iterate 6 refine UF ?_
 refine P2 ?_
 iterate 8 refine UF ?_
 refine PS ?_;refine nx J11 (CN (aR (af (ac J7 (ad (AD ?_))))));refine PS ?_;refine ap ?_
 exact aI ((k+1,u):(Nat)×(Value)) ⟨by omega,hu⟩ (by show 5- (k+1)<5-k;omega)
  SB
  (λ_ q=>by
   show bE [own u (gT s (k+1)).length (ints (gT s (k+1))) 3 1,cD V r s] _;rw[show gT s (k+1)=gT s k by rw[oF,if_neg (by intro hq;have h2:=zO hq;rw[gr _ (by omega)]at h2;first|omega| (simp_all;done)| (simp_all;omega)),ba]]
   exact ak [0,0] rfl q)
 refine nx J5 (ab λ_ J12=>CN (aW (az (az (bm (ac J3 (sr λ_ J13=>P2 ?_)))))));refine nx J13 (ai (WK [0,0] (au rfl rfl ?_)));obtain rfl:k=5:=by omega
 exact⟨u,rfl,rfl⟩
theorem m9{δ:Type}(V:Env δ)(r:Nat)(s:MS δ)(who w:Int)(hm:cI who=true)(hw:0≤w∧w<5):
 DT 151 #[(.pointer (some ⟨r,0,none⟩)),(.int .i64 (who)),(.int .i64 (w))] T0 [cD V r s] (RI (.bool (vd s who w)) [cD V r s]):=by
 refine BD 17 Tryz.func151 rfl rfl rfl λw0 F hF=>?_
 have hm2:0≤who∧who<5:=of_decide_eq_true hm;refine sr λ_ J1=>PS ?_
 refine nx J1 (sr λ_ J2=>P3 ?_);refine FA 1943 bi eV ?_;refine IX (1943+who.toNat) jC aQ ?_;refine LG 0 Y3 (.int .i64 ((s.told[who.toNat]'(by omega)))) ?_ (hc:=by exact λa_=>(OH (s.rep a_) (who.toNat) (by omega) (by omega) (ka ((s.rep a_).told) (by omega))));refine PS ?_;refine tp (lJ (r:=((s.told[who.toNat]'(by omega)).fdiv (2^min w.toNat IntKind.i64.bits))) rfl rfl rfl (by omega) rfl) ?_;refine tp (uK (r:=(((s.told[who.toNat]'(by omega)).fdiv (2^min w.toNat IntKind.i64.bits))%2)) rfl rfl rfl (mask (k:=1) (by decide) _)) ?_;refine P2 ?_;refine nx J2 (ai (WK [0] (au rfl rfl ?_)));exact⟨by rw[vd,qC,dif_pos hm],rfl⟩
theorem oH{δ:Type}(V:Env δ)(r:Nat)(s:MS δ)[OkR V.toDk s]:
    DT 107 #[(.pointer (some ⟨r,0,none⟩)),(.iface V.T V.ov)] T0 [cD V r s] (dm (λ_ H=>H=[cD V r (mU V.toDk s)])):=by
 refine BD 80 Tryz.func107 rfl rfl rfl λw0 F hF=>sr λ_ J1=>PS ?_
 refine CR Ka (yB V r s) ID λvR HR hR=>?_
 obtain⟨_,rfl,rfl⟩:=hR;revert vR;intro ud;refine ib 0 rfl rfl (λhlud houd=>PS ?_);refine nx J1 (ab λ_ J2=>sr λ_ J3=>P2 ?_);refine FA 1938 bi kM ?_;refine LG 1 Y4 (.bool (s.busy)) ?_ (hc:=by exact λa_=>(xJ _ rfl));refine aX ?_ ?_<;>intro h19;refine PS ?_
 iterate 3 refine UT ?_
 refine PS ?_;refine nx J3 (CY (ai (ae (WK [1] (dE rfl ?_)))));exact congrArg (λq=>[cD V r q]) (show s=mU V.toDk s from(if_pos (by rw[h19];rfl)).symm);refine P2 ?_;refine tq (dF rfl j9 rfl hlud) ?_;refine PS ?_;refine an ?_ ?_<;>intro h23;refine PS ?_;refine nx J3 (CY (ai (ae (WK [1] (dE rfl ?_)))));exact congrArg (λq=>[cD V r q]) (show s=mU V.toDk s from(if_pos (by rw[h19,decide_eq_true (by omega)];rfl)).symm);refine PS ?_;refine nx J3 (CN (qx J2 (ab λ_ J4=>sr λ_ J5=>PS ?_)));refine tp (dF rfl j9 rfl hlud) ?_;refine PS ?_;refine nx J5 (aq ?_)
 refine bp (α:=(Nat)) (λk=>k≤(bC s).length∧∀j,j<k→∀w∈gI ((bC s).getD j 0),vd s ((bC s).getD j 0) w=true) (λk=>[(0,(.pointer (some ⟨r,0,none⟩))),(1,(.iface V.T V.ov)),(4,ud),(25,ud),(26,(.int .i64 ((((bC s).length:Nat):Int)))),(27,(.int .i64 (((k:Nat):Int))))]) (λk=>[own ud ((bC s).length) (ints (bC s)) 3 1,cD V r s]) (λk=>(bC s).length-k) 0
     ⟨aO _,λj h=>absurd h (by omega)⟩ SB
     (λ_ s=>s) (λk hinv=>?_)
 obtain⟨hk,hal⟩:=hinv;refine sr λ_ J6=>PS ?_
 refine an ?_ ?_<;>intro h28;refine nx J6 (ab λ_ J7=>CY (qx J7 (ab λ_ J8=>aq (sr λ_ J9=>?_))));have hmm1:(bC s).getD k 0∈bC s:=by rw[List.getD_eq_getElem?_getD,List.getElem?_eq_getElem (by omega)];exact dW _
 have hm1:cI ((bC s).getD k 0)=true:=(wH hmm1).1;have hn1:0≤(bC s).getD k 0∧(bC s).getD k 0<5:=of_decide_eq_true hm1;refine jO 0 rfl rfl (by omega) (λge1 ce1 he1 _=>tp (bT (r:=k) he1 rfl j9 aQ rfl rfl (by omega) (by omega) (by omega)) ?_);refine tp (c7 (v:=(.int .i64 (((bC s).getD k 0)))) rfl Y3 rfl rfl (fZ 0 rfl he1 rfl) (wx (by omega))) ?_;refine PS ?_;refine nx J9 (sr λ_ J10=>PS ?_);refine CR Hr (p4 ((bC s).getD k 0) hm1) ID λvR HR hR=>?_
 obtain⟨_,rfl,rfl⟩:=hR;revert vR;intro uw;refine ib 0 rfl rfl (λhluw _=>jO 0 rfl rfl (by omega) (λgw capw hvw hcapw=>tp (dF rfl j9 rfl hluw) ?_));refine PS ?_;refine nx J10 (aq (ru 2 (sr λ_ J11=>PS ?_)));refine nx J11 (ab λ_ J12=>CY (qx J12 (ab λ_ J13=>aq (sr λ_ J14=>tp (bT (r:=0) hvw rfl j9 aQ rfl rfl (by omega) (by omega) rfl) ?_))));refine tp (c7 (v:=(.int .i64 (((((bC s).getD k 0)+1)%5)))) rfl Y3 rfl rfl (fZ 0 rfl hvw rfl) rfl) ?_;refine PS ?_;refine nx J14 (sr λ_ J15=>P3 ?_);refine CE Ez (m9 V r s ((bC s).getD k 0) ((((bC s).getD k 0)+1)%5) hm1 (by omega)) (SM [2]) ?_;refine aX ?_ ?_<;>intro h41;refine PS ?_;refine nx J15 (CN (aR (af (ac J13 (ad (tp (ci (r:=1) rfl rfl rfl (by decide)) ?_))))));refine PS ?_;refine ap (ek (sr λ_ J16=>PS ?_));refine nx J16 (ab λ_ J17=>CY (qx J17 (ab λ_ J18=>aq (sr λ_ J19=>tp (bT (r:=1) hvw rfl j9 aQ rfl rfl (by omega) (by omega) rfl) ?_))));refine tp (c7 (v:=(.int .i64 (((((bC s).getD k 0)+2)%5)))) rfl Y3 rfl rfl (fZ 1 rfl hvw rfl) rfl) ?_;refine PS ?_;refine nx J19 (sr λ_ J20=>P3 ?_);refine CE Ez (m9 V r s ((bC s).getD k 0) ((((bC s).getD k 0)+2)%5) hm1 (by omega)) ID ?_;refine aX ?_ ?_<;>intro h41;refine PS ?_;refine nx J20 (CN (aR (af (ac J18 (ad (tp (ci (r:=2) rfl rfl rfl (by decide)) ?_))))));refine PS ?_;refine ap (ek (sr λ_ J21=>PS ?_));refine nx J21 (ab λ_ J22=>CN (aW (az (az (bm (af (ac J8 (ad (AD ?_)))))))));refine PS ?_
 refine ap ?_
 exact aI ((k+1):(Nat)) ⟨by omega,λj hj=>by
        by_cases q:j=k
        · subst q
          intro w hw;rw[gI,if_pos hm1]at hw;simp only[cf,List.not_mem_nil,or_false]at hw;rcases hw with rfl|rfl<;>assumption
        · exact hal j (by omega)⟩ (by show(bC s).length- (k+1)< (bC s).length-k;omega)
   SB
   (λ_ s=>ak [2,0] rfl s)
 refine PS ?_;refine nx J20 (CY (ai (aH (ae (ae (aH (aH (ae (ae (aH (ae ?_)))))))))));refine WK [0] (dE rfl ?_)
 have hb: ¬uO s=true:=λh=>by
   have h2:=List.all_eq_true.1 (List.all_eq_true.1 h _ hmm1) (((bC s).getD k 0+2)%5) (by rw[gI,if_pos hm1];simp);rw[h41]at h2;cases h2
 exact MQ (by rw[mU,if_neg (by rw[h19,decide_eq_false (by omega)];decide),if_neg hb]);refine PS ?_;refine nx J15 (CY (ai (aH (ae (ae (aH (aH (ae (ae (aH (ae ?_)))))))))));refine WK [0] (dE rfl ?_)
 have hb: ¬uO s=true:=λh=>by
   have h2:=List.all_eq_true.1 (List.all_eq_true.1 h _ hmm1) (((bC s).getD k 0+1)%5) (by rw[gI,if_pos hm1];simp);rw[h41]at h2;cases h2
 exact MQ (by rw[mU,if_neg (by rw[h19,decide_eq_false (by omega)];decide),if_neg hb]);refine nx J6 (ab λ_ J23=>CN (aW (az (az (bm (ac J4 (sr λ_ J24=>P2 ?_)))))));refine FA 9 bi aZ ?_;refine LZ 1 dD aZ ag s.own ?_ (hc:=by exact λ_=>Kv _);refine XZ uz (ints RowT.zero.flat) λb9=>?_
 refine SW 0 aZ ag ?_;refine nx J24 (ab λ_ J25=>sr λ_ J26=>PS ?_);refine tp (dF rfl j9 rfl hlud) ?_;refine PS ?_;refine nx J26 (aq ?_)
 refine bp (α:=(Nat)×(RowT)) (λ⟨q,y⟩=>q≤(bC s).length∧y=pM s ((bC s).take q)) (λ⟨q,y⟩=>[(0,(.pointer (some ⟨r,0,none⟩))),(1,(.iface V.T V.ov)),(4,ud),(9,(.pointer (some ⟨b9,0,none⟩))),(49,ud),(50,(.int .i64 ((((bC s).length:Nat):Int)))),(51,(.int .i64 (((q:Nat):Int))))]) (λ⟨q,y⟩=>[ah b9 (ints y.flat) 60,own ud ((bC s).length) (ints (bC s)) 3 1,cD V r s]) (λ⟨q,y⟩=>(bC s).length-q) (0,s.own)
     ⟨aO _,rfl⟩ SB
     (λ_ s=>ak [0,0,0] rfl s) (λ⟨q,y⟩ hinv=>?_)
 obtain⟨hq,hy⟩:=hinv;refine sr λ_ J27=>PS ?_
 refine an ?_ ?_<;>intro h52;refine nx J27 (ab λ_ J28=>CY (qx J28 (ab λ_ J29=>aq (sr λ_ J30=>?_))));have hmm2:(bC s).getD q 0∈bC s:=by rw[List.getD_eq_getElem?_getD,List.getElem?_eq_getElem (by omega)];exact dW _
 have hm2:cI ((bC s).getD q 0)=true:=(wH hmm2).1;have hn2:0≤(bC s).getD q 0∧(bC s).getD q 0<5:=of_decide_eq_true hm2;refine jO 1 rfl rfl (by omega) (λge1 ce1 he1 _=>tp (bT (r:=q) he1 rfl j9 aQ rfl rfl (by omega) (by omega) (by omega)) ?_);refine tp (c7 (v:=(.int .i64 (((bC s).getD q 0)))) rfl Y3 rfl rfl (fZ 1 rfl he1 rfl) (wx (by omega))) ?_;refine PS ?_;refine nx J30 (ab λ_ J31=>sr λ_ J32=>PS ?_);refine FA 29 dD eV ?_;refine IX (29+(((bC s).getD q 0)).toNat) jC aQ ?_;refine LT 0 Y3 (.int .i64 ((y.heir[(((bC s).getD q 0)).toNat]'(by omega)))) ?_ (hc:=by exact ri y ((((bC s).getD q 0)).toNat) (by omega) (by omega) (ka y.heir (by omega)));refine PS ?_;refine an ?_ ?_<;>intro h59;refine nx J32 (CY (aW (az (bm (ac J29 (ad (AD ?_)))))));refine PS ?_;refine ap ?_
 exact aI ((q+1,y):(Nat)×(RowT)) ⟨by omega,by rw[ug s (by omega),←hy,if_pos (by rw[fN,dif_pos hm2];exact h59)]⟩ (by show(bC s).length- (q+1)< (bC s).length-q;omega)
   SB
   (λ_ s=>ak [0,0,0] rfl s)
 refine nx J32 (CN (qx J31 (ab λ_ J33=>e7 (α:=(Nat)) (λ_=>True) (λb12=>[(0,(.pointer (some ⟨r,0,none⟩))),(1,(.iface V.T V.ov)),(4,ud),(9,(.pointer (some ⟨b9,0,none⟩))),(12,(.pointer (some ⟨b12,0,none⟩))),(13,(.int .i64 ((dP y ((bC s).getD q 0) (s.last[(((bC s).getD q 0)).toNat]'(by omega))).2))),(49,ud),(50,(.int .i64 ((((bC s).length:Nat):Int)))),(51,(.int .i64 (((q:Nat):Int))))]) (λb12=>[ah b12 (ints ((dP y ((bC s).getD q 0) (s.last[(((bC s).getD q 0)).toNat]'(by omega))).1).flat) 60,ah b9 (ints y.flat) 60,own ud ((bC s).length) (ints (bC s)) 3 1,cD V r s]) (λb12 _=>?_) (λtl33=>?_))));refine ac J33 (ab λ_ J34=>sr λ_ J35=>P2 ?_);refine an ?_ ?_<;>intro h73
 · exact absurd (La hm2 (by rw[fN,dif_pos hm2];exact h59)) h73
 refine nx J35 (CN (qx J34 (ad (LW 0 dD aZ ag ?_))));refine SW 1 aZ ag ?_;refine ap (af (ac J29 (ad (AD ?_))));refine PS ?_;refine ap ?_
 exact aI ((q+1,(dP y ((bC s).getD q 0) (s.last[(((bC s).getD q 0)).toNat]'(by omega))).1):(Nat)×(RowT)) ⟨by omega,by rw[ug s (by omega),←hy,if_neg (by rw[fN,dif_pos hm2];exact h59),nu,dif_pos hm2]⟩ (by show(bC s).length- (q+1)< (bC s).length-q;omega)
   SB
   (λ_ s=>ak [1,1,1] rfl s)
 refine DC bh (BL 0) (cO 2 rfl rfl) ?_;refine LY 0 dD aZ ag ?_;refine PD 1 ?_;refine PD 2 ?_;refine PD 3 ?_;refine PD 4 ?_;refine FD 5 1948 bi s7 ?_;refine IY 6 (1948+((((bC s).getD q 0)).toNat)*174) GE aZ ?_;refine ta 7 rfl (fT (vs:=ints (s.last[(((bC s).getD q 0)).toNat]'(by omega)).flat) rfl dD rfl aZ rfl (λ_ h=>h.2.2.1) (ag (s.last[(((bC s).getD q 0)).toNat]'(by omega))) (λa_=>(RepT.sub_last (s.rep a_) (((((bC s).getD q 0)).toNat)*174) (by omega) (by omega) (km dr ((s.rep a_).last) (i:=(((bC s).getD q 0)).toNat) 0 (by omega) (by omega) (by decide) (whole (ag (((s.rep a_).last)[(((bC s).getD q 0)).toNat]'(by omega)))))))) ?_;refine cx [8,12] (by kernel_rfl) rfl (aE rfl ?_ ?_);refine CE J0 (oN y ((bC s).getD q 0) (s.last[(((bC s).getD q 0)).toNat]'(by omega))) ID ?_;refine EN (PD 9 ?_);refine PD 10 ?_;refine PD 11 ?_;refine AL 12 ?_;refine XZ uz (ints RowT.zero.flat) λb12=>?_
 refine EN (AL 13 ?_);refine SW 0 aZ ag ?_;refine EN (PD 14 ?_);refine DN ?_
 exact aF
   SB
   (λ_ s=>s)
   (tl33 ((b12):(Nat)) trivial)
 refine aE rfl ?_ ?_;refine XZ uz (ints RowT.zero.flat) λb12=>?_
 refine EN (AL 8 ?_);refine CE J0 (oN y ((bC s).getD q 0) (s.last[(((bC s).getD q 0)).toNat]'(by omega))) ID ?_;refine EN (PD 9 ?_);refine PD 10 ?_;refine PD 11 ?_;refine AL 13 ?_;refine SW 0 aZ ag ?_;refine EN (PD 14 ?_);refine DN ?_
 exact aF
   SB
   (λ_ s=>s)
   (tl33 ((b12):(Nat)) trivial)
 exact bz;refine nx J27 (ab λ_ J36=>CN (aW (az (az (bm (ac J25 (ad ?_)))))));have hoy:OkRow y:=by rw[hy];exact inferInstance
 refine P2 ?_;refine LW 0 dD aZ ag ?_;refine CE KI (qZ V r s y 0) (SM [2]) ?_;refine ap (WK [0] (bA rfl ?_));obtain rfl:k=(bC s).length:=by omega
 obtain rfl:q=(bC s).length:=by omega
 have hb:uO s=true:=List.all_eq_true.2 λi hi=>List.all_eq_true.2 λw hw=>by
   obtain⟨j,hj,rfl⟩:=ff hi;have h2:=hal j (by omega) w;rw[List.getD_eq_getElem?_getD,List.getElem?_eq_getElem hj]at h2;exact h2 hw
 rw[ic]at hy;subst hy;exact MQ (by rw[mU,if_neg (by rw[h19,decide_eq_false (by omega)];decide),if_pos hb])
theorem xx{δ:Type}(V:Env δ)(r:Nat)(s:MS δ)[OkR V.toDk s](hrs:s.replies.length≤1000000):
 DT 169 #[(.pointer (some ⟨r,0,none⟩)),(.iface V.T V.ov)] T0 [cD V r s] (dm (λ_ H=>H=[cD V r (lE V.toDk s)])):=by
 refine BD 43 Tryz.func169 rfl rfl rfl λw0 F hF=>sr λ_ J1=>P2 ?_
 refine FA 1938 bi kM ?_;refine SK 0 kM (λ_=>cN _) ?_ (hc:=by exact λa_=>(Oo _ rfl _));refine nx J1 (ab λ_ J2=>e7 (α:=Unit) (λ_u=>True) (λ_u=>[(0,(.pointer (some ⟨r,0,none⟩))),(1,(.iface V.T V.ov))]) (λ_u=>[cD V r (gE s)]) (λ_u hinv=>?_) (λtl2=>?_));have _:=hinv;refine ac J2 (ab λ_ J3=>e7 (α:=Unit) (λ_u=>True) (λ_u=>[(0,(.pointer (some ⟨r,0,none⟩))),(1,(.iface V.T V.ov))]) (λ_u=>[cD V r (l5 (gE s))]) (λ_u hinv=>?_) (λtl3=>?_));have _:=hinv;refine ac J3 (sr λ_ J4=>P4 ?_);refine FA 9 bi aZ ?_;refine LZ 0 dD aZ ag ((l5 (gE s)).own) ?_ (hc:=by exact λ_=>Kv _);refine CZ HE (mH V r (l5 (gE s)) ((l5 (gE s)).own)) ID λvR=>?_
 refine nx J4 (ad (P2 ?_));refine CZ EG (oH V r (mw V.toDk (l5 (gE s)) ((l5 (gE s)).own))) ID λvR=>?_
 exact ap (WK [0] (bA rfl rfl));refine sr λ_ J5=>P2 ?_
 refine FA 1940 bi aQ ?_;refine LG 0 Y3 (.int .i64 ((gE s).waits)) ?_ (hc:=by exact λa_=>(RepT.at_waits _ rfl));refine PS ?_;refine an ?_ ?_<;>intro h23;refine nx J5 (CY (sr λ_ J6=>P3 ?_));refine FA 1940 bi aQ ?_;refine LG 0 Y3 (.int .i64 ((gE s).waits)) ?_ (hc:=by exact λa_=>(RepT.at_waits _ rfl));refine CZ tn (eX V r (gE s) ((gE s).waits) 0 0 hrs) ID λvR=>?_
 refine nx J6 (ad (P2 ?_));refine FA 1940 bi aQ ?_;refine SK 0 aQ (λ_=>cN _) ?_ (hc:=by exact λa_=>(RepT.set_waits _ rfl _));refine ap ?_
 exact aF
  SB
  (λ_ q=>by
   rw[xT h23]
   exact ak [0] rfl q)
  (tl3 (():Unit) trivial)
 refine nx J5 (CN (aR ?_))
 exact aF
  SB
  (λ_ q=>by
   rw[xU h23]
   exact ak [0] rfl q)
  (tl3 (():Unit) trivial)
 refine D0 bh ?_;refine PD 0 ?_;refine PD 1 ?_;refine FD 2 1068 bi vj ?_;refine PD 3 ?_;refine PD 4 ?_;refine FD 5 0 bi aQ ?_;refine PD 7 ?_;refine PD 8 ?_;refine FD 9 9 bi aZ ?_;refine cx [6,10] (by kernel_rfl) rfl (aE rfl ?_ ?_);refine LG 0 Y3 (.int .i64 (s.id)) ?_ (hc:=by exact λa_=>(cy _ rfl));refine EN (AL 10 ?_);refine LZ 0 dD aZ ag s.own ?_ (hc:=by exact λ_=>Kv _);refine EN (AL 11 ?_);refine CE I8 (Leg.Does.hid (λa_=>kG r 1068 123 _ (gA ((MS.setBusy s false).rep a_)) (MS.setBusy s false).book s.id s.own (Iu inferInstance))) ID ?_;refine EN (DN ?_)
 exact aF
  SB
  (λ_ s=>ak [0] rfl s)
  (tl2 (():Unit) trivial)
 refine aE rfl ?_ ?_;refine LZ 0 dD aZ ag s.own ?_ (hc:=by exact λ_=>Kv _);refine EN (AL 6 ?_);refine LG 0 Y3 (.int .i64 (s.id)) ?_ (hc:=by exact λa_=>(cy _ rfl));refine EN (AL 11 ?_);refine CE I8 (Leg.Does.hid (λa_=>kG r 1068 123 _ (gA ((MS.setBusy s false).rep a_)) (MS.setBusy s false).book s.id s.own (Iu inferInstance))) ID ?_;refine EN (DN ?_)
 exact aF
  SB
  (λ_ s=>ak [0] rfl s)
  (tl2 (():Unit) trivial)
 exact bz
theorem vg{δ:Type}(V:Env δ)(r:Nat)(s:MS δ)(from':Int)(m:MsgT)[OkR V.toDk s](hrs:s.replies.length≤1000000):
 DT 144 #[(.pointer (some ⟨r,0,none⟩)),(.iface V.T V.ov),(.int .i64 (from')),(.agg (ints m.flat).toArray)] T0 [cD V r s] (dm (λ_ H=>H=[cD V r (dM V.toDk s from' m)])):=by
 refine BD 64 Tryz.func144 rfl rfl rfl λw0 F hF=>?_
 have hid:cI s.id=true:=OkR.id;have hid2:0≤s.id∧s.id<5:=of_decide_eq_true hid;refine sr λ_ J1=>XY (ints m.flat) λb7=>?_
 refine nx J1 (sr λ_ J2=>P2 ?_);refine FA 0 bi aQ ?_;refine LG 1 Y3 (.int .i64 (s.id)) ?_ (hc:=by exact λa_=>(cy _ rfl));refine CR Hr (p4 s.id hid) ID λvR HR hR=>?_
 obtain⟨_,rfl,rfl⟩:=hR;revert vR;intro uw;refine ib 0 rfl rfl (λhluw _=>jO 0 rfl rfl (by omega) (λgw capw hvw hcapw=>PS ?_));refine nx J2 (ab λ_ J3=>ab λ_ J4=>DC bh (cO 2 rfl rfl) (BL 1) ?_);refine PD 0 ?_;refine PD 1 ?_;refine FD 2 1938 bi kM ?_;refine ta 3 rfl (c8 (v:=(.bool (s.busy))) rfl Y4 rfl rfl (λ_ h=>h.2.1) (λa_=>(xJ _ rfl))) ?_;refine n7 ?_ ?_<;>intro h19;refine PD 4 ?_;refine PD 5 ?_;refine FD 6 176 bb aQ ?_;refine LR 7 Y3 (MsgT.at_version m rfl) ?_;refine PD 8 ?_;refine PD 9 ?_;refine FD 10 9 bi aZ ?_;refine FD 11 9 dD aQ ?_;refine tb 12 rfl (c8 (v:=(.int .i64 (s.own.version))) rfl Y3 rfl rfl (λ_ h=>h.2.1) (λa_=>(RepT.pt_own (s.rep a_) 0 rfl (by decide) (cC _ rfl)))) ?_;refine PD 13 ?_;refine iN ?_ ?_<;>intro h29;refine PD 14 ?_;refine PD 15 ?_;refine NT 16 ?_;refine NT 17 ?_;refine NT 18 ?_;refine NT 19 ?_;refine PD 20 ?_;refine DN (ac J4 (CY (ai (ae (WK [2] (dE rfl ?_))))));have ew:gI s.id=[(s.id+1)%5,(s.id+2)%5]:=by rw[gI,if_pos hid]
 have e:kV s from' m.version=false:=by rw[kV,ew,decide_eq_false h29,gB,lP]
 exact congrArg (λq=>[cD V r q]) (show s=dM V.toDk s from' m by rw[dM,e];rfl);refine PD 14 ?_;refine PD 15 ?_;refine PD 16 ?_;refine PD 17 ?_;refine AL 18 ?_;refine CF JU (qt uw [(s.id+1)%5,(s.id+2)%5] from' (by decide:2≤1000000)) ID (EQ (l:=[(s.id+1)%5,(s.id+2)%5]) 0 rfl rfl) ?_;refine an ?_ ?_<;>intro h34;have hmem:=h34;simp only[cf,List.not_mem_nil,or_false]at hmem;have hfr:0≤from'∧from'<5:=by omega
 refine EN (PD 19 ?_);refine PD 20 ?_;refine DN (ac J4 (CN (qx J3 (ab λ_ J5=>D0 bh ?_))));refine PD 0 ?_;refine PD 1 ?_;refine FD 2 1939 bi aQ ?_;refine PD 4 ?_;refine ta 5 rfl (xK (r:=(cW from')) rfl rfl rfl (by omega) rfl) ?_;refine AL 3 ?_;refine LG 2 Y3 (.int .i64 (s.kept)) ?_ (hc:=by exact λa_=>(rj _ rfl));refine EN (ta 6 rfl (Ir (r:=(iz .i64 s.kept (cW from'))) rfl rfl rfl rfl) ?_);refine PD 7 ?_;refine FD 8 1939 bi aQ ?_;refine AL 9 ?_;refine SK 2 aQ (λ_=>cN _) ?_ (hc:=by exact λa_=>(On _ rfl _));refine EN (DN (ac J5 (ab λ_ J6=>sr λ_ J7=>PS ?_)));refine tp (dF rfl j9 rfl hluw) ?_;refine PS ?_;refine nx J7 (aq (ru 2 (sr λ_ J8=>PS ?_)));refine nx J8 (ab λ_ J9=>CY (qx J9 (ab λ_ J10=>aq (sr λ_ J11=>tp (bT (r:=0) hvw rfl j9 aQ rfl rfl (by omega) (by omega) rfl) ?_))));refine tp (c7 (v:=(.int .i64 (((s.id+1)%5)))) rfl Y3 rfl rfl (fZ 0 rfl hvw rfl) rfl) ?_;refine PS ?_;refine nx J11 (sr λ_ J12=>P2 ?_);refine FA 1939 bi aQ ?_;refine LG 2 Y3 (.int .i64 ((iz .i64 s.kept (cW from')))) ?_ (hc:=by exact λa_=>(rj _ rfl));refine PS ?_;refine tp (lJ (r:=((iz .i64 s.kept (cW from')).fdiv (2^min (((s.id+1)%5)).toNat IntKind.i64.bits))) rfl rfl rfl (by omega) rfl) ?_;refine tp (uK (r:=(((iz .i64 s.kept (cW from')).fdiv (2^min (((s.id+1)%5)).toNat IntKind.i64.bits))%2)) rfl rfl rfl (mask (k:=1) (by decide) _)) ?_;refine PS ?_;refine an ?_ ?_<;>intro h59
 refine nx J12 (CY (ai (aH (ae (ae (aH (ae (WK [2] (dE rfl ?_)))))))));have ew:gI s.id=[(s.id+1)%5,(s.id+2)%5]:=by rw[gI,if_pos hid]
 have e:kV s from' m.version=true:=by rw[kV,h19,ew,decide_eq_true (show m.version=s.own.version by omega),decide_eq_true h34];rfl
 have e2:wA (iG s from')=false:=by rw[wA,show gI (iG s from').id=[(s.id+1)%5,(s.id+2)%5]from ew];simp only[List.all_cons,List.all_nil,Af,iG, *,decide_true,decide_false,Ow,Nk,Ox,uN,gB,lP]
 exact congrArg (λq=>[cD V r q]) (show(MS.setKept s (iz .i64 s.kept (cW from')))=dM V.toDk s from' m by rw[dM,e,e2];rfl);refine nx J12 (CN (aR (af (ac J10 (ad (tp (ci (r:=1) rfl rfl rfl (by decide)) ?_))))));refine PS ?_;refine ap (ek (sr λ_ J13=>PS ?_));refine nx J13 (ab λ_ J14=>CY (qx J14 (ab λ_ J15=>aq (sr λ_ J16=>tp (bT (r:=1) hvw rfl j9 aQ rfl rfl (by omega) (by omega) rfl) ?_))));refine tp (c7 (v:=(.int .i64 (((s.id+2)%5)))) rfl Y3 rfl rfl (fZ 0 rfl hvw rfl) rfl) ?_;refine PS ?_;refine nx J16 (sr λ_ J17=>P2 ?_);refine FA 1939 bi aQ ?_;refine LG 2 Y3 (.int .i64 ((iz .i64 s.kept (cW from')))) ?_ (hc:=by exact λa_=>(rj _ rfl));refine PS ?_;refine tp (lJ (r:=((iz .i64 s.kept (cW from')).fdiv (2^min (((s.id+2)%5)).toNat IntKind.i64.bits))) rfl rfl rfl (by omega) rfl) ?_;refine tp (uK (r:=(((iz .i64 s.kept (cW from')).fdiv (2^min (((s.id+2)%5)).toNat IntKind.i64.bits))%2)) rfl rfl rfl (mask (k:=1) (by decide) _)) ?_;refine PS ?_;refine an ?_ ?_<;>intro h59;refine nx J17 (CY (ai (aH (ae (ae (aH (ae (WK [2] (dE rfl ?_)))))))));have ew:gI s.id=[(s.id+1)%5,(s.id+2)%5]:=by rw[gI,if_pos hid]
 have e:kV s from' m.version=true:=by rw[kV,h19,ew,decide_eq_true (show m.version=s.own.version by omega),decide_eq_true h34];rfl
 have e2:wA (iG s from')=false:=by rw[wA,show gI (iG s from').id=[(s.id+1)%5,(s.id+2)%5]from ew];simp only[List.all_cons,List.all_nil,Af,iG, *,decide_true,decide_false,Ow,Nk,Ox,uN,gB,lP]
 exact congrArg (λq=>[cD V r q]) (show(MS.setKept s (iz .i64 s.kept (cW from')))=dM V.toDk s from' m by rw[dM,e,e2];rfl);refine nx J17 (CN (aR (af (ac J15 (ad (tp (ci (r:=2) rfl rfl rfl (by decide)) ?_))))));refine PS ?_;refine ap (ek (sr λ_ J18=>PS ?_));refine nx J18 (ab λ_ J19=>CN (aW (az (az (bm (ac J6 (ad (P2 ?_))))))));refine CZ Mr (xx V r (iG s from') hrs) (SM [2]) λvR=>?_
 refine ap (WK [0] (bA rfl ?_));have ew:gI s.id=[(s.id+1)%5,(s.id+2)%5]:=by rw[gI,if_pos hid]
 have e:kV s from' m.version=true:=by rw[kV,h19,ew,decide_eq_true (show m.version=s.own.version by omega),decide_eq_true h34];rfl
 have e2:wA (iG s from')=true:=by rw[wA,show gI (iG s from').id=[(s.id+1)%5,(s.id+2)%5]from ew];simp only[List.all_cons,List.all_nil,Af,iG, *,decide_true,decide_false,Ow,Nk,Ox,uN,gB,lP]
 exact congrArg (λq=>[cD V r q]) (show(lE V.toDk (iG s from'))=dM V.toDk s from' m by rw[dM,e,e2];rfl);refine EN (PD 19 ?_);refine PD 20 ?_;refine DN (ac J4 (CY (ai (ae (WK [2] (dE rfl ?_))))));have ew:gI s.id=[(s.id+1)%5,(s.id+2)%5]:=by rw[gI,if_pos hid]
 have e:kV s from' m.version=false:=by rw[kV,ew,decide_eq_false h34];simp
 exact congrArg (λq=>[cD V r q]) (show s=dM V.toDk s from' m by rw[dM,e];rfl);refine PD 4 ?_;refine PD 5 ?_;refine NT 6 ?_;refine NT 7 ?_;refine NT 8 ?_;refine NT 9 ?_;refine NT 10 ?_;refine NT 11 ?_;refine NT 12 ?_;refine NT 13 ?_;refine PD 14 ?_;refine PD 15 ?_;refine NT 16 ?_;refine NT 17 ?_;refine NT 18 ?_;refine NT 19 ?_;refine PD 20 ?_;refine DN (ac J4 (CY (ai (ae (WK [2] (dE rfl ?_))))));have ew:gI s.id=[(s.id+1)%5,(s.id+2)%5]:=by rw[gI,if_pos hid]
 have e:kV s from' m.version=false:=by rw[kV,ew,h19];simp
 exact congrArg (λq=>[cD V r q]) (show s=dM V.toDk s from' m by rw[dM,e];rfl)
theorem xe{δ:Type}(V:Env δ)(r:Nat)(s:MS δ)(from':Int)(m:MsgT)[OkR V.toDk s][OkMg m](hto:from'≠s.id):
 DT 143 #[(.pointer (some ⟨r,0,none⟩)),(.iface V.T V.ov),(.int .i64 (from')),(.agg (ints m.flat).toArray)] T0 [cD V r s] (dm (λ_ H=>H=[cD V r (iU V.toDk s from' m)])):=by
 refine BD 56 Tryz.func143 rfl rfl rfl λw0 F hF=>sr λ_ J1=>XY (ints m.flat) λb7=>?_
 refine nx J1 (ab λ_ J2=>ab λ_ J3=>D1 0 bh ?_);refine FD 0 1 bb aQ ?_;refine LR 1 Y3 (ce m rfl) ?_;refine PD 2 ?_;refine PD 3 ?_;refine iN ?_ ?_<;>intro h11;refine PD 4 ?_;refine NT 5 ?_;refine NT 6 ?_;refine NT 7 ?_;refine NT 8 ?_;refine NT 9 ?_;refine NT 10 ?_;refine PD 11 ?_;refine DN (ac J3 (CY (ai (ae (WK [1] (dE rfl ?_))))));exact congrArg (λq=>[cD V r q]) (show _=iU V.toDk s from' m from(if_pos (.inl (by omega))).symm);refine PD 4 ?_;refine PD 5 ?_;refine PD 6 ?_;refine FD 7 183 bi nI ?_;refine FD 8 1 bb aQ ?_;refine LR 9 Y3 (ce m rfl) ?_;refine AL 10 ?_;refine CE KO (Leg.Does.hid (λa_=>mQ r 183 123 _ (dV (s.rep a_)) s.mirror m.whose)) (SM [1]) ?_;refine aX ?_ ?_<;>intro h18;refine EN (PD 11 ?_);refine DN (ac J3 (CY (ai (ae (WK [0] (dE rfl ?_))))));exact congrArg (λq=>[cD V r q]) (show _=iU V.toDk s from' m from(if_pos (.inr h18)).symm);refine EN (PD 11 ?_);refine DN (ac J3 (CN (qx J2 (ab λ_ J4=>ab λ_ J5=>D1 1 bh ?_))));refine PD 0 ?_;refine PD 1 ?_;refine FD 2 183 bi nI ?_;refine FD 3 1 bb aQ ?_;refine LR 4 Y3 (ce m rfl) ?_;refine FD 5 2 bb aZ ?_;refine ta 6 rfl (aN (vs:=ints m.row.flat) rfl dD rfl aZ rfl (λ_ h=>h.2.1) (ag m.row) (l3 m 0 rfl (by decide) (whole (ag m.row)))) ?_;refine AL 7 ?_;refine CE JW (Leg.Does.hid (λa_=>qm r 183 123 _ (dV (s.rep a_)) s.mirror m.whose m.row (Iu inferInstance))) ID ?_;refine aX ?_ ?_<;>intro h27;refine EN (DN (ac J5 (CY (ab λ_ J6=>sr λ_ J7=>PS ?_))))
 refine FA 1 bb aQ ?_;refine LU 1 Y3 (ce m rfl) ?_;refine FA 2 bb aZ ?_;refine LV 1 dD aZ ag MsgT.sp_row (y:=m.row) ?_;refine tp (kI RecT.zero (RecT.mk 1 m.whose m.row 0 BallotT.zero ChangeT.zero ViewT.zero) [(0,[Value.int .i64 1]),(1,[Value.int .i64 m.whose]),(2,ints m.row.flat)] iv eF (g:=RecT.sg)) ?_;refine CE wc (kT V r s (j6 m.whose m.row)) ID ?_;refine PS ?_;refine an ?_ ?_<;>intro h35;refine nx J7 (CY (ai (ae (ae (WK [0] (dE rfl ?_))))));have hn: ¬(m.whose≠from'∨fe s.mirror m.whose=true):=λh=>h.elim (λh=>by omega) (λh=>by rw[h18]at h;cases h)
 exact MQ (by rw[iU,if_neg hn,if_pos h27,if_pos h35]<;>rfl);refine nx J7 (CN (qx J6 (D1 1 bh ?_)));refine PD 0 ?_;refine PD 1 ?_;refine FD 2 183 bi nI ?_;refine FD 3 1 bb aQ ?_;refine LR 4 Y3 (ce m rfl) ?_;refine FD 5 2 bb aZ ?_;refine ta 6 rfl (aN (vs:=ints m.row.flat) rfl dD rfl aZ rfl (λ_ h=>h.2.1) (ag m.row) (l3 m 0 rfl (by decide) (whole (ag m.row)))) ?_;refine AL 7 ?_;refine CE Kf (Leg.Does.hid (λa_=>st r 183 123 _ (dV ((eh V.toDk s (j6 m.whose m.row)).rep a_)) (eh V.toDk s (j6 m.whose m.row)).mirror m.whose m.row (Iu inferInstance))) ID ?_;refine EN (DN (ac J4 (D1 1 bh ?_)));refine PD 0 ?_;refine PD 1 ?_;refine PD 2 ?_;refine PD 3 ?_;refine PD 4 ?_;refine FD 5 183 bi nI ?_;refine FD 6 1 bb aQ ?_;refine LR 7 Y3 (ce m rfl) ?_;refine AL 8 ?_;refine CE Ho (Leg.Does.hid (λa_=>lA r 183 123 _ (dV ((iE (eh V.toDk s (j6 m.whose m.row)) m.whose m.row).rep a_)) (iE (eh V.toDk s (j6 m.whose m.row)) m.whose m.row).mirror m.whose)) ID ?_;refine EN (ta 9 rfl (PV.field1 (cs:=ints (da (iE (eh V.toDk s (j6 m.whose m.row)) m.whose m.row).mirror m.whose).flat) (v:=Value.int .i64 ((da (iE (eh V.toDk s (j6 m.whose m.row)) m.whose m.row).mirror m.whose).version)) rfl dD rfl Y3 rfl rfl (cC _ rfl)) ?_)
 refine ta 10 rfl (kI MsgT.zero (MsgT.mk 1 0 RowT.zero ((da (iE (eh V.toDk s (j6 m.whose m.row)) m.whose m.row).mirror m.whose).version) 0 BallotT.zero BallotT.zero ChangeT.zero ViewT.zero) [(0,[Value.int .i64 1]),(3,[Value.int .i64 ((da (iE (eh V.toDk s (j6 m.whose m.row)) m.whose m.row).mirror m.whose).version)])] bb bq (g:=MsgT.sg)) ?_;refine AL 11 ?_;refine CZ jb (jq V r (iE (eh V.toDk s (j6 m.whose m.row)) m.whose m.row) from' (sw (da (iE (eh V.toDk s (j6 m.whose m.row)) m.whose m.row).mirror m.whose).version) hto) ID λvR=>?_
 refine EN (DN (WK [0] (bA rfl ?_)));have hn: ¬(m.whose≠from'∨fe s.mirror m.whose=true):=λh=>h.elim (λh=>by omega) (λh=>by rw[h18]at h;cases h)
 exact MQ (by rw[iU,if_neg hn,if_pos h27,if_neg h35]<;>rfl);refine EN (DN (ac J5 (CN (qx J4 (D1 1 bh ?_)))));refine PD 0 ?_;refine PD 1 ?_;refine PD 2 ?_;refine PD 3 ?_;refine PD 4 ?_;refine FD 5 183 bi nI ?_;refine FD 6 1 bb aQ ?_;refine LR 7 Y3 (ce m rfl) ?_;refine AL 8 ?_;refine CE Ho (Leg.Does.hid (λa_=>lA r 183 123 _ (dV (s.rep a_)) s.mirror m.whose)) ID ?_;refine EN (ta 9 rfl (PV.field1 (cs:=ints (da s.mirror m.whose).flat) (v:=Value.int .i64 ((da s.mirror m.whose).version)) rfl dD rfl Y3 rfl rfl (cC _ rfl)) ?_);refine ta 10 rfl (kI MsgT.zero (MsgT.mk 1 0 RowT.zero ((da s.mirror m.whose).version) 0 BallotT.zero BallotT.zero ChangeT.zero ViewT.zero) [(0,[Value.int .i64 1]),(3,[Value.int .i64 ((da s.mirror m.whose).version)])] bb bq (g:=MsgT.sg)) ?_;refine AL 11 ?_;refine CZ jb (jq V r s from' (sw (da s.mirror m.whose).version) hto) ID λvR=>?_
 refine EN (DN (WK [0] (bA rfl ?_)));have hn: ¬(m.whose≠from'∨fe s.mirror m.whose=true):=λh=>h.elim (λh=>by omega) (λh=>by rw[h18]at h;cases h)
 exact MQ (by rw[iU,if_neg hn,if_neg (by rw[h27];decide)]<;>rfl)
theorem nH{δ:Type}(V:Env δ)(r:Nat)(s:MS δ)(from':Int)(m:MsgT)[OkR V.toDk s][OkMg m]:
 DT 147 #[(.pointer (some ⟨r,0,none⟩)),(.iface V.T V.ov),(.int .i64 (from')),(.agg (ints m.flat).toArray)] T0 [cD V r s] (dm (λ_ H=>H=[cD V r (fV V.toDk s from' m)])):=by
 refine BD 59 Tryz.func147 rfl rfl rfl λw0 F hF=>sr λ_ J1=>XY (ints m.flat) λb7=>?_
 refine nx J1 (ab λ_ J2=>e7 (α:=Unit) (λ_u=>True) (λ_u=>[(0,(.pointer (some ⟨r,0,none⟩))),(1,(.iface V.T V.ov))]) (λ_u=>[cD V r (if from'∈gI m.whose then vc s from' m.whose m.row else s)]) (λ_u hinv=>?_) (λtl2=>?_));have _:=hinv;refine ac J2 (ad (P2 ?_));refine CZ EG (oH V r (if from'∈gI m.whose then vc s from' m.whose m.row else s)) ID λvR=>?_
 exact ap (WK [0] (bA rfl rfl));refine sr λ_ J3=>FA 1 bb aQ ?_
 refine LU 0 Y3 (ce m rfl) ?_;refine CR Hr (pg m.whose) ID λvR HR hR=>?_
 obtain⟨_,rfl,rfl⟩:=hR;revert vR;intro uw;refine PS ?_;refine CF JU (qt uw (gI m.whose) from' (GM m.whose)) ID (EQ (l:=(gI m.whose)) 0 rfl rfl) ?_;refine an ?_ ?_<;>intro h12
 have hm:cI m.whose=true:=by
  unfold gI at h12;split at h12
  · assumption
  · cases h12
 have hm2:0≤m.whose∧m.whose<5:=of_decide_eq_true hm;have hta:qC s m.whose=s.told[m.whose.toNat]'(by omega):=by rw[qC,dif_pos hm]
 have hla:nu s m.whose=s.last[m.whose.toNat]'(by omega):=by rw[nu,dif_pos hm]
 have hf:0≤from'∧from'<5:=by
  rw[gI,if_pos hm]at h12;simp only[cf,List.not_mem_nil,or_false]at h12;omega
 refine nx J3 (CY (ab λ_ J4=>e7 (α:=Unit) (λ_u=>True) (λ_u=>[(0,(.pointer (some ⟨r,0,none⟩))),(1,(.iface V.T V.ov)),(2,(.int .i64 (from'))),(7,(.pointer (some ⟨b7,0,none⟩)))]) (λ_u=>[cD V r (lC s m.whose m.row),ah b7 (ints m.flat) 178]) (λ_u hinv=>?_) (λtl4=>?_)));have _:=hinv;refine ac J4 (D1 1 bh ?_);refine PD 0 ?_;refine FD 1 1 bb aQ ?_;refine LR 2 Y3 (ce m rfl) ?_;refine PD 3 ?_;refine FD 4 1943 bi eV ?_;refine IY 5 (1943+(m.whose).toNat) jC aQ ?_;refine PD 7 ?_;refine ta 8 rfl (xK (r:=(cW from')) rfl rfl rfl (by omega) rfl) ?_;refine PD 10 ?_;refine FD 11 1943 bi eV ?_;refine AL 6 ?_;refine LG 0 Y3 (.int .i64 ((((lC s m.whose m.row).told)[(m.whose).toNat]'(by omega)))) ?_ (hc:=by exact λa_=>(OH ((lC s m.whose m.row).rep a_) ((m.whose).toNat) (by omega) (by omega) (ka (((lC s m.whose m.row).rep a_).told) (by omega))));refine EN (ta 9 rfl (Ir (r:=(iz .i64 (s.told[m.whose.toNat]'(by omega)) (cW from'))) rfl rfl rfl rfl) ?_);refine IY 12 (1943+(m.whose).toNat) jC aQ ?_;refine AL 13 ?_;refine SK 0 aQ (λ_=>cN _) ?_ (hc:=by exact λa_=>(RepT.st_told ((lC s m.whose m.row).rep a_) ((m.whose).toNat) (by omega) (by omega) (xW (((lC s m.whose m.row).rep a_).told) (by omega) _)));refine EN (DN ?_)
 exact aF
  SB
  (λ_ q=>by
   rw[if_pos h12,show vc s from' m.whose m.row= {lC s m.whose m.row with told:=s.told.set m.whose.toNat (iz .i64 (s.told[m.whose.toNat]'(by omega)) (cW from')) (by omega)}by rw[vc,AW,dif_pos hm,hta]]
   exact ak [0] rfl q)
  (tl2 (():Unit) trivial)
 refine ab λ_ J5=>DC bh (BL 1) (cO 2 rfl rfl) ?_
 refine PD 0 ?_;refine FD 1 1 bb aQ ?_;refine LR 2 Y3 (ce m rfl) ?_;refine PD 3 ?_;refine FD 4 1943 bi eV ?_;refine IY 5 (1943+(m.whose).toNat) jC aQ ?_;refine ta 6 rfl (c8 (v:=(.int .i64 ((s.told[(m.whose).toNat]'(by omega))))) rfl Y3 rfl rfl (λ_ h=>h.2.2.1) (λa_=>(OH (s.rep a_) ((m.whose).toNat) (by omega) (by omega) (ka ((s.rep a_).told) (by omega))))) ?_;refine PD 7 ?_;refine iN ?_ ?_<;>intro h20;refine PD 8 ?_;refine NT 9 ?_;refine NT 10 ?_;refine NT 11 ?_;refine NT 12 ?_;refine NT 13 ?_;refine NT 14 ?_;refine NT 15 ?_;refine NT 16 ?_;refine NT 17 ?_;refine NT 18 ?_;refine NT 19 ?_;refine NT 20 ?_;refine PD 21 ?_;refine DN (ac J5 (CY (D1 1 bh ?_)));refine PD 0 ?_;refine FD 1 1 bb aQ ?_;refine LR 2 Y3 (ce m rfl) ?_;refine FD 3 2 bb aZ ?_;refine ta 4 rfl (aN (vs:=ints m.row.flat) rfl dD rfl aZ rfl (λ_ h=>h.2.1) (ag m.row) (l3 m 0 rfl (by decide) (whole (ag m.row)))) ?_;refine PD 5 ?_;refine FD 6 1948 bi s7 ?_;refine IY 7 (1948+((m.whose).toNat)*174) GE aZ ?_;refine AL 8 ?_;refine gH (vs:=ints m.row.flat) (i:=2) (aa rfl) rfl rfl rfl rfl rfl (by rw[(ag m.row)];exact aZ) (bw _) rfl rfl (λ_=>LC (cN _) (ag _)) (λa_=>(RepT.wr_last_ (s.rep a_) (((m.whose).toNat)*174) (by omega) (by have h1:=(ag m.row);omega) (tG dr ((s.rep a_).last) (i:=(m.whose).toNat) 0 (by omega) (by omega) (by have h1:=(ag m.row);omega) (cn ((ag (((s.rep a_).last)[(m.whose).toNat]'(by omega))).trans (ag m.row).symm))))) (EN (DN ?_))
 exact aF
  SB
  (λ_ q=>by
   rw[show lC s m.whose m.row= {s with last:=s.last.set m.whose.toNat m.row (by omega)}by rw[lC,if_pos (.inl (hta.trans h20)),AW,dif_pos hm]]
   exact ak [2,1] rfl q)
  (tl4 (():Unit) trivial)
 refine PD 8 ?_;refine FD 9 2 bb aZ ?_;refine FD 10 2 dD aQ ?_;refine LX 11 Y3 (.int .i64 (m.row.version)) ?_ (hc:=by exact MsgT.pt_row m 0 rfl (by decide) (cC m.row rfl));refine PD 12 ?_;refine FD 13 1 bb aQ ?_;refine LR 14 Y3 (ce m rfl) ?_;refine PD 15 ?_;refine FD 16 1948 bi s7 ?_;refine IY 17 (1948+((m.whose).toNat)*174) GE aZ ?_;refine tb 18 rfl (aY (r:=1948+((m.whose).toNat)*174) rfl dD rfl aQ rfl rfl) ?_;refine tb 19 rfl (c8 (v:=(.int .i64 ((s.last[(m.whose).toNat]'(by omega)).version))) rfl Y3 rfl rfl (λ_ h=>h.2.2.1) (λa_=>(RepT.pt_last (s.rep a_) (((m.whose).toNat)*174) (by omega) (by omega) (nE dr ((s.rep a_).last) (i:=(m.whose).toNat) 0 (by omega) (by omega) (by decide) (cC _ rfl))))) ?_;refine PD 20 ?_;refine iN ?_ ?_<;>intro h33;refine PD 21 ?_;refine DN (ac J5 (CY (D1 1 bh ?_)));refine PD 0 ?_;refine FD 1 1 bb aQ ?_;refine LR 2 Y3 (ce m rfl) ?_;refine FD 3 2 bb aZ ?_;refine ta 4 rfl (aN (vs:=ints m.row.flat) rfl dD rfl aZ rfl (λ_ h=>h.2.1) (ag m.row) (l3 m 0 rfl (by decide) (whole (ag m.row)))) ?_;refine PD 5 ?_;refine FD 6 1948 bi s7 ?_;refine IY 7 (1948+((m.whose).toNat)*174) GE aZ ?_;refine AL 8 ?_
 refine gH (vs:=ints m.row.flat) (i:=2) (aa rfl) rfl rfl rfl rfl rfl (by rw[(ag m.row)];exact aZ) (bw _) rfl rfl (λ_=>LC (cN _) (ag _)) (λa_=>(RepT.wr_last_ (s.rep a_) (((m.whose).toNat)*174) (by omega) (by have h1:=(ag m.row);omega) (tG dr ((s.rep a_).last) (i:=(m.whose).toNat) 0 (by omega) (by omega) (by have h1:=(ag m.row);omega) (cn ((ag (((s.rep a_).last)[(m.whose).toNat]'(by omega))).trans (ag m.row).symm))))) (EN (DN ?_))
 exact aF
  SB
  (λ_ q=>by
   rw[show lC s m.whose m.row= {s with last:=s.last.set m.whose.toNat m.row (by omega)}by rw[lC,if_pos (.inr (by rw[hla];omega)),AW,dif_pos hm]]
   exact ak [2,1] rfl q)
  (tl4 (():Unit) trivial)
 refine PD 21 ?_;refine DN (ac J5 (CN (aR ?_)))
 exact aF
  SB
  (λ_ q=>by
   rw[show lC s m.whose m.row= {s with last:=s.last}by rw[lC,if_neg (by rw[hta,hla];omega)]]
   exact ak [2,1] rfl q)
  (tl4 (():Unit) trivial)
 refine nx J3 (CN (aR ?_))
 exact aF
  SB
  (λ_ q=>by
   rw[if_neg h12]
   exact ak [2] rfl q)
  (tl2 (():Unit) trivial)
abbrev TK{δ:Type}(V:Env δ)(r f:Nat)(s:MS δ)(from':Int)(m:MsgT)(s':MS δ):Prop:=Leg.Does Tryz.prog f #[.pointer (some ⟨r,0,none⟩), .iface V.T V.ov, .int .i64 from', .agg (ints m.flat).toArray] (λ_=>True) [cD V r s] (dm (λ_ H=>H=[cD V r s']))
theorem om{δ:Type}(V:Env δ)(r:Nat)(s s':MS δ)(from':Int)(m:MsgT)[OkMg m](h0:m.kind=0→TK V r 143 s from' m s')(h1:m.kind=1→TK V r 144 s from' m s')(h2:m.kind=2→EY s m.whose m.row=s')(h7:m.kind=7→DT 145 #[.pointer (some ⟨r,0,none⟩), .iface V.T V.ov, .agg (ints m.view.flat).toArray] T0 [cD V r s] (dm (λv H=>(∃b,v= .bool b)∧H=[cD V r s'])))(h8:m.kind=8→TK V r 146 s from' m s')(h9:m.kind=9→TK V r 147 s from' m s')(hv:m.kind=3∨m.kind=4∨m.kind=5∨m.kind=6→TK V r 148 s from' m s')(hn:m.kind≠0∧m.kind≠1∧m.kind≠2∧m.kind≠7∧m.kind≠8∧m.kind≠9∧m.kind≠3∧m.kind≠4∧m.kind≠5∧m.kind≠6→s=s'):
 DT 105 #[(.pointer (some ⟨r,0,none⟩)),(.iface V.T V.ov),(.int .i64 (from')),(.agg (ints m.flat).toArray)] T0 [cD V r s] (dm (λ_ H=>H=[cD V r s'])):=by
 refine BD 65 Tryz.func105 rfl rfl rfl λw0 F hF=>sr λ_ J1=>XY (ints m.flat) λb7=>?_
 refine nx J1 (sr λ_ J2=>FA 0 bb aQ ?_);refine LU 0 Y3 (eR m rfl) ?_;refine nx J2 (aq (sr λ_ J3=>PS ?_));refine an ?_ ?_<;>intro h11;refine PS ?_;refine nx J3 (CY (ad (P3 ?_)));refine LW 0 bb bW aG ?_;refine CZ MB ((h0 h11)) (SM [1]) λvR=>?_
 exact ap (af (WK [0] (bA rfl rfl)));refine PS ?_;refine nx J3 (CN (sr λ_ J4=>PS ?_));refine an ?_ ?_<;>intro h18;refine PS ?_;refine nx J4 (CY (ad (P3 ?_)));refine LW 0 bb bW aG ?_;refine CZ MA ((h1 h18)) (SM [1]) λvR=>?_
 exact ap (af (WK [0] (bA rfl rfl)));refine PS ?_;refine nx J4 (CN (sr λ_ J5=>PS ?_));refine an ?_ ?_<;>intro h25;refine PS ?_;refine nx J5 (CY (D1 0 bh ?_));refine PD 0 ?_;refine PD 1 ?_;refine FD 2 1068 bi vj ?_;refine FD 3 1 bb aQ ?_;refine LR 4 Y3 (ce m rfl) ?_;refine FD 5 2 bb aZ ?_;refine ta 6 rfl (aN (vs:=ints m.row.flat) rfl dD rfl aZ rfl (λ_ h=>h.2.1) (ag m.row) (l3 m 0 rfl (by decide) (whole (ag m.row)))) ?_;refine AL 7 ?_;refine CE I8 (Leg.Does.hid (λa_=>kG r 1068 123 _ (gA (s.rep a_)) s.book m.whose m.row (Iu inferInstance))) (SM [1]) ?_;refine EN (DN (af (WK [0] (bA rfl ?_))));exact congrArg (λq=>[cD V r q]) (h2 h25);refine PS ?_;refine nx J5 (CN (sr λ_ J6=>PS ?_));refine an ?_ ?_<;>intro h35;refine PS ?_;refine nx J6 (CY (ad (P2 ?_)));refine FA 185 bb bc ?_;refine LV 0 eD bc am MsgT.sp_view (y:=m.view) ?_;refine CR Hu ((h7 h35)) (SM [1]) λvR HR hR=>?_
 obtain⟨_,rfl⟩:=hR;exact ap (af (WK [0] (bA rfl rfl)));refine PS ?_;refine nx J6 (CN (sr λ_ J7=>PS ?_));refine an ?_ ?_<;>intro h42;refine PS ?_;refine nx J7 (CY (ad (P3 ?_)));refine LW 0 bb bW aG ?_;refine CZ Mz ((h8 h42)) (SM [1]) λvR=>?_
 exact ap (af (WK [0] (bA rfl rfl)));refine PS ?_;refine nx J7 (CN (sr λ_ J8=>PS ?_));refine an ?_ ?_<;>intro h49;refine PS ?_;refine nx J8 (CY (ad (P3 ?_)));refine LW 0 bb bW aG ?_;refine CZ My ((h9 h49)) (SM [1]) λvR=>?_
 exact ap (af (WK [0] (bA rfl rfl)));refine PS ?_;refine nx J8 (CN (ab λ_ J9=>sr λ_ J10=>P2 ?_));refine an ?_ ?_<;>intro h55;refine nx J10 (CY (qx J9 (CY (ad (P3 ?_)))));refine LW 0 bb bW aG ?_;refine CZ EA ((hv (by omega))) (SM [1]) λvR=>?_
 exact ap (af (WK [0] (bA rfl rfl)));refine nx J10 (CN (sr λ_ J11=>P2 ?_));refine an ?_ ?_<;>intro h55;refine nx J11 (CY (qx J9 (CY (ad (P3 ?_)))));refine LW 0 bb bW aG ?_;refine CZ EA ((hv (by omega))) (SM [1]) λvR=>?_
 exact ap (af (WK [0] (bA rfl rfl)));refine nx J11 (CN (sr λ_ J12=>P2 ?_));refine an ?_ ?_<;>intro h55;refine nx J12 (CY (qx J9 (CY (ad (P3 ?_)))));refine LW 0 bb bW aG ?_;refine CZ EA ((hv (by omega))) (SM [1]) λvR=>?_
 exact ap (af (WK [0] (bA rfl rfl)));refine nx J12 (CN (ad (PS ?_)));refine an ?_ ?_<;>intro h59;refine PS ?_;refine nx J9 (CY (ad (P3 ?_)));refine LW 0 bb bW aG ?_;refine CZ EA ((hv (by omega))) (SM [1]) λvR=>?_
 exact ap (af (WK [0] (bA rfl rfl)));refine PS ?_;refine nx J9 (CN (aR (af (WK [1] (bA rfl ?_)))));exact congrArg (λq=>[cD V r q]) (hn ⟨h11,h18,h25,h35,h42,h49,by omega,by omega,by omega,by omega⟩)
theorem CK{δ:Type}{V:Env δ}{r:Nat}{s s':MS δ}{from':Int}{m:MsgT}[OkMg m](hk:m.kind=9)(h:TK V r 147 s from' m s'):TK V r 105 s from' m s':=om V r s s' from' m (λe=>by omega) (λe=>by omega) (λe=>by omega) (λe=>by omega) (λe=>by omega) (λ_=>h) (λe=>by omega) (λe=>by omega)
theorem CM{δ:Type}{V:Env δ}{r:Nat}{s s':MS δ}{from':Int}{m:MsgT}[OkMg m](hk:m.kind=8)(h:TK V r 146 s from' m s'):TK V r 105 s from' m s':=om V r s s' from' m (λe=>by omega) (λe=>by omega) (λe=>by omega) (λe=>by omega) (λ_=>h) (λe=>by omega) (λe=>by omega) (λe=>by omega)
theorem ol{δ:Type}{V:Env δ}{r:Nat}{s s':MS δ}{from':Int}{m:MsgT}[OkMg m](hk:m.kind=3∨m.kind=4∨m.kind=5∨m.kind=6)(h:TK V r 148 s from' m s'):TK V r 105 s from' m s':=om V r s s' from' m (λe=>by omega) (λe=>by omega) (λe=>by omega) (λe=>by omega) (λe=>by omega) (λe=>by omega) (λ_=>h) (λe=>by omega)
theorem vz{δ:Type}(V:Env δ)(r:Nat)(s:MS δ)(w:Int)(y:RowT)[OkR V.toDk s][OkRow y]:TK V r 105 s s.id (gP w y) (fV V.toDk s s.id (gP w y)):=CK rfl (nH V r s s.id (gP w y))
theorem pu{δ:Type}(V:Env δ)(r:Nat)(s:MS δ)(s':MS δ)(from':Int)(m:MsgT)[OkR V.toDk s'][OkMg m](hl:DT 145 #[.pointer (some ⟨r,0,none⟩), .iface V.T V.ov, .agg (ints m.view.flat).toArray] T0 [cD V r s] (dm (λv H=>(∃b,v= .bool b)∧H=[cD V r s']))):
 DT 146 #[(.pointer (some ⟨r,0,none⟩)),(.iface V.T V.ov),(.int .i64 (from')),(.agg (ints m.flat).toArray)] T0 [cD V r s] (dm (λ_ H=>H=[cD V r (fx V.toDk s' from' m.whose)])):=by
 refine BD 64 Tryz.func146 rfl rfl rfl λw0 F hF=>sr λ_ J1=>XY (ints m.flat) λb7=>?_
 refine nx J1 (sr λ_ J2=>P2 ?_);refine FA 185 bb bc ?_;refine LV 0 eD bc am MsgT.sp_view (y:=m.view) ?_;refine CR Hu (hl) (SM [1]) λvR HR hR=>?_
 obtain⟨_,rfl⟩:=hR;refine nx J2 (ab λ_ J3=>ab λ_ J4=>DC bh (cO 0 rfl rfl) (BL 1) ?_);refine PD 0 ?_;refine PD 1 ?_;refine FD 2 2 bi bc ?_;refine ta 3 rfl (fT (vs:=ints s'.view.flat) rfl eD rfl bc rfl (λ_ h=>h.2.1) (am s'.view) (λa_=>(fO (s'.rep a_) 0 rfl (by decide) (whole (am ((s'.rep a_).view)))))) ?_;refine FD 4 1 bb aQ ?_;refine LR 5 Y3 (ce m rfl) ?_;refine AL 6 ?_;refine CE Hq (nY s'.view m.whose OkVw.rng) ID ?_;refine EN (PD 7 ?_);refine PD 8 ?_;refine PD 9 ?_;refine n7 ?_ ?_<;>intro h24;refine PD 10 ?_;refine PD 11 ?_;refine DN (ac J4 (sr λ_ J5=>PS ?_));refine PS ?_;refine P4 ?_;refine an ?_ ?_<;>intro h30;refine PS ?_;refine nx J5 (CY (ai (ae (WK [0] (dE rfl ?_)))));exact MQ (by rw[fx,if_pos (λh=>h30 (by rw[h];rfl))]);refine PS ?_;refine nx J5 (CN (qx J3 (ab λ_ J6=>ab λ_ J7=>D1 1 bh ?_)));refine PD 0 ?_;refine PD 1 ?_;refine FD 2 183 bi nI ?_;refine FD 3 1 bb aQ ?_;refine LR 4 Y3 (ce m rfl) ?_;refine AL 5 ?_;refine CE KO (Leg.Does.hid (λa_=>mQ r 183 123 _ (dV (s'.rep a_)) s'.mirror m.whose)) ID ?_;refine aX ?_ ?_<;>intro h37;refine EN (PD 6 ?_);refine DN (ac J7 (CN (qx J6 (D1 1 bh ?_))));refine PD 0 ?_;refine PD 1 ?_;refine PD 2 ?_;refine FD 3 1 bb aQ ?_;refine LR 4 Y3 (ce m rfl) ?_;refine PD 5 ?_;refine PD 6 ?_;refine FD 7 183 bi nI ?_;refine FD 8 1 bb aQ ?_;refine LR 9 Y3 (ce m rfl) ?_;refine AL 10 ?_;refine CE Ho (Leg.Does.hid (λa_=>lA r 183 123 _ (dV (s'.rep a_)) s'.mirror m.whose)) ID ?_
 refine EN (ta 11 rfl (kI MsgT.zero (MsgT.mk 9 m.whose (da s'.mirror m.whose) 0 0 BallotT.zero BallotT.zero ChangeT.zero ViewT.zero) [(0,[Value.int .i64 9]),(1,[Value.int .i64 m.whose]),(2,ints (da s'.mirror m.whose).flat)] bb bq (g:=MsgT.sg)) ?_);refine AL 12 ?_;refine CZ jb (gf V r s' from' (gP m.whose (da s'.mirror m.whose)) (λs=>fV V.toDk s s.id (gP m.whose (da s.mirror m.whose))) (λ_=>vz V r s' m.whose _)) ID λvR=>?_
 refine EN (DN (WK [0] (bA rfl ?_)));exact MQ (by rw[fx,if_neg (λh=>h (tA h24 (by omega))),if_pos h37]);refine EN (PD 6 ?_);refine DN (ac J7 (CY (ab λ_ J8=>sr λ_ J9=>PS ?_)));refine FA 1 bb aQ ?_;refine LU 1 Y3 (ce m rfl) ?_;refine tp (kI RecT.zero (RecT.mk 2 m.whose RowT.zero 0 BallotT.zero ChangeT.zero ViewT.zero) [(0,[Value.int .i64 2]),(1,[Value.int .i64 m.whose])] iv eF (g:=RecT.sg)) ?_;refine CE wc (kT V r s' (jp m.whose)) ID ?_;refine PS ?_;refine an ?_ ?_<;>intro h44;refine nx J9 (CY (ai (ae (ae (WK [0] (dE rfl ?_))))));exact MQ (by rw[fx,if_neg (λh=>h (tA h24 (by omega))),if_neg (by rw[h37];decide),if_pos h44]);refine nx J9 (CN (qx J8 (D1 1 bh ?_)));refine PD 0 ?_;refine PD 1 ?_;refine FD 2 183 bi nI ?_;refine FD 3 1 bb aQ ?_;refine LR 4 Y3 (ce m rfl) ?_;refine AL 5 ?_;refine CE Ke (Leg.Does.hid (λa_=>sq r 183 123 _ (dV ((eh V.toDk s' (jp m.whose)).rep a_)) (eh V.toDk s' (jp m.whose)).mirror m.whose)) ID ?_;refine EN (DN (ac J6 (D1 1 bh ?_)));refine PD 0 ?_;refine PD 1 ?_;refine PD 2 ?_;refine FD 3 1 bb aQ ?_;refine LR 4 Y3 (ce m rfl) ?_;refine PD 5 ?_;refine PD 6 ?_;refine FD 7 183 bi nI ?_;refine FD 8 1 bb aQ ?_;refine LR 9 Y3 (ce m rfl) ?_;refine AL 10 ?_;refine CE Ho (Leg.Does.hid (λa_=>lA r 183 123 _ (dV ((lT (eh V.toDk s' (jp m.whose)) m.whose).rep a_)) (lT (eh V.toDk s' (jp m.whose)) m.whose).mirror m.whose)) ID ?_
 refine EN (ta 11 rfl (kI MsgT.zero (MsgT.mk 9 m.whose (da (lT (eh V.toDk s' (jp m.whose)) m.whose).mirror m.whose) 0 0 BallotT.zero BallotT.zero ChangeT.zero ViewT.zero) [(0,[Value.int .i64 9]),(1,[Value.int .i64 m.whose]),(2,ints (da (lT (eh V.toDk s' (jp m.whose)) m.whose).mirror m.whose).flat)] bb bq (g:=MsgT.sg)) ?_);refine AL 12 ?_;refine CZ jb (gf V r (lT (eh V.toDk s' (jp m.whose)) m.whose) from' (gP m.whose (da (lT (eh V.toDk s' (jp m.whose)) m.whose).mirror m.whose)) (λs=>fV V.toDk s s.id (gP m.whose (da s.mirror m.whose))) (λ_=>vz V r (lT (eh V.toDk s' (jp m.whose)) m.whose) m.whose _)) ID λvR=>?_
 refine EN (DN (WK [0] (bA rfl ?_)));exact MQ (by rw[fx,if_neg (λh=>h (tA h24 (by omega))),if_neg (by rw[h37];decide),if_neg h44]);refine PD 10 ?_;refine PD 11 ?_;refine DN (ac J4 (sr λ_ J10=>PS ?_));refine PS ?_;refine PS ?_
 iterate 3 refine UT ?_
 refine PS ?_;refine nx J10 (CY (ai (ae (WK [0] (dE rfl ?_)))));exact MQ (by rw[fx,if_pos (λh=>by rw[h]at h24;cases h24)])
section
variable {δ:Type} {V:Env δ} {r:Nat} {s:MS δ} {H:List HP} {h:Hl}
theorem EH(q:bE (cD V r s::H) h): ∃vo,bE (uU V r s vo::H) h:=by
 obtain⟨a,q1⟩:=fo q;exact⟨a.vo,bj (p:=λa':Nat×Value=>[ah r (RepT.cells (s.rep ⟨a'.1,a.vo,a'.2⟩)) 123,V.lg a'.1 s.e,own a'.2 s.replies.length (ints (s.replies.flatMap ReplyT.flat)) 37 3,V.E s.e s.o]) (a.lg,a.rs) (G2 (aC [3,0,0,0,0] rfl q1))⟩
theorem Bo(q:bE (uU V r s (.pointer none)::H) h):bE (cD V r {s with vote:=none}::H) h:=by
 obtain⟨a,q1⟩:=fo q;have q2:bE (Ed (.pointer none) none::([ah r (RepT.cells (s.rep ⟨a.1, .pointer none,a.2⟩)) 123,V.lg a.1 s.e,own a.2 s.replies.length (ints (s.replies.flatMap ReplyT.flat)) 37 3,V.E s.e s.o]++H)) h:=⟨em,h,Cn h,(qq h).symm,rfl,q1⟩;exact bj (p:=λa:Adr=>[ah r (RepT.cells ({s with vote:=none}.rep a)) 123,V.lg a.lg {s with vote:=none}.e,own a.rs {s with vote:=none}.replies.length (ints ({s with vote:=none}.replies.flatMap ReplyT.flat)) 37 3,Ed a.vo {s with vote:=none}.vote,V.E {s with vote:=none}.e {s with vote:=none}.o]) ⟨a.1, .pointer none,a.2⟩ (aC [1,1,1,0,0] rfl q2)
theorem sn(hv:s.vote=none)(q:bE (cD V r s::H) h):bE (uU V r s (.pointer none)::H) h:=by
 obtain⟨a,q1⟩:=fo q;have q2:=aC [3,0,0,0,0] rfl q1;obtain⟨h1,h2,d,rfl,e,q3⟩:=q2;rw[hv]at e;have e':a.vo= .pointer none:=e;obtain⟨lg,vo,rs⟩:=a;obtain rfl:=e';rw[nd d];exact ll _ (bj (p:=λa':Nat×Value=>[ah r (RepT.cells (s.rep ⟨a'.1, .pointer none,a'.2⟩)) 123,V.lg a'.1 s.e,own a'.2 s.replies.length (ints (s.replies.flatMap ReplyT.flat)) 37 3,V.E s.e s.o]) (lg,rs) q3) d.symm
theorem mP{vt:VoteT}(hv:s.vote=some vt)(q:bE (cD V r s::H) h): ∃vb,bE (uU V r s (.pointer (some ⟨vb,0,none⟩))::ah vb (VoteT.cells vt) 227::H) h:=by
 obtain⟨a,q1⟩:=fo q;have q2:=aC [3,0,0,0,0] rfl q1;obtain⟨h1,h2,d,rfl,e,q3⟩:=q2;rw[hv]at e;obtain⟨vb,e',e⟩:=e;obtain⟨lg,vo,rs⟩:=a;have e2:vo= .pointer (some ⟨vb,0,none⟩):=e';obtain rfl:=e2;refine⟨vb,eg (List.Perm.swap _ _ _) ?_⟩;exact⟨h1,h2,d,rfl,e,bj (p:=λa':Nat×Value=>[ah r (RepT.cells (s.rep ⟨a'.1, .pointer (some ⟨vb,0,none⟩),a'.2⟩)) 123,V.lg a'.1 s.e,own a'.2 s.replies.length (ints (s.replies.flatMap ReplyT.flat)) 37 3,V.E s.e s.o]) (lg,rs) q3⟩
theorem nQ{vt:VoteT}{vb:Nat}(q:bE (uU V r s (.pointer (some ⟨vb,0,none⟩))::ah vb (VoteT.cells vt) 227::H) h):bE (cD V r {s with vote:=some vt}::H) h:=by
 obtain⟨a,q1⟩:=fo q;have q2:bE ([ah r (RepT.cells (s.rep ⟨a.1, .pointer (some ⟨vb,0,none⟩),a.2⟩)) 123,V.lg a.1 s.e,own a.2 s.replies.length (ints (s.replies.flatMap ReplyT.flat)) 37 3,V.E s.e s.o]++(Ed (.pointer (some ⟨vb,0,none⟩)) (some vt)::H)) h:=Fo (λ_ e=>⟨vb,rfl,e⟩) q1;exact bj (p:=λa:Adr=>[ah r (RepT.cells ({s with vote:=some vt}.rep a)) 123,V.lg a.lg {s with vote:=some vt}.e,own a.rs {s with vote:=some vt}.replies.length (ints ({s with vote:=some vt}.replies.flatMap ReplyT.flat)) 37 3,Ed a.vo {s with vote:=some vt}.vote,V.E {s with vote:=some vt}.e {s with vote:=some vt}.o]) ⟨a.1, .pointer (some ⟨vb,0,none⟩),a.2⟩ (aC [0,0,0,1,0] rfl q2)
theorem nR{vt:VoteT}{vb:Nat}(hv:s.vote=some vt)(q:bE (uU V r s (.pointer (some ⟨vb,0,none⟩))::ah vb (VoteT.cells vt) 227::H) h):bE (cD V r s::H) h:=by
 have q2:=nQ q
 rwa [show({s with vote:=some vt}:MS δ)=s by cases s;simp_all]at q2
end
theorem BK{δ:Type}(V:Env δ)(r:Nat)(s:MS δ)(v:ViewT):
 DT 93 #[(.pointer (some ⟨r,0,none⟩)),(.agg (ints v.flat).toArray)] T0 [cD V r s] (dm (λ_ H=>H=[cD V r (mS s v)])):=by
 refine BD 20 Tryz.func93 rfl rfl rfl λw0 F hF=>sr λ_ J1=>XY (ints v.flat) λb3=>?_
 refine nx J1 (sr λ_ J2=>PS ?_);refine LW 0 eD bc am ?_;refine PS ?_;refine FA 2 bi bc ?_;refine gH (vs:=ints v.flat) (i:=1) (aa rfl) rfl rfl rfl rfl rfl (by rw[(am v)];exact bc) (bw _) rfl rfl (λ_=>LC (cN _) (am _)) (λa_=>(Ol (s.rep a_) 0 rfl (by have h1:=(am v);omega) (cn ((am ((s.rep a_).view)).trans (am v).symm)))) (nx J2 (sr λ_ J3=>PS ?_));refine FA 0 eD aQ ?_;refine LU 0 Y3 (bd v rfl) ?_;refine tp (kI AccT.zero (AccT.mk v.epoch BallotT.zero BallotT.zero ChangeT.zero) [(0,[Value.int .i64 v.epoch])] iM og (g:=AccT.sg)) ?_;refine PS ?_;refine FA 1058 bi du ?_;refine gH (vs:=ints (AccT.mk v.epoch BallotT.zero BallotT.zero ChangeT.zero).flat) (i:=1) (aa rfl) rfl rfl rfl rfl rfl (by rw[(a9 (AccT.mk v.epoch BallotT.zero BallotT.zero ChangeT.zero))];exact du) (bw _) rfl rfl (λ_=>LC (cN _) (a9 _)) (λa_=>(kg ((MS.setView s v).rep a_) 0 rfl (by have h1:=(a9 (AccT.mk v.epoch BallotT.zero BallotT.zero ChangeT.zero));omega) (cn ((a9 (((MS.setView s v).rep a_).acc)).trans (a9 (AccT.mk v.epoch BallotT.zero BallotT.zero ChangeT.zero)).symm)))) (nx J3 (sr λ_ J4=>cr (λ_ q=>aC [1] rfl q) (Kt (H':=λvo:Value=>uU V r (MS.setAcc (MS.setView s v) (AccT.mk v.epoch BallotT.zero BallotT.zero ChangeT.zero)) vo::[ah b3 (ints v.flat) 44]) (λ_ q=>EH q) (λvo=>P2 ?_))));refine FA 1067 bi iV ?_;refine SK 0 iV (λ_=>cN _) ?_ (hc:=by exact λa_=>(Om _ rfl _))
 refine nx J4 (ad (cr (H':=cD V r {{s with view:=v}with acc:= {AccT.zero with epoch:=v.epoch},vote:=none}::[ah b3 (ints v.flat) 44]) (λ_ q=>Bo (aC [0] rfl q)) (P2 ?_)));refine FA 1066 bi aQ ?_;refine SK 0 aQ (λ_=>cN _) ?_ (hc:=by exact λa_=>(lI _ rfl _));exact ap (WK [0] (bA rfl rfl))
theorem tY{δ:Type}(V:Env δ)(r:Nat)(s:MS δ)(v:ViewT)[OkR V.toDk s][OkVw v](hcl: ¬v.epoch≤s.view.epoch→DT 108 #[.pointer (some ⟨r,0,none⟩), .iface V.T V.ov] T0 [cD V r (mS (eh V.toDk s (kZ v)) v)] (dm (λ_ H=>H=[cD V r (q9 V.toDk (mS (eh V.toDk s (kZ v)) v))]))):
 DT 145 #[(.pointer (some ⟨r,0,none⟩)),(.iface V.T V.ov),(.agg (ints v.flat).toArray)] T0 [cD V r s] (RI (.bool (qa V.toDk s v)) [cD V r (hX V.toDk s v)]):=by
 refine BD 28 Tryz.func145 rfl rfl rfl λw0 F hF=>sr λ_ J1=>XY (ints v.flat) λb5=>?_
 refine PS ?_;refine nx J1 (ab λ_ J2=>ab λ_ J3=>DC bh (BL 0) (cO 1 rfl rfl) ?_);refine FD 0 0 eD aQ ?_;refine LR 1 Y3 (bd v rfl) ?_;refine PD 2 ?_;refine PD 3 ?_;refine FD 4 2 bi bc ?_;refine FD 5 2 eD aQ ?_;refine ta 6 rfl (c8 (v:=(.int .i64 (s.view.epoch))) rfl Y3 rfl rfl (λ_ h=>h.2.2.1) (λa_=>(ca (s.rep a_) 0 rfl (by decide) (bd _ rfl)))) ?_;refine PD 7 ?_;refine iN ?_ ?_<;>intro h14;refine PD 8 ?_;refine NT 9 ?_;refine NT 10 ?_;refine NT 11 ?_;refine NT 12 ?_;refine NT 13 ?_;refine PD 14 ?_;refine DN (ac J3 (CY (sr λ_ J4=>PS ?_)));refine nx J4 (ai (ae (WK [1] (au rfl rfl ?_))));have e:hX V.toDk s v=s:=by rw[hX,if_pos h14]
 exact⟨by rw[qa,decide_eq_false (by omega),gB],congrArg (λq=>[cD V r q]) e.symm⟩;refine PD 8 ?_;refine PD 9 ?_;refine LY 10 eD bc am ?_;refine tb 11 rfl (kI RecT.zero (RecT.mk 5 0 RowT.zero 0 BallotT.zero ChangeT.zero v) [(0,[Value.int .i64 5]),(6,ints v.flat)] iv eF (g:=RecT.sg)) ?_;refine AL 12 ?_;refine CE wc (kT V r s (kZ v)) (SM [1]) ?_;refine EN (PD 13 ?_);refine iN ?_ ?_<;>intro h20;refine PD 14 ?_;refine DN (ac J3 (CY (sr λ_ J5=>PS ?_)));refine nx J5 (ai (ae (WK [0] (au rfl rfl ?_))));have e:hX V.toDk s v=(eh V.toDk s (kZ v)):=by rw[hX,if_neg h14,if_pos h20]
 exact⟨by rw[qa,decide_eq_true (by omega),decide_eq_false h20,uN],congrArg (λq=>[cD V r q]) e.symm⟩;refine PD 14 ?_;refine DN (ac J3 (CN (qx J2 (sr λ_ J6=>PS ?_))));refine LW 1 eD bc am ?_;refine CZ KJ (BK V r (eh V.toDk s (kZ v)) v) ID λvR=>?_
 refine nx J6 (sr λ_ J7=>P2 ?_);refine CZ HG ((hcl (by omega))) ID λvR=>?_
 refine nx J7 (sr λ_ J8=>PS ?_);refine nx J8 (ai (WK [0] (au rfl rfl ?_)));have e:hX V.toDk s v=(q9 V.toDk (mS (eh V.toDk s (kZ v)) v)):=by rw[hX,if_neg h14,if_neg h20]
 exact⟨by rw[qa,decide_eq_true (by omega),decide_eq_true (by omega),uN],congrArg (λq=>[cD V r q]) e.symm⟩
theorem Bv{δ:Type}(V:Env δ)(r:Nat)(s:MS δ)(v:ViewT)[OkR V.toDk s][OkVw v](h:v.epoch≤s.view.epoch):DT 145 #[.pointer (some ⟨r,0,none⟩), .iface V.T V.ov, .agg (ints v.flat).toArray] T0 [cD V r s] (dm (λq H=>(∃b,q= .bool b)∧H=[cD V r s])):=
 (tY V r s v (λq=>absurd h q)).mono λe H hp=>by
  cases e with
  |returned q=>exact⟨⟨_,hp.1⟩,hp.2.trans (by rw[hX,if_pos h])⟩
  |panicked c=>exact hp.elim
  |outgrown=>exact hp.elim
theorem vA{δ:Type}(V:Env δ)(r:Nat)(s:MS δ)(i:Int)[OkR V.toDk s]:TK V r 105 s s.id (ot i s.view) (fx V.toDk s s.id i):=CM rfl (pu V r s s s.id (ot i s.view) (Bv V r s s.view (Int.le_refl _)))
theorem pR{δ:Type}(V:Env δ)(r:Nat)(s:MS δ)[OkR V.toDk s]:
 DT 108 #[(.pointer (some ⟨r,0,none⟩)),(.iface V.T V.ov)] T0 [cD V r s] (dm (λ_ H=>H=[cD V r (q9 V.toDk s)])):=by
 refine BD 39 Tryz.func108 rfl rfl rfl λw0 F hF=>sr λ_ J1=>PS ?_
 refine CR Ka (yB V r s) ID λvR HR hR=>?_
 obtain⟨_,rfl,rfl⟩:=hR;revert vR;intro ud;refine ib 0 rfl rfl (λhlud houd=>tp (dF rfl j9 rfl hlud) ?_);refine PS ?_;refine nx J1 (aq ?_)
 refine bp (α:=(Nat)) (λk=>k≤(bC s).length) (λk=>[(0,(.pointer (some ⟨r,0,none⟩))),(1,(.iface V.T V.ov)),(9,ud),(10,(.int .i64 ((((bC s).length:Nat):Int)))),(11,(.int .i64 (((k:Nat):Int))))]) (λk=>[own ud ((bC s).length) (ints (bC s)) 3 1,cD V r (fU V.toDk ((bC s).take k) s)]) (λk=>(bC s).length-k) 0
  (aO _) SB
  (λ_ s=>s) (λk hinv=>?_)
 obtain hk:=hinv;have hcl:OkR V.toDk (fU V.toDk ((bC s).take k) s):=tC _ _ inferInstance;refine sr λ_ J2=>PS ?_
 refine an ?_ ?_<;>intro h12;refine nx J2 (ab λ_ J3=>CY (qx J3 (ab λ_ J4=>aq (sr λ_ J5=>?_))));have hmm1:(bC s).getD k 0∈bC s:=by rw[List.getD_eq_getElem?_getD,List.getElem?_eq_getElem (by omega)];exact dW _
 have hm1:cI ((bC s).getD k 0)=true:=(wH hmm1).1;have hn1:0≤(bC s).getD k 0∧(bC s).getD k 0<5:=of_decide_eq_true hm1;refine jO 0 rfl rfl (by omega) (λge1 ce1 he1 _=>tp (bT (r:=k) he1 rfl j9 aQ rfl rfl (by omega) (by omega) (by omega)) ?_);refine tp (c7 (v:=(.int .i64 (((bC s).getD k 0)))) rfl Y3 rfl rfl (fZ 0 rfl he1 rfl) (wx (by omega))) ?_;refine PS ?_;refine nx J5 (sr λ_ J6=>PS ?_);refine CR Hr (p4 ((bC s).getD k 0) hm1) ID λvR HR hR=>?_
 obtain⟨_,rfl,rfl⟩:=hR;revert vR;intro uw;refine ib 0 rfl rfl (λhluw _=>jO 0 rfl rfl (by omega) (λgw capw hvw hcapw=>tp (dF rfl j9 rfl hluw) ?_));refine PS ?_;refine nx J6 (aq (ru 2 (sr λ_ J7=>PS ?_)));refine nx J7 (ab λ_ J8=>CY (qx J8 (ab λ_ J9=>e7 (α:=Unit) (λ_u=>True) (λ_u=>[(0,(.pointer (some ⟨r,0,none⟩))),(1,(.iface V.T V.ov)),(5,(.int .i64 (((bC s).getD k 0)))),(9,ud),(10,(.int .i64 ((((bC s).length:Nat):Int)))),(11,(.int .i64 (((k:Nat):Int)))),(16,uw),(17,(.int .i64 2)),(18,(.int .i64 0)),(19,(.bool true))]) (λ_u=>[cD V r (gU V.toDk (fU V.toDk ((bC s).take k) s) ((bC s).getD k 0) ((((bC s).getD k 0)+1)%5)),own uw (2) ([.int .i64 ((((bC s).getD k 0)+1)%5), .int .i64 ((((bC s).getD k 0)+2)%5)]) 3 1,own ud ((bC s).length) (ints (bC s)) 3 1]) (λ_u hinv=>?_) (λtl9=>?_))));have _:=hinv;refine ac J9 (ad (tp (ci (r:=1) rfl rfl rfl (by decide)) ?_));refine PS ?_;refine ap (ek (sr λ_ J10=>PS ?_))
 refine nx J10 (ab λ_ J11=>CY (qx J11 (ab λ_ J12=>e7 (α:=Unit) (λ_u=>True) (λ_u=>[(0,(.pointer (some ⟨r,0,none⟩))),(1,(.iface V.T V.ov)),(5,(.int .i64 (((bC s).getD k 0)))),(9,ud),(10,(.int .i64 ((((bC s).length:Nat):Int)))),(11,(.int .i64 (((k:Nat):Int)))),(16,uw),(17,(.int .i64 2)),(18,(.int .i64 1)),(19,(.bool true)),(37,(.int .i64 1))]) (λ_u=>[cD V r (gU V.toDk (gU V.toDk (fU V.toDk ((bC s).take k) s) ((bC s).getD k 0) ((((bC s).getD k 0)+1)%5)) ((bC s).getD k 0) ((((bC s).getD k 0)+2)%5)),own uw (2) ([.int .i64 ((((bC s).getD k 0)+1)%5), .int .i64 ((((bC s).getD k 0)+2)%5)]) 3 1,own ud ((bC s).length) (ints (bC s)) 3 1]) (λ_u hinv=>?_) (λtl12=>?_))));have _:=hinv;refine ac J12 (ad (tp (ci (r:=2) rfl rfl rfl (by decide)) ?_));refine PS ?_;refine ap (ek (sr λ_ J13=>PS ?_));refine nx J13 (ab λ_ J14=>CN (aW (az (az (bm (af (ac J4 (ad (AD ?_)))))))));refine PS ?_;refine ap ?_
 exact aI ((k+1):(Nat)) (by omega) (by show(bC s).length- (k+1)< (bC s).length-k;omega)
  SB
  (λ_ q=>by
   rw[B4 V.toDk (by omega) s]
   exact ak [2,0] rfl q)
 refine aq (sr λ_ J15=>tp (bT (r:=1) hvw rfl j9 aQ rfl rfl (by omega) (by omega) rfl) ?_);refine tp (c7 (v:=(.int .i64 (((((bC s).getD k 0)+2)%5)))) rfl Y3 rfl rfl (fZ 1 rfl hvw rfl) rfl) ?_;refine PS ?_;refine nx J15 (sr λ_ J16=>P3 ?_);refine CE Ez (m9 V r (gU V.toDk (fU V.toDk ((bC s).take k) s) ((bC s).getD k 0) ((((bC s).getD k 0)+1)%5)) ((bC s).getD k 0) ((((bC s).getD k 0)+2)%5) hm1 (by omega)) ID ?_;refine aX ?_ ?_<;>intro h25;refine PS ?_;refine nx J16 (CN (aR (af ?_)))
 exact aF
  SB
  (λ_ q=>by
   rw[gU,if_pos h25]
   exact ak [0,0,0] rfl q)
  (tl12 (():Unit) trivial)
 refine PS ?_;refine nx J16 (CY (ad ?_))
 iterate 6 refine PS ?_
 refine FA 2 bi bc ?_;refine LZ 0 eD bc am ((gU V.toDk (fU V.toDk ((bC s).take k) s) ((bC s).getD k 0) ((((bC s).getD k 0)+1)%5)).view) ?_ (hc:=by exact λ_=>cM _);refine tp (kI MsgT.zero (MsgT.mk 8 ((bC s).getD k 0) RowT.zero 0 0 BallotT.zero BallotT.zero ChangeT.zero ((gU V.toDk (fU V.toDk ((bC s).take k) s) ((bC s).getD k 0) ((((bC s).getD k 0)+1)%5)).view)) [(0,[Value.int .i64 8]),(1,[Value.int .i64 ((bC s).getD k 0)]),(8,ints ((gU V.toDk (fU V.toDk ((bC s).take k) s) ((bC s).getD k 0) ((((bC s).getD k 0)+1)%5)).view).flat)] bb bq (g:=MsgT.sg)) ?_;refine CZ jb (gf V r (gU V.toDk (fU V.toDk ((bC s).take k) s) ((bC s).getD k 0) ((((bC s).getD k 0)+1)%5)) ((((bC s).getD k 0)+2)%5) (ot ((bC s).getD k 0) (gU V.toDk (fU V.toDk ((bC s).take k) s) ((bC s).getD k 0) ((((bC s).getD k 0)+1)%5)).view) (λs_=>fx V.toDk s_ s_.id ((bC s).getD k 0)) (λ_=>vA V r (gU V.toDk (fU V.toDk ((bC s).take k) s) ((bC s).getD k 0) ((((bC s).getD k 0)+1)%5)) ((bC s).getD k 0))) ID λvR=>?_
 refine ap (af ?_)
 exact aF
  SB
  (λ_ q=>by
   rw[gU,if_neg (by rw[h25];decide)]
   exact ak [0,0,0] rfl q)
  (tl12 (():Unit) trivial)
 refine aq (sr λ_ J17=>tp (bT (r:=0) hvw rfl j9 aQ rfl rfl (by omega) (by omega) rfl) ?_);refine tp (c7 (v:=(.int .i64 (((((bC s).getD k 0)+1)%5)))) rfl Y3 rfl rfl (fZ 0 rfl hvw rfl) rfl) ?_;refine PS ?_;refine nx J17 (sr λ_ J18=>P3 ?_);refine CE Ez (m9 V r (fU V.toDk ((bC s).take k) s) ((bC s).getD k 0) ((((bC s).getD k 0)+1)%5) hm1 (by omega)) (SM [2]) ?_;refine aX ?_ ?_<;>intro h25;refine PS ?_;refine nx J18 (CN (aR (af ?_)))
 exact aF
  SB
  (λ_ q=>by
   rw[gU,if_pos h25]
   exact ak [0,0,0] rfl q)
  (tl9 (():Unit) trivial)
 refine PS ?_;refine nx J18 (CY (ad ?_))
 iterate 6 refine PS ?_
 refine FA 2 bi bc ?_;refine LZ 0 eD bc am ((fU V.toDk ((bC s).take k) s).view) ?_ (hc:=by exact λ_=>cM _);refine tp (kI MsgT.zero (MsgT.mk 8 ((bC s).getD k 0) RowT.zero 0 0 BallotT.zero BallotT.zero ChangeT.zero ((fU V.toDk ((bC s).take k) s).view)) [(0,[Value.int .i64 8]),(1,[Value.int .i64 ((bC s).getD k 0)]),(8,ints ((fU V.toDk ((bC s).take k) s).view).flat)] bb bq (g:=MsgT.sg)) ?_;refine CZ jb (gf V r (fU V.toDk ((bC s).take k) s) ((((bC s).getD k 0)+1)%5) (ot ((bC s).getD k 0) (fU V.toDk ((bC s).take k) s).view) (λs_=>fx V.toDk s_ s_.id ((bC s).getD k 0)) (λ_=>vA V r (fU V.toDk ((bC s).take k) s) ((bC s).getD k 0))) ID λvR=>?_
 refine ap (af ?_)
 exact aF
  SB
  (λ_ q=>by
   rw[gU,if_neg (by rw[h25];decide)]
   exact ak [0,0,0] rfl q)
  (tl9 (():Unit) trivial)
 refine nx J2 (ab λ_ J19=>CN (aW (az (az (bm (WK [1] (bA rfl ?_)))))));obtain rfl:k=(bC s).length:=by omega
 exact MQ (by rw[ic];rfl)
theorem tZ{δ:Type}(V:Env δ)(r:Nat)(s:MS δ)(v:ViewT)[OkR V.toDk s][OkVw v]:DT 145 #[.pointer (some ⟨r,0,none⟩), .iface V.T V.ov, .agg (ints v.flat).toArray] T0 [cD V r s] (RI (.bool (qa V.toDk s v)) [cD V r (hX V.toDk s v)]):=tY V r s v λ_=>pR V r _
theorem ua{δ:Type}(V:Env δ)(r:Nat)(s:MS δ)(v:ViewT)[OkR V.toDk s][OkVw v]:DT 145 #[.pointer (some ⟨r,0,none⟩), .iface V.T V.ov, .agg (ints v.flat).toArray] T0 [cD V r s] (dm (λq H=>(∃b,q= .bool b)∧H=[cD V r (hX V.toDk s v)])):=
 (tZ V r s v).mono λe H hp=>by
  cases e with
  |returned q=>exact⟨⟨_,hp.1⟩,hp.2⟩
  |panicked c=>exact hp.elim
  |outgrown=>exact hp.elim
theorem vf{δ:Type}(V:Env δ)(r:Nat)(s:MS δ)(from':Int)(m:MsgT)[OkR V.toDk s][OkMg m]:TK V r 146 s from' m (mx V.toDk s from' m):=pu V r s _ from' m (ua V r s m.view)
theorem KC:Tryz.prog.eqGuardType Tryz.prog.depth 88=false:=by kernel_rfl
theorem KA:Tryz.prog.keyTypeAt 6 88=true:=by kernel_rfl
theorem Ld:ng Tryz.prog 6 88=some 2:=by kernel_rfl
theorem Gs:(match Tryz.prog.underlying 88 with|some (.struct _)|some (.array _ _)=>true|_=>false)=true:=by kernel_rfl
theorem GA:Tryz.prog.cellsOf 88=2:=by kernel_rfl
theorem LM:Tryz.prog.eqGuardType Tryz.prog.depth 118=false:=by kernel_rfl
theorem LL:Tryz.prog.keyTypeAt 6 118=true:=by kernel_rfl
theorem MW:ng Tryz.prog 6 118=some 8:=by kernel_rfl
theorem Ko:(match Tryz.prog.underlying 118 with|some (.struct _)|some (.array _ _)=>true|_=>false)=true:=by kernel_rfl
theorem Kq:Tryz.prog.cellsOf 118=8:=by kernel_rfl
theorem yo(a b:BallotT):
 DT 181 #[(.agg (ints a.flat).toArray),(.agg (ints b.flat).toArray)] T0 [] (RI (.bool (Bs a b)) []):=by
 refine BD 20 Tryz.func181 rfl rfl rfl λw0 F hF=>sr λ_ J1=>XY (ints a.flat) λb2=>?_
 refine XY (ints b.flat) λb3=>?_
 refine PS ?_;refine nx J1 (ab λ_ J2=>sr λ_ J3=>FA 0 jY aQ ?_);refine LU 1 Y3 (e8 a rfl) ?_;refine FA 0 jY aQ ?_;refine LU 0 Y3 (e8 b rfl) ?_;refine PS ?_;refine an ?_ ?_<;>intro h9;refine nx J3 (CY (sr λ_ J4=>FA 0 jY aQ ?_));refine LU 1 Y3 (e8 a rfl) ?_;refine FA 0 jY aQ ?_;refine LU 0 Y3 (e8 b rfl) ?_;refine P2 ?_;refine nx J4 (ai (ae (WK [] (au rfl rfl ?_))));exact⟨congrArg Value.bool (by simp[Bs, *]),rfl⟩;refine nx J3 (CN (qx J2 (sr λ_ J5=>FA 1 jY aQ ?_)));refine LU 1 Y3 (BallotT.at_who a rfl) ?_;refine FA 1 jY aQ ?_;refine LU 0 Y3 (BallotT.at_who b rfl) ?_;refine P2 ?_;refine nx J5 (ai (WK [] (au rfl rfl ?_)));exact⟨congrArg Value.bool (by simp[Bs, *]),rfl⟩
theorem rZ(a:AccT)(ep:Int)(b:BallotT):
 DT 175 #[(.agg (ints a.flat).toArray),(.int .i64 (ep)),(.agg (ints b.flat).toArray)] T0 [] (RI (.bool (yM a ep b)) []):=by
 refine BD 22 Tryz.func175 rfl rfl rfl λw0 F hF=>sr λ_ J1=>XY (ints a.flat) λb3=>?_
 refine XY (ints b.flat) λb5=>?_
 refine PS ?_;refine nx J1 (sr λ_ J2=>PS ?_);refine FA 0 iM aQ ?_;refine LU 1 Y3 (AccT.at_epoch a rfl) ?_;refine PS ?_;refine an ?_ ?_<;>intro h10;refine PS ?_
 iterate 3 refine UT ?_
 refine P2 ?_
 iterate 4 refine UT ?_
 refine P2 ?_;refine nx J2 (ai (WK [] (au rfl rfl ?_)));exact⟨congrArg Value.bool (by simp[yM, *]),rfl⟩;refine PS ?_;refine FA 0 jY aQ ?_;refine LU 0 Y3 (e8 b rfl) ?_;refine PS ?_;refine an ?_ ?_<;>intro h14;refine P2 ?_
 iterate 4 refine UT ?_
 refine P2 ?_;refine nx J2 (ai (WK [] (au rfl rfl ?_)));exact⟨congrArg Value.bool (by simp[yM, *]),rfl⟩;refine P2 ?_;refine LW 0 jY cq ao ?_;refine FA 1 iM cq ?_;refine LV 1 jY cq ao AccT.sp_vow (y:=a.vow) ?_;refine CE JQ (yo b a.vow) ID ?_;refine P2 ?_;refine nx J2 (ai (WK [] (au rfl rfl ?_)));exact⟨congrArg Value.bool (by simp[yM, *]),rfl⟩
theorem nh(a:AccT)(ep:Int)(b:BallotT):
 DT 153 #[(.agg (ints a.flat).toArray),(.int .i64 (ep)),(.agg (ints b.flat).toArray)] T0 [] (RI (.tuple #[.agg (ints (bQ a ep b).1.flat).toArray, .bool (bQ a ep b).2]) []):=by
 refine BD 16 Tryz.func153 rfl rfl rfl λw0 F hF=>sr λ_ J1=>XY (ints a.flat) λb3=>?_
 refine XY (ints b.flat) λb5=>?_
 refine XZ uW (ints AccT.zero.flat) λb6=>?_
 refine PS ?_;refine nx J1 (ab λ_ J2=>sr λ_ J3=>LW 2 iM du a9 ?_);refine PS ?_;refine LW 1 jY cq ao ?_;refine CE JT (rZ a ep b) ID ?_;refine aX ?_ ?_<;>intro h11;refine nx J3 (CY (sr λ_ J4=>LW 2 iM du a9 ?_));refine SW 0 du a9 ?_;refine PS ?_;refine nx J4 (ai (ae (RT 0 [] iM du (a9 _) ?_)));exact⟨by rw[bQ];simp_all,rfl⟩;refine nx J3 (CN (qx J2 (sr λ_ J5=>LW 1 jY cq ao ?_)));refine FA 1 iM cq ?_;refine SP 2 cq ao a9 AccT.wp_vow ?_;refine nx J5 (sr λ_ J6=>LW 2 iM du a9 ?_);refine SW 0 du a9 ?_;refine PS ?_;refine nx J6 (ai (RT 0 [] iM du (a9 _) ?_));exact⟨by rw[bQ];simp_all,rfl⟩
theorem uu(a:AccT)(ep:Int)(b:BallotT)(ch:ChangeT):
 DT 180 #[(.agg (ints a.flat).toArray),(.int .i64 (ep)),(.agg (ints b.flat).toArray),(.agg (ints ch.flat).toArray)] T0 [] (RI (.tuple #[.agg (ints (gn a ep b ch).1.flat).toArray, .bool (gn a ep b ch).2]) []):=by
 refine BD 22 Tryz.func180 rfl rfl rfl λw0 F hF=>sr λ_ J1=>XY (ints a.flat) λb4=>?_
 refine XY (ints b.flat) λb6=>?_
 refine XY (ints ch.flat) λb7=>?_
 refine XZ uW (ints AccT.zero.flat) λb8=>?_
 refine PS ?_;refine nx J1 (ab λ_ J2=>sr λ_ J3=>LW 3 iM du a9 ?_);refine PS ?_;refine LW 2 jY cq ao ?_;refine CE JT (rZ a ep b) ID ?_;refine aX ?_ ?_<;>intro h13;refine nx J3 (CY (sr λ_ J4=>LW 3 iM du a9 ?_));refine SW 0 du a9 ?_;refine PS ?_;refine nx J4 (ai (ae (RT 0 [] iM du (a9 _) ?_)));exact⟨by rw[gn];simp_all,rfl⟩;refine nx J3 (CN (qx J2 (ab λ_ J5=>D2 2 1 bh ?_)));refine LY 0 jY cq ao ?_;refine LY 1 jY cq ao ?_;refine LY 2 mX fB aJ ?_;refine FD 3 1 iM cq ?_;refine AL 4 ?_;refine SP 3 cq ao a9 AccT.wp_vow ?_;refine EN (FD 5 3 iM cq ?_);refine AL 6 ?_;refine SP 3 cq ao a9 AccT.wp_had ?_;refine EN (FD 7 5 iM fB ?_);refine AL 8 ?_;refine SP 3 fB aJ a9 AccT.wp_change ?_;refine EN (DN (ac J5 (sr λ_ J6=>LW 3 iM du a9 ?_)));refine SW 0 du a9 ?_;refine PS ?_;refine nx J6 (ai (RT 0 [] iM du (a9 _) ?_));exact⟨by rw[gn];simp_all,rfl⟩
theorem tU(b:Int):
 DT 184 #[(.int .i64 (b))] T0 [] (dm (λr' H=>∃u,r'=u∧H=[own u (CS b).length (ints (CS b)) 3 1])):=by
 refine BD 19 Tryz.func184 rfl rfl rfl λw0 F hF=>sr λ_ J1=>PS ?_
 refine nx J1 (sr λ_ J2=>PS ?_);refine nx J2 (ab λ_ J3=>sr λ_ J4=>PS ?_);refine nx J4 (aq ?_)
 refine bp (α:=(Nat)×(Value)) (λ⟨k,u⟩=>k≤5∧u.oneCell'=true) (λ⟨k,u⟩=>[(0,(.int .i64 (b))),(2,(.slice none 0 0)),(3,u),(5,(.int .i64 (((k:Nat):Int))))]) (λ⟨k,u⟩=>[own u ((kO b k).length) (ints (kO b k)) 3 1]) (λ⟨k,u⟩=>5-k) (0,(.slice none 0 0))
  ⟨aO _,rfl⟩ SB
  (λ_ s=>gC 3 1 (ak [] rfl s)) (λ⟨k,u⟩ hinv=>?_)
 obtain⟨hk,hu⟩:=hinv;have hol:=tc b k;refine sr λ_ J5=>PS ?_
 refine an ?_ ?_<;>intro h6;refine nx J5 (ab λ_ J6=>CY (qx J6 (ab λ_ J7=>aq (sr λ_ J8=>P2 ?_))));refine nx J8 (sr λ_ J9=>P2 ?_);refine tp (lJ (r:=(b.fdiv (2^min ((k:Nat):Int).toNat IntKind.i64.bits))) rfl rfl rfl (by omega) rfl) ?_;refine tp (uK (r:=((b.fdiv (2^min ((k:Nat):Int).toNat IntKind.i64.bits))%2)) rfl rfl rfl (mask (k:=1) (by decide) _)) ?_;refine PS ?_;refine an ?_ ?_<;>intro h12;refine nx J9 (CY (ad (P2 ?_)));refine aU (cells:=#[(.int .i64 (((k:Nat):Int)))]) (aa rfl) rfl rfl rfl j9 qX rfl rfl rfl (by as_aux_lemma=>kernel_rfl) (λb15=>cH (k:=1) (news:=[(.int .i64 (((k:Nat):Int)))]) (nn':=(kO b k).length+1) (xs':=ints (kO b k)++[(.int .i64 (((k:Nat):Int)))]) (aa rfl) rfl rfl rfl j9 qX rfl rfl rfl rfl rfl rfl (λ_ _=>ju rfl (RO 0) rfl) (by simp[Value.oneCell']) (by simp only[maxLen];omega) (by omega) (by simp) (by simp) (λv16 ov16=>PS ?_));refine ap (af (ac J7 (ad (AD ?_))));refine PS ?_;refine ap ?_
 exact aI ((k+1,v16):(Nat)×(Value)) ⟨by omega,ov16⟩ (by show 5- (k+1)<5-k;omega)
  SB
  (λ_ q=>by
   show bE [own v16 (kO b (k+1)).length (ints (kO b (k+1))) 3 1] _;rw[show kO b (k+1)=kO b k++[((k:Nat):Int)]by rw[vp,if_pos (by rw[GC,decide_eq_true (by assumption)])],aj,ej]
   exact ak [1] rfl q)
 refine nx J9 (CN (aR (af (ac J7 (ad (AD ?_))))));refine PS ?_;refine ap ?_
 exact aI ((k+1,u):(Nat)×(Value)) ⟨by omega,hu⟩ (by show 5- (k+1)<5-k;omega)
  SB
  (λ_ q=>by
   show bE [own u (kO b (k+1)).length (ints (kO b (k+1))) 3 1] _;rw[show kO b (k+1)=kO b k by rw[vp,if_neg (by rw[GC,decide_eq_false (by assumption)];decide),ba]]
   exact ak [0] rfl q)
 refine nx J5 (ab λ_ J10=>CN (aW (az (az (bm (ac J3 (sr λ_ J11=>P2 ?_)))))));refine nx J11 (ai (WK [0] (au rfl rfl ?_)));obtain rfl:k=5:=by omega
 exact⟨u,rfl,rfl⟩
theorem zz(part all:Int):
 DT 183 #[(.int .i64 (part)),(.int .i64 (all))] T0 [] (RI (.bool (Kl part all)) []):=by
 refine BD 15 Tryz.func183 rfl rfl rfl λw0 F hF=>sr λ_ J1=>PS ?_
 refine nx J1 (sr λ_ J2=>P2 ?_);refine tp (uK (r:=(sL .i64 part all)) rfl rfl rfl rfl) ?_;refine CR JP (tU (sL .i64 part all)) ID λvR HR hR=>?_
 obtain⟨_,rfl,rfl⟩:=hR;revert vR;intro us1;refine ib 0 rfl rfl (λhlus1 _=>?_);have hzus1:=tc (sL .i64 part all) 5;change (CS (sL .i64 part all)).length≤5 at hzus1;refine tp (dF rfl j9 rfl hlus1) ?_;refine tp (JD (r:=(2* (((CS (sL .i64 part all)).length:Nat):Int))) rfl rfl rfl (bI (by omega) (by omega))) ?_;refine PS ?_;refine CR JP (tU all) ID λvR HR hR=>?_
 obtain⟨_,rfl,rfl⟩:=hR;revert vR;intro us2;refine ib 0 rfl rfl (λhlus2 _=>?_);have hzus2:=tc all 5;change (CS all).length≤5 at hzus2;refine tp (dF rfl j9 rfl hlus2) ?_;refine P2 ?_;exact nx J2 (ai (WK [] (au rfl rfl ⟨rfl,rfl⟩)))
theorem jh(v:ViewT)(bits:Int):
 DT 182 #[(.agg (ints v.flat).toArray),(.int .i64 (bits))] T0 [] (RI (.bool (gy v bits)) []):=by
 refine BD 9 Tryz.func182 rfl rfl rfl λw0 F hF=>sr λ_ J1=>XY (ints v.flat) λb2=>?_
 refine PS ?_;refine nx J1 (sr λ_ J2=>PS ?_);refine FA 1 eD aQ ?_;refine LU 0 Y3 (lV v rfl) ?_;refine CE Mi (zz bits v.members) ID ?_;refine PS ?_;exact nx J2 (ai (WK [] (au rfl rfl ⟨rfl,rfl⟩)))
theorem yX(v:ViewT)(b:BallotT)(ch:ChangeT):
 DT 154 #[(.agg (ints v.flat).toArray),(.agg (ints b.flat).toArray),(.agg (ints ch.flat).toArray)] T0 [] (dm (λr' H=>∃vb,r'= .pointer (some ⟨vb,0,none⟩)∧H=[ah vb (VoteT.cells (jW v b ch)) 227])):=by
 refine BD 12 Tryz.func154 rfl rfl rfl λw0 F hF=>sr λ_ J1=>XY (ints v.flat) λb3=>?_
 refine XY (ints b.flat) λb4=>?_
 refine XY (ints ch.flat) λb5=>?_
 refine PS ?_;refine nx J1 (sr λ_ J2=>LW 2 eD bc am ?_);refine LW 1 jY cq ao ?_;refine LW 0 mX fB aJ ?_;refine tp (xM (cs:=VoteT.cells (VoteT.mk v b ch BallotT.zero 0 0 false)) (segs:=[ints ViewT.zero.flat,ints BallotT.zero.flat,ints ChangeT.zero.flat,ints BallotT.zero.flat,[Value.int .i64 0],[Value.int .i64 0],[Value.bool false]]) (res:=[ints v.flat,ints b.flat,ints ch.flat,ints BallotT.zero.flat,[Value.int .i64 0],[Value.int .i64 0],[Value.bool false]]) (parts:=[(0,ints v.flat),(1,ints b.flat),(2,ints ch.flat)]) rfl rfl jt (by kernel_rfl) (by kernel_rfl) rfl (e9 rfl ((am v).trans (am ViewT.zero).symm) (e9 rfl ((ao b).trans (ao BallotT.zero).symm) (e9 rfl ((aJ ch).trans (aJ ChangeT.zero).symm) lr))) (fq (VoteT.mk v b ch BallotT.zero 0 0 false)).symm) ?_;refine XY (VoteT.cells (VoteT.mk v b ch BallotT.zero 0 0 false)) λb11=>?_
 refine PS ?_;exact nx J2 (ai (WK [0] (au rfl rfl ⟨b11,rfl,rfl⟩)))
theorem bH(vb:Nat)(v:VoteT):
 DT 155 #[(.pointer (some ⟨vb,0,none⟩))] T0 [ah vb (VoteT.cells v) 227] (RI (.agg (ints v.ballot.flat).toArray) [ah vb (VoteT.cells v) 227]):=by
 refine BD 7 Tryz.func155 rfl rfl rfl λw0 F hF=>sr λ_ J1=>XZ Nq (ints BallotT.zero.flat) λb2=>?_
 refine nx J1 (sr λ_ J2=>P2 ?_);refine FA 7 jt cq ?_;refine LV 1 jY cq ao VoteT.sp_ballot (y:=v.ballot) ?_;refine SW 0 cq ao ?_;refine nx J2 (ai (RC 0 [1] jY cq (ao _) ?_));exact⟨rfl,rfl⟩
theorem cX(vb:Nat)(v:VoteT):
 DT 111 #[(.pointer (some ⟨vb,0,none⟩))] T0 [ah vb (VoteT.cells v) 227] (RI (.agg (ints v.change.flat).toArray) [ah vb (VoteT.cells v) 227]):=by
 refine BD 7 Tryz.func111 rfl rfl rfl λw0 F hF=>sr λ_ J1=>XZ Nr (ints ChangeT.zero.flat) λb2=>?_
 refine nx J1 (sr λ_ J2=>P2 ?_);refine FA 9 jt fB ?_;refine LV 1 mX fB aJ VoteT.sp_change (y:=v.change) ?_;refine SW 0 fB aJ ?_;refine nx J2 (ai (RC 0 [1] mX fB (aJ _) ?_));exact⟨rfl,rfl⟩
theorem nF(vb:Nat)(v:VoteT):
 DT 156 #[(.pointer (some ⟨vb,0,none⟩))] T0 [ah vb (VoteT.cells v) 227] (RI (.bool v.putting) [ah vb (VoteT.cells v) 227]):=by
 refine BD 7 Tryz.func156 rfl rfl rfl λw0 F hF=>sr λ_ J1=>PS ?_
 refine nx J1 (sr λ_ J2=>P2 ?_);refine FA 16 jt kM ?_;refine LU 0 Y4 (lU v rfl) ?_;refine PS ?_;exact nx J2 (ai (WK [0] (au rfl rfl ⟨rfl,rfl⟩)))
theorem Cz(vb:Nat)(v:VoteT)(who:Int)(b had:BallotT)(ch:ChangeT)(hb:WF b.flat)(hvb:WF v.ballot.flat):
 DT 172 #[(.pointer (some ⟨vb,0,none⟩)),(.int .i64 (who)),(.agg (ints b.flat).toArray),(.agg (ints had.flat).toArray),(.agg (ints ch.flat).toArray)] T0 [ah vb (VoteT.cells v) 227] (RI (.bool (eP v who b had ch).2) [ah vb (VoteT.cells (eP v who b had ch).1) 227]):=by
 refine BD 76 Tryz.func172 rfl rfl rfl λw0 F hF=>sr λ_ J1=>XY (ints b.flat) λb7=>?_
 refine XY (ints had.flat) λb8=>?_
 refine XY (ints ch.flat) λb9=>?_
 refine PS ?_;refine nx J1 (ab λ_ J2=>ab λ_ J3=>D2 3 2 bh ?_);refine PD 0 ?_;refine PD 1 ?_;refine FD 2 16 jt kM ?_;refine LR 3 Y4 (lU v rfl) ?_;refine n7 ?_ ?_<;>intro h14;refine PD 4 ?_;refine NT 5 ?_;refine NT 6 ?_;refine NT 7 ?_;refine NT 8 ?_;refine NT 9 ?_;refine NT 10 ?_;refine PD 11 ?_;refine PD 12 ?_;refine NT 13 ?_;refine NT 14 ?_;refine NT 15 ?_;refine NT 16 ?_;refine NT 17 ?_;refine NT 18 ?_;refine NT 19 ?_;refine PD 20 ?_;refine DN (ac J3 (CY (sr λ_ J4=>PS ?_)));refine nx J4 (ai (ae (WK [3] (au rfl rfl ?_))));have e:eP v who b had ch=(v,false):=by rw[eP,h14,if_pos (by rfl)]
 exact⟨congrArg (λq:VoteT×Bool=>Value.bool q.2) e.symm,congrArg (λq:VoteT×Bool=>[ah vb (VoteT.cells q.1) 227]) e.symm⟩;refine PD 4 ?_;refine LY 5 jY cq ao ?_;refine PD 6 ?_;refine PD 7 ?_;refine FD 8 7 jt cq ?_;refine tb 9 rfl (aN (vs:=ints v.ballot.flat) rfl jY rfl cq rfl (λ_ h=>h.2.1) (ao v.ballot) (JA v 0 rfl (by decide) (whole (ao v.ballot)))) ?_;refine tb 10 rfl (JC (a:=b.flat) (b:=v.ballot.flat) (m:=6) (c:=2) KC KA rfl Ld (c9 (ao b)) (c9 (ao v.ballot)) ⟨fJ Gs GA (c9 (ao b)),fJ Gs GA (c9 (ao v.ballot))⟩ hb hvb rfl rfl rfl) ?_;refine iN ?_ ?_<;>intro h21;refine PD 11 ?_;refine PD 12 ?_;refine NT 13 ?_;refine NT 14 ?_;refine NT 15 ?_;refine NT 16 ?_;refine NT 17 ?_;refine NT 18 ?_;refine NT 19 ?_;refine PD 20 ?_;refine DN (ac J3 (CY (sr λ_ J5=>PS ?_)));refine nx J5 (ai (ae (WK [3] (au rfl rfl ?_))));have e:eP v who b had ch=(v,false):=by rw[eP,np,decide_eq_false h21,if_pos (by rw[h14];rfl)]
 exact⟨congrArg (λq:VoteT×Bool=>Value.bool q.2) e.symm,congrArg (λq:VoteT×Bool=>[ah vb (VoteT.cells q.1) 227]) e.symm⟩;refine PD 11 ?_;refine PD 12 ?_;refine PD 13 ?_;refine PD 14 ?_;refine FD 15 0 jt bc ?_;refine tb 16 rfl (aN (vs:=ints v.view.flat) rfl eD rfl bc rfl (λ_ h=>h.2.1) (am v.view) (Ci v 0 rfl (by decide) (whole (am v.view)))) ?_;refine PD 17 ?_;refine AL 18 ?_;refine CE pI (dx v.view who) ID ?_;refine aX ?_ ?_<;>intro h29;have hw:0≤who∧who<5:=by unfold iK cI at h29;simp only[av,decide_eq_true_eq]at h29;exact h29.1
 refine EN (PD 19 ?_);refine PD 20 ?_;refine DN (ac J3 (CN (qx J2 (ab λ_ J6=>D0 bh ?_))));refine PD 0 ?_;refine PD 1 ?_;refine FD 2 14 jt aQ ?_;refine PD 4 ?_;refine ta 5 rfl (xK (r:=(cW who)) rfl rfl rfl (by omega) rfl) ?_;refine AL 3 ?_;refine LU 3 Y3 (lF v rfl) ?_;refine EN (ta 6 rfl (Ir (r:=(iz .i64 v.vowed (cW who))) rfl rfl rfl rfl) ?_);refine PD 7 ?_;refine FD 8 14 jt aQ ?_;refine AL 9 ?_;refine SS 3 aQ (ni _) (VoteT.set_vowed v rfl _) ?_;refine EN (DN (ac J6 (ab λ_ J7=>ab λ_ J8=>D2 1 3 bh ?_)));refine FD 0 0 jY aQ ?_;refine LR 1 Y3 (e8 had rfl) ?_;refine PD 2 ?_;refine iN ?_ ?_<;>intro h43;refine PD 3 ?_;refine PD 4 ?_;refine PD 5 ?_;refine FD 6 12 jt cq ?_;refine tb 7 rfl (aN (vs:=ints v.best.flat) rfl jY rfl cq rfl (λ_ h=>h.2.2.1) (ao v.best) (VoteT.sub_best (VoteT.mk v.view v.ballot v.change v.best (iz .i64 v.vowed (cW who)) v.took v.putting) 0 rfl (by decide) (whole (ao v.best)))) ?_;refine LY 8 jY cq ao ?_;refine AL 9 ?_;refine CE JQ (yo v.best had) ID ?_;refine aX ?_ ?_<;>intro h50;refine EN (PD 10 ?_);refine DN (ac J8 (CY (D2 1 0 bh ?_)));refine PD 0 ?_;refine PD 1 ?_;refine LY 2 jY cq ao ?_;refine LY 3 mX fB aJ ?_;refine PD 4 ?_;refine FD 5 12 jt cq ?_;refine AL 6 ?_;refine SP 3 cq ao ni VoteT.wp_best ?_;refine EN (PD 7 ?_);refine FD 8 9 jt fB ?_;refine AL 9 ?_;refine SP 3 fB aJ ni VoteT.wp_change ?_
 refine EN (DN (ac J7 (ab λ_ J9=>e7 (α:=Unit) (λ_=>True) (λ_u=>[(0,(.pointer (some ⟨vb,0,none⟩))),(10,(.bool false))]) (λ_u=>[ah b9 (ints ch.flat) 28,ah b8 (ints had.flat) 88,ah b7 (ints b.flat) 88,ah vb (VoteT.cells (VoteT.mk v.view v.ballot ch had (iz .i64 v.vowed (cW who)) v.took (gy v.view (iz .i64 v.vowed (cW who))))) 227]) (λ_u _=>?_) (λtl9=>?_))));refine ac J9 (sr λ_ J10=>P2 ?_);refine FA 16 jt kM ?_;refine LT 3 Y4 (.bool (gy v.view (iz .i64 v.vowed (cW who)))) ?_ (hc:=by exact lU _ rfl);refine PS ?_;refine nx J10 (ai (WK [3] (au rfl rfl ?_)));have e:eP v who b had ch=((VoteT.mk v.view v.ballot ch had (iz .i64 v.vowed (cW who)) v.took (gy v.view (iz .i64 v.vowed (cW who)))),gy v.view (iz .i64 v.vowed (cW who))):=by rw[eP,np,decide_eq_true (show b.flat=v.ballot.flat from Decidable.not_not.1 h21),h29,h14,if_neg (by decide),va,decide_eq_true (show 0<had.round by omega),h50,if_pos (by decide)]
 exact⟨congrArg (λq:VoteT×Bool=>Value.bool q.2) e.symm,congrArg (λq:VoteT×Bool=>[ah vb (VoteT.cells q.1) 227]) e.symm⟩;refine D0 bh ?_;refine PD 0 ?_;refine PD 1 ?_;refine PD 2 ?_;refine FD 3 0 jt bc ?_;refine PD 5 ?_;refine PD 6 ?_;refine FD 7 14 jt aQ ?_;refine cx [4,8] (by kernel_rfl) rfl (aE rfl ?_ ?_);refine LV 3 eD bc am pc (y:=v.view) ?_;refine EN (AL 8 ?_);refine LT 3 Y3 (.int .i64 ((iz .i64 v.vowed (cW who)))) ?_ (hc:=by exact lF _ rfl);refine EN (AL 9 ?_);refine CE vZ (jh v.view (iz .i64 v.vowed (cW who))) ID ?_;refine EN (PD 10 ?_);refine FD 11 16 jt kM ?_;refine AL 12 ?_;refine SS 3 kM (ni _) (kQ _ rfl _) ?_;refine EN (DN ?_)
 exact aF
  SB
  (λ_ s=>s)
  (tl9 (():Unit) trivial)
 refine aE rfl ?_ ?_;refine LT 3 Y3 (.int .i64 ((iz .i64 v.vowed (cW who)))) ?_ (hc:=by exact lF _ rfl);refine EN (AL 4 ?_);refine LV 3 eD bc am pc (y:=v.view) ?_;refine EN (AL 9 ?_);refine CE vZ (jh v.view (iz .i64 v.vowed (cW who))) ID ?_;refine EN (PD 10 ?_);refine FD 11 16 jt kM ?_;refine AL 12 ?_;refine SS 3 kM (ni _) (kQ _ rfl _) ?_;refine EN (DN ?_)
 exact aF
  SB
  (λ_ s=>s)
  (tl9 (():Unit) trivial)
 exact bz;refine EN (PD 10 ?_);refine DN (ac J8 (CN (qx J7 (ab λ_ J11=>e7 (α:=Unit) (λ_=>True) (λ_u=>[(0,(.pointer (some ⟨vb,0,none⟩))),(10,(.bool false))]) (λ_u=>[ah b9 (ints ch.flat) 28,ah b8 (ints had.flat) 88,ah b7 (ints b.flat) 88,ah vb (VoteT.cells (VoteT.mk v.view v.ballot v.change v.best (iz .i64 v.vowed (cW who)) v.took (gy v.view (iz .i64 v.vowed (cW who))))) 227]) (λ_u _=>?_) (λtl11=>?_)))));refine ac J11 (sr λ_ J12=>P2 ?_);refine FA 16 jt kM ?_;refine LT 3 Y4 (.bool (gy v.view (iz .i64 v.vowed (cW who)))) ?_ (hc:=by exact lU _ rfl);refine PS ?_;refine nx J12 (ai (WK [3] (au rfl rfl ?_)));have e:eP v who b had ch=((VoteT.mk v.view v.ballot v.change v.best (iz .i64 v.vowed (cW who)) v.took (gy v.view (iz .i64 v.vowed (cW who)))),gy v.view (iz .i64 v.vowed (cW who))):=by rw[eP,np,decide_eq_true (show b.flat=v.ballot.flat from Decidable.not_not.1 h21),h29,h14,if_neg (by decide),va,h50,lP,if_neg (by decide)]
 exact⟨congrArg (λq:VoteT×Bool=>Value.bool q.2) e.symm,congrArg (λq:VoteT×Bool=>[ah vb (VoteT.cells q.1) 227]) e.symm⟩;refine D0 bh ?_;refine PD 0 ?_;refine PD 1 ?_;refine PD 2 ?_;refine FD 3 0 jt bc ?_;refine PD 5 ?_;refine PD 6 ?_;refine FD 7 14 jt aQ ?_;refine cx [4,8] (by kernel_rfl) rfl (aE rfl ?_ ?_);refine LV 3 eD bc am pc (y:=v.view) ?_;refine EN (AL 8 ?_);refine LT 3 Y3 (.int .i64 ((iz .i64 v.vowed (cW who)))) ?_ (hc:=by exact lF _ rfl);refine EN (AL 9 ?_);refine CE vZ (jh v.view (iz .i64 v.vowed (cW who))) ID ?_;refine EN (PD 10 ?_);refine FD 11 16 jt kM ?_;refine AL 12 ?_;refine SS 3 kM (ni _) (kQ _ rfl _) ?_;refine EN (DN ?_)
 exact aF
  SB
  (λ_ s=>s)
  (tl11 (():Unit) trivial)
 refine aE rfl ?_ ?_;refine LT 3 Y3 (.int .i64 ((iz .i64 v.vowed (cW who)))) ?_ (hc:=by exact lF _ rfl);refine EN (AL 4 ?_);refine LV 3 eD bc am pc (y:=v.view) ?_;refine EN (AL 9 ?_);refine CE vZ (jh v.view (iz .i64 v.vowed (cW who))) ID ?_;refine EN (PD 10 ?_);refine FD 11 16 jt kM ?_;refine AL 12 ?_;refine SS 3 kM (ni _) (kQ _ rfl _) ?_;refine EN (DN ?_)
 exact aF
  SB
  (λ_ s=>s)
  (tl11 (():Unit) trivial)
 exact bz;refine PD 3 ?_;refine NT 4 ?_;refine NT 5 ?_;refine NT 6 ?_;refine NT 7 ?_;refine NT 8 ?_;refine NT 9 ?_;refine PD 10 ?_;refine DN (ac J8 (CN (qx J7 (ab λ_ J13=>e7 (α:=Unit) (λ_=>True) (λ_u=>[(0,(.pointer (some ⟨vb,0,none⟩))),(10,(.bool false))]) (λ_u=>[ah b9 (ints ch.flat) 28,ah b8 (ints had.flat) 88,ah b7 (ints b.flat) 88,ah vb (VoteT.cells (VoteT.mk v.view v.ballot v.change v.best (iz .i64 v.vowed (cW who)) v.took (gy v.view (iz .i64 v.vowed (cW who))))) 227]) (λ_u _=>?_) (λtl13=>?_)))));refine ac J13 (sr λ_ J14=>P2 ?_);refine FA 16 jt kM ?_;refine LT 3 Y4 (.bool (gy v.view (iz .i64 v.vowed (cW who)))) ?_ (hc:=by exact lU _ rfl);refine PS ?_;refine nx J14 (ai (WK [3] (au rfl rfl ?_)));have e:eP v who b had ch=((VoteT.mk v.view v.ballot v.change v.best (iz .i64 v.vowed (cW who)) v.took (gy v.view (iz .i64 v.vowed (cW who)))),gy v.view (iz .i64 v.vowed (cW who))):=by rw[eP,np,decide_eq_true (show b.flat=v.ballot.flat from Decidable.not_not.1 h21),h29,h14,if_neg (by decide),va,decide_eq_false (show ¬0<had.round by omega),gB,if_neg (by decide)]
 exact⟨congrArg (λq:VoteT×Bool=>Value.bool q.2) e.symm,congrArg (λq:VoteT×Bool=>[ah vb (VoteT.cells q.1) 227]) e.symm⟩;refine D0 bh ?_;refine PD 0 ?_;refine PD 1 ?_;refine PD 2 ?_;refine FD 3 0 jt bc ?_;refine PD 5 ?_;refine PD 6 ?_;refine FD 7 14 jt aQ ?_;refine cx [4,8] (by kernel_rfl) rfl (aE rfl ?_ ?_);refine LV 3 eD bc am pc (y:=v.view) ?_;refine EN (AL 8 ?_);refine LT 3 Y3 (.int .i64 ((iz .i64 v.vowed (cW who)))) ?_ (hc:=by exact lF _ rfl);refine EN (AL 9 ?_);refine CE vZ (jh v.view (iz .i64 v.vowed (cW who))) ID ?_;refine EN (PD 10 ?_);refine FD 11 16 jt kM ?_;refine AL 12 ?_;refine SS 3 kM (ni _) (kQ _ rfl _) ?_;refine EN (DN ?_)
 exact aF
  SB
  (λ_ s=>s)
  (tl13 (():Unit) trivial)
 refine aE rfl ?_ ?_;refine LT 3 Y3 (.int .i64 ((iz .i64 v.vowed (cW who)))) ?_ (hc:=by exact lF _ rfl);refine EN (AL 4 ?_);refine LV 3 eD bc am pc (y:=v.view) ?_;refine EN (AL 9 ?_);refine CE vZ (jh v.view (iz .i64 v.vowed (cW who))) ID ?_;refine EN (PD 10 ?_);refine FD 11 16 jt kM ?_;refine AL 12 ?_;refine SS 3 kM (ni _) (kQ _ rfl _) ?_;refine EN (DN ?_)
 exact aF
  SB
  (λ_ s=>s)
  (tl13 (():Unit) trivial)
 exact bz;refine EN (PD 19 ?_);refine PD 20 ?_;refine DN (ac J3 (CY (sr λ_ J15=>PS ?_)));refine nx J15 (ai (ae (WK [3] (au rfl rfl ?_))));have e:eP v who b had ch=(v,false):=by rw[eP,np,h29,if_pos (by rw[h14,lP];rfl)]
 exact⟨congrArg (λq:VoteT×Bool=>Value.bool q.2) e.symm,congrArg (λq:VoteT×Bool=>[ah vb (VoteT.cells q.1) 227]) e.symm⟩
theorem CJ(vb:Nat)(v:VoteT)(who:Int)(b:BallotT)(hb:WF b.flat)(hvb:WF v.ballot.flat):
 DT 173 #[(.pointer (some ⟨vb,0,none⟩)),(.int .i64 (who)),(.agg (ints b.flat).toArray)] T0 [ah vb (VoteT.cells v) 227] (RI (.bool (gm v who b).2) [ah vb (VoteT.cells (gm v who b).1) 227]):=by
 refine BD 47 Tryz.func173 rfl rfl rfl λw0 F hF=>sr λ_ J1=>XY (ints b.flat) λb5=>?_
 refine PS ?_;refine nx J1 (ab λ_ J2=>ab λ_ J3=>D2 1 0 bh ?_);refine PD 0 ?_;refine PD 1 ?_;refine FD 2 16 jt kM ?_;refine LR 3 Y4 (lU v rfl) ?_;refine n7 ?_ ?_<;>intro h10;refine PD 4 ?_;refine PD 5 ?_;refine LY 6 jY cq ao ?_;refine PD 7 ?_;refine PD 8 ?_;refine FD 9 7 jt cq ?_;refine tb 10 rfl (aN (vs:=ints v.ballot.flat) rfl jY rfl cq rfl (λ_ h=>h.2.1) (ao v.ballot) (JA v 0 rfl (by decide) (whole (ao v.ballot)))) ?_;refine tb 11 rfl (JC (a:=b.flat) (b:=v.ballot.flat) (m:=6) (c:=2) KC KA rfl Ld (c9 (ao b)) (c9 (ao v.ballot)) ⟨fJ Gs GA (c9 (ao b)),fJ Gs GA (c9 (ao v.ballot))⟩ hb hvb rfl rfl rfl) ?_;refine iN ?_ ?_<;>intro h18;refine PD 12 ?_;refine PD 13 ?_;refine NT 14 ?_;refine NT 15 ?_;refine NT 16 ?_;refine NT 17 ?_;refine NT 18 ?_;refine NT 19 ?_;refine NT 20 ?_;refine PD 21 ?_;refine DN (ac J3 (CY (sr λ_ J4=>PS ?_)));refine nx J4 (ai (ae (WK [1] (au rfl rfl ?_))));have e:gm v who b=(v,false):=by rw[gm,np,decide_eq_false h18,if_pos (by rw[h10];rfl)]
 exact⟨congrArg (λq:VoteT×Bool=>Value.bool q.2) e.symm,congrArg (λq:VoteT×Bool=>[ah vb (VoteT.cells q.1) 227]) e.symm⟩;refine PD 12 ?_;refine PD 13 ?_;refine PD 14 ?_;refine PD 15 ?_;refine FD 16 0 jt bc ?_;refine tb 17 rfl (aN (vs:=ints v.view.flat) rfl eD rfl bc rfl (λ_ h=>h.2.1) (am v.view) (Ci v 0 rfl (by decide) (whole (am v.view)))) ?_;refine PD 18 ?_;refine AL 19 ?_;refine CE pI (dx v.view who) ID ?_;refine aX ?_ ?_<;>intro h26;have hw:0≤who∧who<5:=by unfold iK cI at h26;simp only[av,decide_eq_true_eq]at h26;exact h26.1
 refine EN (PD 20 ?_);refine PD 21 ?_;refine DN (ac J3 (CN (qx J2 (ab λ_ J5=>D0 bh ?_))));refine PD 0 ?_;refine PD 1 ?_;refine FD 2 15 jt aQ ?_;refine PD 4 ?_;refine ta 5 rfl (xK (r:=(cW who)) rfl rfl rfl (by omega) rfl) ?_;refine AL 3 ?_;refine LU 1 Y3 (VoteT.at_took v rfl) ?_;refine EN (ta 6 rfl (Ir (r:=(iz .i64 v.took (cW who))) rfl rfl rfl rfl) ?_);refine PD 7 ?_;refine FD 8 15 jt aQ ?_;refine AL 9 ?_;refine SS 1 aQ (ni _) (VoteT.set_took v rfl _) ?_;refine EN (DN (ac J5 (ab λ_ J6=>D1 1 bh ?_)));refine PD 0 ?_;refine PD 1 ?_;refine FD 2 0 jt bc ?_;refine ta 3 rfl (aN (vs:=ints v.view.flat) rfl eD rfl bc rfl (λ_ h=>h.2.1) (am v.view) (Ci (VoteT.mk v.view v.ballot v.change v.best v.vowed (iz .i64 v.took (cW who)) v.putting) 0 rfl (by decide) (whole (am v.view)))) ?_;refine PD 4 ?_;refine PD 5 ?_;refine FD 6 15 jt aQ ?_;refine LX 7 Y3 (.int .i64 ((iz .i64 v.took (cW who)))) ?_ (hc:=by exact VoteT.at_took _ rfl);refine AL 8 ?_;refine CE vZ (jh v.view (iz .i64 v.took (cW who))) ID ?_;refine EN (PD 9 ?_);refine DN (ac J6 (ai (WK [1] (au rfl rfl ?_))));have e:gm v who b=((VoteT.mk v.view v.ballot v.change v.best v.vowed (iz .i64 v.took (cW who)) v.putting),gy v.view (iz .i64 v.took (cW who))):=by rw[gm,np,decide_eq_true (show b.flat=v.ballot.flat from Decidable.not_not.1 h18),h26,h10,if_neg (by decide)]
 exact⟨congrArg (λq:VoteT×Bool=>Value.bool q.2) e.symm,congrArg (λq:VoteT×Bool=>[ah vb (VoteT.cells q.1) 227]) e.symm⟩;refine EN (PD 20 ?_);refine PD 21 ?_;refine DN (ac J3 (CY (sr λ_ J7=>PS ?_)));refine nx J7 (ai (ae (WK [1] (au rfl rfl ?_))));have e:gm v who b=(v,false):=by rw[gm,np,h26,if_pos (by rw[h10,lP];rfl)]
 exact⟨congrArg (λq:VoteT×Bool=>Value.bool q.2) e.symm,congrArg (λq:VoteT×Bool=>[ah vb (VoteT.cells q.1) 227]) e.symm⟩;refine PD 4 ?_;refine PD 5 ?_;refine NT 6 ?_;refine NT 7 ?_;refine NT 8 ?_;refine NT 9 ?_;refine NT 10 ?_;refine NT 11 ?_;refine PD 12 ?_;refine PD 13 ?_;refine NT 14 ?_;refine NT 15 ?_;refine NT 16 ?_;refine NT 17 ?_;refine NT 18 ?_;refine NT 19 ?_;refine NT 20 ?_;refine PD 21 ?_;refine DN (ac J3 (CY (sr λ_ J8=>PS ?_)));refine nx J8 (ai (ae (WK [1] (au rfl rfl ?_))));have e:gm v who b=(v,false):=by rw[gm,h10,if_pos (by rfl)]
 exact⟨congrArg (λq:VoteT×Bool=>Value.bool q.2) e.symm,congrArg (λq:VoteT×Bool=>[ah vb (VoteT.cells q.1) 227]) e.symm⟩
theorem zZ{δ:Type}(V:Env δ)(r vb:Nat)(s:MS δ)(vt:VoteT)(hv:s.vote=some vt)[OkR V.toDk s]:
 DT 174 #[(.pointer (some ⟨r,0,none⟩)),(.iface V.T V.ov)] T0 [uU V r s (.pointer (some ⟨vb,0,none⟩)),ah vb (VoteT.cells vt) 227] (dm (λ_ H=>H=[cD V r (ld V.toDk s vt.change)])):=by
 refine BD 32 Tryz.func174 rfl rfl rfl λw0 F hF=>ab λ_ J1=>e7 (α:=(Nat)) (λ_=>True) (λb4=>[(0,(.pointer (some ⟨r,0,none⟩))),(1,(.iface V.T V.ov)),(4,(.pointer (some ⟨b4,0,none⟩))),(5,(.int .i64 ((dT s.view vt.change).2)))]) (λb4=>[ah b4 (ints ((dT s.view vt.change).1).flat) 44,ah vb (VoteT.cells vt) 227,uU V r s (.pointer (some ⟨vb,0,none⟩))]) (λb4 _=>?_) (λtl1=>?_)
 refine ac J1 (ab λ_ J2=>sr λ_ J3=>cr (H':=cD V r s::[ah b4 (ints ((dT s.view vt.change).1).flat) 44]) (λ_ q=>nR hv (aC [2,1] rfl q)) (P2 ?_));refine an ?_ ?_<;>intro h20;refine PS ?_
 iterate 5 refine UT ?_
 refine PS ?_;refine nx J3 (CY (ai (ae (WK [0] (dE rfl ?_)))));exact MQ (by rw[ld,if_pos h20]);refine P3 ?_;refine LW 1 eD bc am ?_;refine CE Hu (tZ V r s ((dT s.view vt.change).1)) ID ?_;refine aX ?_ ?_<;>intro h25;refine PS ?_;refine PS ?_;refine nx J3 (CN (qx J2 (ad (P2 ?_))));refine LW 1 eD bc am ?_;refine CZ HF (mG V r (hX V.toDk s ((dT s.view vt.change).1)) ((dT s.view vt.change).1)) ID λvR=>?_
 refine ap (WK [0] (bA rfl ?_));exact MQ (by rw[ld,if_neg h20,h25,if_pos rfl]);refine PS ?_;refine PS ?_;refine nx J3 (CY (ai (ae (WK [0] (dE rfl ?_)))));exact MQ (by rw[ld,if_neg h20,h25,if_neg (by decide)]);refine D1 1 bh ?_;refine PD 0 ?_;refine PD 1 ?_;refine FD 2 2 bi bc ?_;refine PD 4 ?_;refine PD 5 ?_;refine FD 6 1067 bi iV ?_;refine cx [3,7,13] (by kernel_rfl) rfl (aE rfl ?_ ?_);refine LZ 0 eD bc am s.view ?_ (hc:=by exact λ_=>cM _);refine EN (cx [7,13] (by kernel_rfl) rfl (aE rfl ?_ ?_));refine LG 0 iA (.pointer (some ⟨vb,0,none⟩)) ?_ (hc:=by exact λa_=>(bR _ rfl));refine EN (cx [8,13] (by kernel_rfl) rfl (aE rfl ?_ ?_));refine CE nP (cX vb vt) (SM [1]) ?_;refine EN (cx [9,13] (by kernel_rfl) rfl (aE rfl ?_ ?_));refine CE mO (dh s.view vt.change OkVw.rng) ID ?_;refine EN (PD 10 ?_);refine PD 11 ?_;refine PD 12 ?_;refine AL 13 ?_;refine XZ rr (ints ViewT.zero.flat) λb4=>?_
 refine EN (AL 14 ?_);refine SW 0 bc am ?_;refine EN (PD 15 ?_);refine DN ?_
 exact aF
  SB
  (λ_ s=>s)
  (tl1 ((b4):(Nat)) trivial)
 refine aE rfl ?_ ?_;refine XZ rr (ints ViewT.zero.flat) λb4=>?_
 refine EN (AL 9 ?_);refine CE mO (dh s.view vt.change OkVw.rng) ID ?_;refine EN (PD 10 ?_);refine PD 11 ?_;refine PD 12 ?_;refine AL 14 ?_;refine SW 0 bc am ?_;refine EN (PD 15 ?_);refine DN ?_
 exact aF
  SB
  (λ_ s=>s)
  (tl1 ((b4):(Nat)) trivial)
 exact bz;refine aE rfl ?_ ?_;refine XZ rr (ints ViewT.zero.flat) λb4=>?_
 refine EN (AL 8 ?_);refine CE nP (cX vb vt) (SM [2]) ?_;refine EN (AL 9 ?_);refine CE mO (dh s.view vt.change OkVw.rng) ID ?_;refine EN (PD 10 ?_);refine PD 11 ?_;refine PD 12 ?_;refine AL 14 ?_;refine SW 1 bc am ?_;refine EN (PD 15 ?_);refine DN ?_
 exact aF
  SB
  (λ_ s=>ak [1,0,0] rfl s)
  (tl1 ((b4):(Nat)) trivial)
 exact bz;refine aE rfl ?_ ?_;refine XZ rr (ints ViewT.zero.flat) λb4=>?_
 refine EN (AL 7 ?_);refine LG 1 iA (.pointer (some ⟨vb,0,none⟩)) ?_ (hc:=by exact λa_=>(bR _ rfl));refine EN (AL 8 ?_);refine CE nP (cX vb vt) (SM [2]) ?_;refine EN (AL 9 ?_);refine CE mO (dh s.view vt.change OkVw.rng) ID ?_;refine EN (PD 10 ?_);refine PD 11 ?_;refine PD 12 ?_;refine AL 14 ?_;refine SW 1 bc am ?_;refine EN (PD 15 ?_);refine DN ?_
 exact aF
  SB
  (λ_ s=>ak [1,0,0] rfl s)
  (tl1 ((b4):(Nat)) trivial)
 exact bz;refine aE rfl ?_ ?_;refine LG 0 iA (.pointer (some ⟨vb,0,none⟩)) ?_ (hc:=by exact λa_=>(bR _ rfl));refine EN (cx [3,8,13] (by kernel_rfl) rfl (aE rfl ?_ ?_));refine LZ 0 eD bc am s.view ?_ (hc:=by exact λ_=>cM _);refine EN (cx [8,13] (by kernel_rfl) rfl (aE rfl ?_ ?_));refine CE nP (cX vb vt) (SM [1]) ?_;refine EN (cx [9,13] (by kernel_rfl) rfl (aE rfl ?_ ?_));refine CE mO (dh s.view vt.change OkVw.rng) ID ?_;refine EN (PD 10 ?_);refine PD 11 ?_;refine PD 12 ?_;refine AL 13 ?_;refine XZ rr (ints ViewT.zero.flat) λb4=>?_
 refine EN (AL 14 ?_);refine SW 0 bc am ?_;refine EN (PD 15 ?_);refine DN ?_
 exact aF
  SB
  (λ_ s=>s)
  (tl1 ((b4):(Nat)) trivial)
 refine aE rfl ?_ ?_;refine XZ rr (ints ViewT.zero.flat) λb4=>?_
 refine EN (AL 9 ?_);refine CE mO (dh s.view vt.change OkVw.rng) ID ?_;refine EN (PD 10 ?_);refine PD 11 ?_;refine PD 12 ?_;refine AL 14 ?_;refine SW 0 bc am ?_;refine EN (PD 15 ?_);refine DN ?_
 exact aF
  SB
  (λ_ s=>s)
  (tl1 ((b4):(Nat)) trivial)
 exact bz;refine aE rfl ?_ ?_;refine XZ rr (ints ViewT.zero.flat) λb4=>?_
 refine EN (AL 8 ?_);refine CE nP (cX vb vt) (SM [2]) ?_;refine EN (AL 9 ?_);refine CE mO (dh s.view vt.change OkVw.rng) ID ?_;refine EN (PD 10 ?_);refine PD 11 ?_;refine PD 12 ?_;refine AL 14 ?_;refine SW 1 bc am ?_;refine EN (PD 15 ?_);refine DN ?_
 exact aF
  SB
  (λ_ s=>ak [1,0,0] rfl s)
  (tl1 ((b4):(Nat)) trivial)
 exact bz;refine aE rfl ?_ ?_;refine CE nP (cX vb vt) (SM [1]) ?_;refine EN (cx [3,13] (by kernel_rfl) rfl (aE rfl ?_ ?_));refine LZ 1 eD bc am s.view ?_ (hc:=by exact λ_=>cM _);refine EN (cx [9,13] (by kernel_rfl) rfl (aE rfl ?_ ?_));refine CE mO (dh s.view vt.change OkVw.rng) ID ?_;refine EN (PD 10 ?_);refine PD 11 ?_;refine PD 12 ?_;refine AL 13 ?_;refine XZ rr (ints ViewT.zero.flat) λb4=>?_
 refine EN (AL 14 ?_);refine SW 0 bc am ?_;refine EN (PD 15 ?_);refine DN ?_
 exact aF
  SB
  (λ_ s=>s)
  (tl1 ((b4):(Nat)) trivial)
 refine aE rfl ?_ ?_;refine XZ rr (ints ViewT.zero.flat) λb4=>?_
 refine EN (AL 9 ?_);refine CE mO (dh s.view vt.change OkVw.rng) ID ?_;refine EN (PD 10 ?_);refine PD 11 ?_;refine PD 12 ?_;refine AL 14 ?_;refine SW 0 bc am ?_;refine EN (PD 15 ?_);refine DN ?_
 exact aF
  SB
  (λ_ s=>s)
  (tl1 ((b4):(Nat)) trivial)
 exact bz;refine aE rfl ?_ ?_;refine XZ rr (ints ViewT.zero.flat) λb4=>?_
 refine EN (AL 3 ?_);refine LZ 2 eD bc am s.view ?_ (hc:=by exact λ_=>cM _);refine EN (AL 9 ?_);refine CE mO (dh s.view vt.change OkVw.rng) ID ?_;refine EN (PD 10 ?_);refine PD 11 ?_;refine PD 12 ?_;refine AL 14 ?_;refine SW 0 bc am ?_;refine EN (PD 15 ?_);refine DN ?_
 exact aF
  SB
  (λ_ s=>s)
  (tl1 ((b4):(Nat)) trivial)
 exact bz;refine aE rfl ?_ ?_;refine XZ rr (ints ViewT.zero.flat) λb4=>?_
 refine EN (cx [3,8] (by kernel_rfl) rfl (aE rfl ?_ ?_));refine LZ 1 eD bc am s.view ?_ (hc:=by exact λ_=>cM _);refine EN (AL 8 ?_);refine CE nP (cX vb vt) (SM [2]) ?_;refine EN (AL 9 ?_);refine CE mO (dh s.view vt.change OkVw.rng) ID ?_;refine EN (PD 10 ?_);refine PD 11 ?_;refine PD 12 ?_;refine AL 14 ?_;refine SW 1 bc am ?_;refine EN (PD 15 ?_);refine DN ?_
 exact aF
  SB
  (λ_ s=>ak [1,0,0] rfl s)
  (tl1 ((b4):(Nat)) trivial)
 refine aE rfl ?_ ?_;refine CE nP (cX vb vt) (SM [2]) ?_;refine EN (AL 3 ?_);refine LZ 2 eD bc am s.view ?_ (hc:=by exact λ_=>cM _);refine EN (AL 9 ?_);refine CE mO (dh s.view vt.change OkVw.rng) ID ?_;refine EN (PD 10 ?_);refine PD 11 ?_;refine PD 12 ?_;refine AL 14 ?_;refine SW 1 bc am ?_;refine EN (PD 15 ?_);refine DN ?_
 exact aF
  SB
  (λ_ s=>ak [1,0,0] rfl s)
  (tl1 ((b4):(Nat)) trivial)
 exact bz;exact bz;refine aE rfl ?_ ?_;refine XZ rr (ints ViewT.zero.flat) λb4=>?_
 refine EN (cx [3,7] (by kernel_rfl) rfl (aE rfl ?_ ?_));refine LZ 1 eD bc am s.view ?_ (hc:=by exact λ_=>cM _);refine EN (AL 7 ?_);refine LG 1 iA (.pointer (some ⟨vb,0,none⟩)) ?_ (hc:=by exact λa_=>(bR _ rfl));refine EN (AL 8 ?_);refine CE nP (cX vb vt) (SM [2]) ?_;refine EN (AL 9 ?_);refine CE mO (dh s.view vt.change OkVw.rng) ID ?_;refine EN (PD 10 ?_);refine PD 11 ?_;refine PD 12 ?_;refine AL 14 ?_;refine SW 1 bc am ?_;refine EN (PD 15 ?_);refine DN ?_
 exact aF
  SB
  (λ_ s=>ak [1,0,0] rfl s)
  (tl1 ((b4):(Nat)) trivial)
 refine aE rfl ?_ ?_;refine LG 1 iA (.pointer (some ⟨vb,0,none⟩)) ?_ (hc:=by exact λa_=>(bR _ rfl));refine EN (cx [3,8] (by kernel_rfl) rfl (aE rfl ?_ ?_));refine LZ 1 eD bc am s.view ?_ (hc:=by exact λ_=>cM _);refine EN (AL 8 ?_);refine CE nP (cX vb vt) (SM [2]) ?_;refine EN (AL 9 ?_);refine CE mO (dh s.view vt.change OkVw.rng) ID ?_;refine EN (PD 10 ?_);refine PD 11 ?_;refine PD 12 ?_;refine AL 14 ?_;refine SW 1 bc am ?_;refine EN (PD 15 ?_);refine DN ?_
 exact aF
  SB
  (λ_ s=>ak [1,0,0] rfl s)
  (tl1 ((b4):(Nat)) trivial)
 refine aE rfl ?_ ?_;refine CE nP (cX vb vt) (SM [2]) ?_;refine EN (AL 3 ?_);refine LZ 2 eD bc am s.view ?_ (hc:=by exact λ_=>cM _);refine EN (AL 9 ?_);refine CE mO (dh s.view vt.change OkVw.rng) ID ?_;refine EN (PD 10 ?_);refine PD 11 ?_;refine PD 12 ?_;refine AL 14 ?_;refine SW 1 bc am ?_;refine EN (PD 15 ?_);refine DN ?_
 exact aF
  SB
  (λ_ s=>ak [1,0,0] rfl s)
  (tl1 ((b4):(Nat)) trivial)
 exact bz;exact bz;exact bz
theorem zY{δ:Type}(V:Env δ)(r:Nat)(s:MS δ)(vt:VoteT)(hv:s.vote=some vt)[OkR V.toDk s]:DT 174 #[.pointer (some ⟨r,0,none⟩), .iface V.T V.ov] T0 [cD V r s] (dm (λ_ H=>H=[cD V r (ld V.toDk s vt.change)])):=
 Leg.Does.ex (λ_ q=>mP hv q) λvb=>zZ V r vb s vt hv
theorem nS{δ:Type}{V:Env δ}{r:Nat}{s:MS δ}{H:List HP}{h:Hl}(hv:s.vote=none)(q:bE (uU V r s (.pointer none)::H) h):bE (cD V r s::H) h:=by
 have q2:=Bo q
 rwa [show({s with vote:=none}:MS δ)=s by cases s;simp_all]at q2
theorem kn{δ:Type}(V:Env δ)(r:Nat)(s:MS δ)(f:MS δ→MS δ)(from':Int)(m:MsgT)[OkR V.toDk s][OkMg m](hfe:from'=s.id→m.epoch=s.view.epoch)(h3:m.kind=3→m.epoch=s.view.epoch→TK V r 170 (df s (max s.round m.ballot.round)) from' m (f (df s (max s.round m.ballot.round))))(h5:m.kind=5→m.epoch=s.view.epoch→TK V r 171 (df s (max s.round m.ballot.round)) from' m (f (df s (max s.round m.ballot.round))))(hn:m.kind≠3∧m.kind≠5→f (df s (max s.round m.ballot.round))=(df s (max s.round m.ballot.round)))(hv:m.kind=4∨m.kind=6→s.vote=none):
 DT 148 #[(.pointer (some ⟨r,0,none⟩)),(.iface V.T V.ov),(.int .i64 (from')),(.agg (ints m.flat).toArray)] T0 [cD V r s] (dm (λ_ H=>H=[cD V r (eQ V.toDk f s from' m)])):=by
 refine BD 124 Tryz.func148 rfl rfl rfl λw0 F hF=>sr λ_ J1=>XY (ints m.flat) λb7=>?_
 refine nx J1 (ab λ_ J2=>ab λ_ J3=>DC bh (BL 0) (cO 1 rfl rfl) ?_);refine FD 0 177 bb aQ ?_;refine LR 1 Y3 (eI m rfl) ?_;refine PD 2 ?_;refine PD 3 ?_;refine FD 4 2 bi bc ?_;refine FD 5 2 eD aQ ?_;refine ta 6 rfl (c8 (v:=(.int .i64 (s.view.epoch))) rfl Y3 rfl rfl (λ_ h=>h.2.2.1) (λa_=>(ca (s.rep a_) 0 rfl (by decide) (bd _ rfl)))) ?_;refine PD 7 ?_;refine iN ?_ ?_<;>intro h15;refine DN (ac J3 (CY (ab λ_ J4=>sr λ_ J5=>FA 0 bb aQ ?_)));refine LU 0 Y3 (eR m rfl) ?_;refine PS ?_;refine an ?_ ?_<;>intro h18;refine PS ?_
 iterate 3 refine UT ?_
 refine PS ?_;refine nx J5 (CY (ad ?_))
 iterate 5 refine PS ?_
 refine FA 2 bi bc ?_;refine LZ 1 eD bc am s.view ?_ (hc:=by exact λ_=>cM _);refine tp (kI MsgT.zero (MsgT.mk 7 0 RowT.zero 0 0 BallotT.zero BallotT.zero ChangeT.zero s.view) [(0,[Value.int .i64 7]),(8,ints s.view.flat)] bb bq (g:=MsgT.sg)) ?_;refine CZ jb (jq V r s from' (jT s.view) (λe=>absurd (hfe e) (by omega))) (SM [1]) λvR=>?_
 refine nx J4 (ai (ae (WK [0] (dE rfl ?_))));exact congrArg (λq=>[cD V r q]) (show(iJ V.toDk s ([SaidT.mk from' (jT s.view)]))=eQ V.toDk f s from' m by rw[eQ,if_pos h15,if_pos (.inl h18)];rfl);refine PS ?_;refine FA 0 bb aQ ?_;refine LU 0 Y3 (eR m rfl) ?_;refine PS ?_;refine an ?_ ?_<;>intro h22;refine PS ?_;refine nx J5 (CY (ad ?_))
 iterate 5 refine PS ?_
 refine FA 2 bi bc ?_;refine LZ 1 eD bc am s.view ?_ (hc:=by exact λ_=>cM _);refine tp (kI MsgT.zero (MsgT.mk 7 0 RowT.zero 0 0 BallotT.zero BallotT.zero ChangeT.zero s.view) [(0,[Value.int .i64 7]),(8,ints s.view.flat)] bb bq (g:=MsgT.sg)) ?_;refine CZ jb (jq V r s from' (jT s.view) (λe=>absurd (hfe e) (by omega))) (SM [1]) λvR=>?_
 refine nx J4 (ai (ae (WK [0] (dE rfl ?_))));exact congrArg (λq=>[cD V r q]) (show(iJ V.toDk s ([SaidT.mk from' (jT s.view)]))=eQ V.toDk f s from' m by rw[eQ,if_pos h15,if_pos (.inr h22)];rfl);refine PS ?_;refine nx J5 (CN (qx J4 (ai (ae (WK [1] (dE rfl ?_))))));exact congrArg (λq=>[cD V r q]) (show s=eQ V.toDk f s from' m by rw[eQ,if_pos h15,if_neg (by omega)]);refine DN (ac J3 (CN (qx J2 (ab λ_ J6=>ab λ_ J7=>DC bh (BL 0) (cO 1 rfl rfl) ?_))));refine FD 0 177 bb aQ ?_;refine LR 1 Y3 (eI m rfl) ?_;refine PD 2 ?_;refine PD 3 ?_;refine FD 4 2 bi bc ?_;refine FD 5 2 eD aQ ?_;refine ta 6 rfl (c8 (v:=(.int .i64 (s.view.epoch))) rfl Y3 rfl rfl (λ_ h=>h.2.2.1) (λa_=>(ca (s.rep a_) 0 rfl (by decide) (bd _ rfl)))) ?_;refine PD 7 ?_;refine iN ?_ ?_<;>intro h40;refine PD 8 ?_;refine NT 9 ?_;refine NT 10 ?_;refine NT 11 ?_;refine NT 12 ?_;refine NT 13 ?_;refine NT 14 ?_;refine NT 15 ?_;refine NT 16 ?_;refine NT 17 ?_;refine NT 18 ?_;refine PD 19 ?_;refine DN (ac J7 (CY (ai (ae (WK [1] (dE rfl ?_))))));exact congrArg (λq=>[cD V r q]) (show s=eQ V.toDk f s from' m by rw[eQ,if_neg h15,if_pos (.inl (by omega))]);refine PD 8 ?_;refine PD 9 ?_;refine PD 10 ?_;refine FD 11 2 bi bc ?_;refine tb 12 rfl (fT (vs:=ints s.view.flat) rfl eD rfl bc rfl (λ_ h=>h.2.2.1) (am s.view) (λa_=>(fO (s.rep a_) 0 rfl (by decide) (whole (am ((s.rep a_).view)))))) ?_;refine PD 13 ?_;refine PD 14 ?_;refine FD 15 0 bi aQ ?_
 refine tb 16 rfl (c8 (v:=(.int .i64 (s.id))) rfl Y3 rfl rfl (λ_ h=>h.2.2.1) (λa_=>(cy _ rfl))) ?_;refine AL 17 ?_;refine CE pI (dx s.view s.id) ID ?_;refine aX ?_ ?_<;>intro h50;refine EN (PD 18 ?_);refine PD 19 ?_;refine DN (ac J7 (CN (qx J6 (ab λ_ J8=>D1 0 bh ?_))));refine PD 0 ?_;refine PD 1 ?_;refine PD 2 ?_;refine FD 3 1066 bi aQ ?_;refine FD 5 178 bb cq ?_;refine FD 6 178 jY aQ ?_;refine LX 7 Y3 (.int .i64 (m.ballot.round)) ?_ (hc:=by exact MsgT.pt_ballot m 0 rfl (by decide) (e8 m.ballot rfl));refine AL 4 ?_;refine LG 1 Y3 (.int .i64 (s.round)) ?_ (hc:=by exact λa_=>(uJ _ rfl));refine EN (ta 8 rfl (xL rfl rfl rfl) ?_);refine PD 9 ?_;refine FD 10 1066 bi aQ ?_;refine AL 11 ?_;refine SK 1 aQ (λ_=>cN _) ?_ (hc:=by exact λa_=>(lI _ rfl _));refine EN (DN (ac J8 (sr λ_ J9=>FA 0 bb aQ ?_)));refine LU 0 Y3 (eR m rfl) ?_;refine nx J9 (aq (sr λ_ J10=>PS ?_));refine an ?_ ?_<;>intro h67;refine PS ?_;refine nx J10 (CY (ad (P3 ?_)));refine LW 0 bb bW aG ?_;refine CZ Mq ((h3 (by omega) (by omega))) (SM [1]) λvR=>?_
 refine ap (af (WK [0] (bA rfl ?_)));exact congrArg (λq=>[cD V r q]) (show(f (df s (max s.round m.ballot.round)))=eQ V.toDk f s from' m by rw[eQ,if_neg h15,if_neg (λh=>h.elim (λh=>absurd h (by omega)) (λh=>by rw[h50]at h;cases h))]);refine PS ?_;refine nx J10 (CN (sr λ_ J11=>PS ?_));refine an ?_ ?_<;>intro h74;refine PS ?_;refine nx J11 (CY (ad (P3 ?_)));refine LW 0 bb bW aG ?_;refine CZ Mp ((h5 (by omega) (by omega))) (SM [1]) λvR=>?_
 refine ap (af (WK [0] (bA rfl ?_)));exact congrArg (λq=>[cD V r q]) (show(f (df s (max s.round m.ballot.round)))=eQ V.toDk f s from' m by rw[eQ,if_neg h15,if_neg (λh=>h.elim (λh=>absurd h (by omega)) (λh=>by rw[h50]at h;cases h))]);refine PS ?_;refine nx J11 (CN (sr λ_ J12=>PS ?_));refine an ?_ ?_<;>intro h81;refine cr (H':=uU V r (df s (max s.round m.ballot.round)) (.pointer none)::[ah b7 (ints m.flat) 178]) (λ_ q=>sn (hv (by omega)) (aC [1] rfl q)) (PS ?_);refine nx J12 (CY (ab λ_ J13=>DC bh (cO 0 rfl rfl) (BL 1) ?_));refine PD 0 ?_;refine PD 1 ?_;refine FD 2 1067 bi iV ?_;refine ta 3 rfl (c8 (v:=(.pointer none)) rfl iA rfl rfl (λ_ h=>h.2.1) (λa_=>(bR _ rfl))) ?_;refine ta 4 rfl (gJ rfl iA rfl rfl) ?_;refine PD 5 ?_;refine NT 6 ?_;refine NT 7 ?_;refine NT 8 ?_;refine NT 9 ?_;refine NT 10 ?_;refine NT 11 ?_;refine NT 12 ?_;refine NT 13 ?_;refine NT 14 ?_;refine NT 15 ?_;refine NT 16 ?_;refine NT 17 ?_;refine PD 18 ?_;refine DN (ac J13 (CN (aR (af (aF (H':=[cD V r (df s (max s.round m.ballot.round))]) (di _) (λ_ q=>nS (hv (by omega)) (ak [0] rfl q)) (bA rfl ?_))))));exact congrArg (λq=>[cD V r q]) (show(df s (max s.round m.ballot.round))=eQ V.toDk f s from' m by rw[eQ,if_neg h15,if_neg (λh=>h.elim (λh=>absurd h (by omega)) (λh=>by rw[h50]at h;cases h)),hn (by omega)]);refine PS ?_;refine nx J12 (CN (sr λ_ J14=>PS ?_));refine an ?_ ?_<;>intro h105
 refine cr (H':=uU V r (df s (max s.round m.ballot.round)) (.pointer none)::[ah b7 (ints m.flat) 178]) (λ_ q=>sn (hv (by omega)) (aC [1] rfl q)) (PS ?_);refine nx J14 (CY (ab λ_ J15=>DC bh (cO 0 rfl rfl) (BL 1) ?_));refine PD 0 ?_;refine PD 1 ?_;refine FD 2 1067 bi iV ?_;refine ta 3 rfl (c8 (v:=(.pointer none)) rfl iA rfl rfl (λ_ h=>h.2.1) (λa_=>(bR _ rfl))) ?_;refine ta 4 rfl (gJ rfl iA rfl rfl) ?_;refine PD 5 ?_;refine NT 6 ?_;refine NT 7 ?_;refine NT 8 ?_;refine NT 9 ?_;refine NT 10 ?_;refine NT 11 ?_;refine NT 12 ?_;refine NT 13 ?_;refine PD 14 ?_;refine DN (ac J15 (CN (aR (af (aF (H':=[cD V r (df s (max s.round m.ballot.round))]) (di _) (λ_ q=>nS (hv (by omega)) (ak [0] rfl q)) (bA rfl ?_))))));exact congrArg (λq=>[cD V r q]) (show(df s (max s.round m.ballot.round))=eQ V.toDk f s from' m by rw[eQ,if_neg h15,if_neg (λh=>h.elim (λh=>absurd h (by omega)) (λh=>by rw[h50]at h;cases h)),hn (by omega)]);refine PS ?_;refine nx J14 (CN (aR (af (WK [1] (bA rfl ?_)))));exact congrArg (λq=>[cD V r q]) (show(df s (max s.round m.ballot.round))=eQ V.toDk f s from' m by rw[eQ,if_neg h15,if_neg (λh=>h.elim (λh=>absurd h (by omega)) (λh=>by rw[h50]at h;cases h)),hn (by omega)]);refine EN (PD 18 ?_);refine PD 19 ?_;refine DN (ac J7 (CY (ai (ae (WK [1] (dE rfl ?_))))));exact congrArg (λq=>[cD V r q]) (show s=eQ V.toDk f s from' m by rw[eQ,if_neg h15,if_pos (.inr h50)])
theorem y6(v:VoteT)(w:Int)(b:BallotT):(gm v w b).1.change=v.change:=by unfold gm;split<;>rfl
theorem pq{δ:Type}(V:Env δ)(r:Nat)(s:MS δ)(vt:VoteT)(from':Int)(m:MsgT)[OkR V.toDk s][OkMg m](hfe:from'=s.id→m.epoch=s.view.epoch)(hk:m.kind=4∨m.kind=6)(hv:s.vote=some vt)(hp:m.kind=4→(eP vt from' m.ballot m.had m.change).2=true→DT 113 #[.pointer (some ⟨r,0,none⟩), .iface V.T V.ov] T0 [cD V r (lh (df s (max s.round m.ballot.round)) (eP vt from' m.ballot m.had m.change).1)] (dm (λ_ H=>H=[cD V r (kB V.toDk (lh (df s (max s.round m.ballot.round)) (eP vt from' m.ballot m.had m.change).1) (eP vt from' m.ballot m.had m.change).1)]))):
    DT 148 #[(.pointer (some ⟨r,0,none⟩)),(.iface V.T V.ov),(.int .i64 (from')),(.agg (ints m.flat).toArray)] T0 [cD V r s] (dm (λ_ H=>H=[cD V r (eQ V.toDk (λs_=>if m.kind=4 then pn V.toDk from' m s_ else li V.toDk from' m s_) s from' m)])):=by
 refine BD 124 Tryz.func148 rfl rfl rfl λw0 F hF=>?_
 have hov:OkVt vt:=OkR.vote vt hv;refine sr λ_ J1=>XY (ints m.flat) λb7=>?_
 refine nx J1 (ab λ_ J2=>ab λ_ J3=>DC bh (BL 0) (cO 1 rfl rfl) ?_);refine FD 0 177 bb aQ ?_;refine LR 1 Y3 (eI m rfl) ?_;refine PD 2 ?_;refine PD 3 ?_;refine FD 4 2 bi bc ?_;refine FD 5 2 eD aQ ?_;refine ta 6 rfl (c8 (v:=(.int .i64 (s.view.epoch))) rfl Y3 rfl rfl (λ_ h=>h.2.2.1) (λa_=>(ca (s.rep a_) 0 rfl (by decide) (bd _ rfl)))) ?_;refine PD 7 ?_;refine iN ?_ ?_<;>intro h15;refine DN (ac J3 (CY (ab λ_ J4=>sr λ_ J5=>FA 0 bb aQ ?_)));refine LU 0 Y3 (eR m rfl) ?_;refine PS ?_;refine an ?_ ?_<;>intro h18;refine PS ?_
 iterate 3 refine UT ?_
 refine PS ?_;refine nx J5 (CY (ad ?_))
 iterate 5 refine PS ?_
 refine FA 2 bi bc ?_;refine LZ 1 eD bc am s.view ?_ (hc:=by exact λ_=>cM _);refine tp (kI MsgT.zero (MsgT.mk 7 0 RowT.zero 0 0 BallotT.zero BallotT.zero ChangeT.zero s.view) [(0,[Value.int .i64 7]),(8,ints s.view.flat)] bb bq (g:=MsgT.sg)) ?_;refine CZ jb (jq V r s from' (jT s.view) (λe=>absurd (hfe e) (by omega))) (SM [1]) λvR=>?_
 refine nx J4 (ai (ae (WK [0] (dE rfl ?_))));exact MQ (by rw[eQ,if_pos h15,if_pos (.inl h18)];rfl);refine PS ?_;refine FA 0 bb aQ ?_;refine LU 0 Y3 (eR m rfl) ?_;refine PS ?_;refine an ?_ ?_<;>intro h22;refine PS ?_;refine nx J5 (CY (ad ?_))
 iterate 5 refine PS ?_
 refine FA 2 bi bc ?_;refine LZ 1 eD bc am s.view ?_ (hc:=by exact λ_=>cM _);refine tp (kI MsgT.zero (MsgT.mk 7 0 RowT.zero 0 0 BallotT.zero BallotT.zero ChangeT.zero s.view) [(0,[Value.int .i64 7]),(8,ints s.view.flat)] bb bq (g:=MsgT.sg)) ?_;refine CZ jb (jq V r s from' (jT s.view) (λe=>absurd (hfe e) (by omega))) (SM [1]) λvR=>?_
 refine nx J4 (ai (ae (WK [0] (dE rfl ?_))));exact MQ (by rw[eQ,if_pos h15,if_pos (.inr h22)];rfl);refine PS ?_;refine nx J5 (CN (qx J4 (ai (ae (WK [1] (dE rfl ?_))))));exact MQ (by rw[eQ,if_pos h15,if_neg (by omega)]);refine DN (ac J3 (CN (qx J2 (ab λ_ J6=>ab λ_ J7=>DC bh (BL 0) (cO 1 rfl rfl) ?_))));refine FD 0 177 bb aQ ?_;refine LR 1 Y3 (eI m rfl) ?_;refine PD 2 ?_;refine PD 3 ?_;refine FD 4 2 bi bc ?_;refine FD 5 2 eD aQ ?_;refine ta 6 rfl (c8 (v:=(.int .i64 (s.view.epoch))) rfl Y3 rfl rfl (λ_ h=>h.2.2.1) (λa_=>(ca (s.rep a_) 0 rfl (by decide) (bd _ rfl)))) ?_;refine PD 7 ?_;refine iN ?_ ?_<;>intro h40;refine PD 8 ?_;refine NT 9 ?_;refine NT 10 ?_;refine NT 11 ?_;refine NT 12 ?_;refine NT 13 ?_;refine NT 14 ?_;refine NT 15 ?_;refine NT 16 ?_;refine NT 17 ?_;refine NT 18 ?_;refine PD 19 ?_;refine DN (ac J7 (CY (ai (ae (WK [1] (dE rfl ?_))))));exact MQ (by rw[eQ,if_neg h15,if_pos (.inl (by omega))]);refine PD 8 ?_;refine PD 9 ?_;refine PD 10 ?_;refine FD 11 2 bi bc ?_;refine tb 12 rfl (fT (vs:=ints s.view.flat) rfl eD rfl bc rfl (λ_ h=>h.2.2.1) (am s.view) (λa_=>(fO (s.rep a_) 0 rfl (by decide) (whole (am ((s.rep a_).view)))))) ?_;refine PD 13 ?_;refine PD 14 ?_;refine FD 15 0 bi aQ ?_;refine tb 16 rfl (c8 (v:=(.int .i64 (s.id))) rfl Y3 rfl rfl (λ_ h=>h.2.2.1) (λa_=>(cy _ rfl))) ?_;refine AL 17 ?_;refine CE pI (dx s.view s.id) ID ?_;refine aX ?_ ?_<;>intro h50;refine EN (PD 18 ?_);refine PD 19 ?_
 refine DN (ac J7 (CN (qx J6 (ab λ_ J8=>D1 0 bh ?_))));refine PD 0 ?_;refine PD 1 ?_;refine PD 2 ?_;refine FD 3 1066 bi aQ ?_;refine FD 5 178 bb cq ?_;refine FD 6 178 jY aQ ?_;refine LX 7 Y3 (.int .i64 (m.ballot.round)) ?_ (hc:=by exact MsgT.pt_ballot m 0 rfl (by decide) (e8 m.ballot rfl));refine AL 4 ?_;refine LG 1 Y3 (.int .i64 (s.round)) ?_ (hc:=by exact λa_=>(uJ _ rfl));refine EN (ta 8 rfl (xL rfl rfl rfl) ?_);refine PD 9 ?_;refine FD 10 1066 bi aQ ?_;refine AL 11 ?_;refine SK 1 aQ (λ_=>cN _) ?_ (hc:=by exact λa_=>(lI _ rfl _));refine EN (DN (ac J8 (sr λ_ J9=>FA 0 bb aQ ?_)));refine LU 0 Y3 (eR m rfl) ?_;refine nx J9 (aq (sr λ_ J10=>PS ?_));refine an ?_ ?_<;>intro h67
 · exact absurd h67 (by omega)
 refine PS ?_;refine nx J10 (CN (sr λ_ J11=>PS ?_));refine an ?_ ?_<;>intro h74
 · exact absurd h74 (by omega)
 refine PS ?_;refine nx J11 (CN (sr λ_ J12=>PS ?_));refine an ?_ ?_<;>intro h81;refine Kt (H':=λvb:Nat=>uU V r (df s (max s.round m.ballot.round)) (.pointer (some ⟨vb,0,none⟩))::ah vb (VoteT.cells vt) 227::[ah b7 (ints m.flat) 178]) (λ_ q=>mP (s:=(df s (max s.round m.ballot.round))) hv (aC [1] rfl q)) (λvb=>PS ?_);refine nx J12 (CY (ab λ_ J13=>D1 2 bh ?_));refine PD 0 ?_;refine PD 1 ?_;refine FD 2 1067 bi iV ?_;refine AL 3 ?_;refine LG 0 iA (.pointer (some ⟨vb,0,none⟩)) ?_ (hc:=by exact λa_=>(bR _ rfl));refine EN (ta 4 rfl (fS rfl iA rfl rfl) ?_);refine PD 5 ?_;refine PD 6 ?_;refine PD 7 ?_;refine FD 8 1067 bi iV ?_;refine PD 10 ?_;refine FD 11 178 bb cq ?_;refine tb 12 rfl (aN (vs:=ints m.ballot.flat) rfl jY rfl cq rfl (λ_ h=>h.2.1) (ao m.ballot) (iR m 0 rfl (by decide) (whole (ao m.ballot)))) ?_;refine FD 13 180 bb cq ?_;refine tb 14 rfl (aN (vs:=ints m.had.flat) rfl jY rfl cq rfl (λ_ h=>h.2.1) (ao m.had) (OJ m 0 rfl (by decide) (whole (ao m.had)))) ?_;refine FD 15 182 bb fB ?_;refine tb 16 rfl (aN (vs:=ints m.change.flat) rfl mX rfl fB rfl (λ_ h=>h.2.1) (aJ m.change) (m5 m 0 rfl (by decide) (whole (aJ m.change)))) ?_;refine AL 9 ?_;refine LG 0 iA (.pointer (some ⟨vb,0,none⟩)) ?_ (hc:=by exact λa_=>(bR _ rfl));refine EN (AL 17 ?_);refine CE Mo (Cz vb vt from' m.ballot m.had m.change (OkMg.ballot) hov.ballot) (SM [1]) ?_;refine aX ?_ ?_<;>intro h99;refine EN (PD 18 ?_)
 refine DN (ac J13 (CY (ad (cr (H':=cD V r (lh (df s (max s.round m.ballot.round)) ((eP vt from' m.ballot m.had m.change).1))::[ah b7 (ints m.flat) 178]) (λ_ q=>nQ (aC [1,0] rfl q)) (P2 ?_)))));refine CZ EE ((hp (by omega) h99)) ID λvR=>?_
 refine ap (af (WK [0] (bA rfl ?_)))
 exact congrArg (λq=>[cD V r q]) (show _=eQ V.toDk (λs_=>if m.kind=4 then pn V.toDk from' m s_ else li V.toDk from' m s_) s from' m by
                              rw[eQ,if_neg h15,if_neg (λh=>h.elim (λh=>absurd h (by omega)) (λh=>by rw[h50]at h;cases h)),if_pos (by omega),pn];simp only[show(df s (max s.round m.ballot.round)).vote=some vt from hv]
                              rw[if_pos h99])
 refine EN (PD 18 ?_);refine DN (ac J13 (CN (aR (af (aF (H':=[cD V r (lh (df s (max s.round m.ballot.round)) (eP vt from' m.ballot m.had m.change).1)]) (di _) (λ_ q=>nQ (ak [1,0] rfl q)) (bA rfl ?_))))))
 exact congrArg (λq=>[cD V r q]) (show(lh (df s (max s.round m.ballot.round)) (eP vt from' m.ballot m.had m.change).1)=eQ V.toDk (λs_=>if m.kind=4 then pn V.toDk from' m s_ else li V.toDk from' m s_) s from' m by
                              rw[eQ,if_neg h15,if_neg (λh=>h.elim (λh=>absurd h (by omega)) (λh=>by rw[h50]at h;cases h)),if_pos (by omega),pn];simp only[show(df s (max s.round m.ballot.round)).vote=some vt from hv]
                              rw[if_neg (by rw[h99];decide)])
 refine PS ?_;refine nx J12 (CN (sr λ_ J14=>PS ?_));refine an ?_ ?_<;>intro h105;refine Kt (H':=λvb:Nat=>uU V r (df s (max s.round m.ballot.round)) (.pointer (some ⟨vb,0,none⟩))::ah vb (VoteT.cells vt) 227::[ah b7 (ints m.flat) 178]) (λ_ q=>mP (s:=(df s (max s.round m.ballot.round))) hv (aC [1] rfl q)) (λvb=>PS ?_);refine nx J14 (CY (ab λ_ J15=>D1 2 bh ?_));refine PD 0 ?_;refine PD 1 ?_;refine FD 2 1067 bi iV ?_;refine AL 3 ?_;refine LG 0 iA (.pointer (some ⟨vb,0,none⟩)) ?_ (hc:=by exact λa_=>(bR _ rfl));refine EN (ta 4 rfl (fS rfl iA rfl rfl) ?_);refine PD 5 ?_;refine PD 6 ?_;refine PD 7 ?_;refine FD 8 1067 bi iV ?_;refine PD 10 ?_;refine FD 11 178 bb cq ?_;refine tb 12 rfl (aN (vs:=ints m.ballot.flat) rfl jY rfl cq rfl (λ_ h=>h.2.1) (ao m.ballot) (iR m 0 rfl (by decide) (whole (ao m.ballot)))) ?_;refine AL 9 ?_;refine LG 0 iA (.pointer (some ⟨vb,0,none⟩)) ?_ (hc:=by exact λa_=>(bR _ rfl));refine EN (AL 13 ?_);refine CE Mn (CJ vb vt from' m.ballot (OkMg.ballot) hov.ballot) (SM [1]) ?_;refine aX ?_ ?_<;>intro h119;refine EN (PD 14 ?_);refine DN (ac J15 (CY (ad (cr (H':=cD V r (lh (df s (max s.round m.ballot.round)) ((gm vt from' m.ballot).1))::[ah b7 (ints m.flat) 178]) (λ_ q=>nQ (aC [1,0] rfl q)) (P2 ?_)))));refine CZ Mm (zY V r (lh (df s (max s.round m.ballot.round)) (gm vt from' m.ballot).1) (gm vt from' m.ballot).1 rfl) ID λvR=>?_
 refine ap (af (WK [0] (bA rfl ?_)))
 exact congrArg (λq=>[cD V r q]) (show _=eQ V.toDk (λs_=>if m.kind=4 then pn V.toDk from' m s_ else li V.toDk from' m s_) s from' m by
                                rw[eQ,if_neg h15,if_neg (λh=>h.elim (λh=>absurd h (by omega)) (λh=>by rw[h50]at h;cases h)),if_neg (by omega),li];simp only[show(df s (max s.round m.ballot.round)).vote=some vt from hv]
                                rw[if_pos h119,y6])
 refine EN (PD 14 ?_);refine DN (ac J15 (CN (aR (af (aF (H':=[cD V r (lh (df s (max s.round m.ballot.round)) (gm vt from' m.ballot).1)]) (di _) (λ_ q=>nQ (ak [1,0] rfl q)) (bA rfl ?_))))))
 exact congrArg (λq=>[cD V r q]) (show(lh (df s (max s.round m.ballot.round)) (gm vt from' m.ballot).1)=eQ V.toDk (λs_=>if m.kind=4 then pn V.toDk from' m s_ else li V.toDk from' m s_) s from' m by
                                rw[eQ,if_neg h15,if_neg (λh=>h.elim (λh=>absurd h (by omega)) (λh=>by rw[h50]at h;cases h)),if_neg (by omega),li];simp only[show(df s (max s.round m.ballot.round)).vote=some vt from hv]
                                rw[if_neg (by rw[h119];decide)])
 · exact absurd h105 (by omega)
 refine EN (PD 18 ?_);refine PD 19 ?_;refine DN (ac J7 (CY (ai (ae (WK [1] (dE rfl ?_))))));exact MQ (by rw[eQ,if_neg h15,if_pos (.inr h50)])
theorem qF{δ:Type}(V:Env δ)(r:Nat)(s:MS δ)(from':Int)(m:MsgT)[OkR V.toDk s][OkMg m](hfe:from'=s.id→m.epoch=s.view.epoch)(hk:m.kind=6):TK V r 105 s from' m (qG V.toDk s from' m):=ol (.inr (.inr (.inr hk))) (by
 cases hv:s.vote with
 |none=>exact kn V r s (li V.toDk from' m) from' m hfe (λe=>by omega) (λe=>by omega) (λ_=>by rw[li,show(df s (max s.round m.ballot.round)).vote=none from hv]) (λ_=>hv)
 |some vt=>
  have h:=pq V r s vt from' m hfe (.inr hk) hv (λe=>by omega)
  rwa [show(λs_:MS δ=>if m.kind=4 then pn V.toDk from' m s_ else li V.toDk from' m s_)=li V.toDk from' m from funext λ_=>if_neg (by omega)]at h)
theorem xf{δ:Type}(V:Env δ)(r:Nat)(s:MS δ)(from':Int)(m:MsgT)[OkR V.toDk s][OkMg m](hep:m.epoch=s.view.epoch):
 DT 171 #[(.pointer (some ⟨r,0,none⟩)),(.iface V.T V.ov),(.int .i64 (from')),(.agg (ints m.flat).toArray)] T0 [cD V r s] (dm (λ_ H=>H=[cD V r (oQ V.toDk from' m s)])):=by
 refine BD 69 Tryz.func171 rfl rfl rfl λw0 F hF=>sr λ_ J1=>XY (ints m.flat) λb7=>?_
 refine nx J1 (ab λ_ J2=>ab λ_ J3=>e7 (α:=Unit) (λ_u=>True) (λ_u=>[(0,(.pointer (some ⟨r,0,none⟩))),(1,(.iface V.T V.ov)),(2,(.int .i64 (from'))),(7,(.pointer (some ⟨b7,0,none⟩))),(9,(.int .i64 ((dT s.view m.change).2)))]) (λ_u=>[cD V r s,ah b7 (ints m.flat) 178]) (λ_u hinv=>?_) (λtl3=>?_));have _:=hinv;refine ac J3 (sr λ_ J4=>P2 ?_);refine an ?_ ?_<;>intro h23;refine nx J4 (CY (ai (ae (WK [0] (dE rfl ?_)))));exact MQ (by rw[oQ,if_pos h23]);refine nx J4 (CN (qx J2 (ab λ_ J5=>e7 (α:=(Nat)) (λb10=>True) (λb10=>[(0,(.pointer (some ⟨r,0,none⟩))),(1,(.iface V.T V.ov)),(2,(.int .i64 (from'))),(7,(.pointer (some ⟨b7,0,none⟩))),(10,(.pointer (some ⟨b10,0,none⟩))),(11,(.bool ((gn s.acc m.epoch m.ballot m.change).2)))]) (λb10=>[cD V r s,ah b7 (ints m.flat) 178,ah b10 (ints ((gn s.acc m.epoch m.ballot m.change).1).flat) 118]) (λb10 hinv=>?_) (λtl5=>?_))));have _:=hinv;refine ac J5 (ab λ_ J6=>sr λ_ J7=>PS ?_);refine aX ?_ ?_<;>intro h38;refine PS ?_;refine nx J7 (CN (qx J6 (ab λ_ J8=>ab λ_ J9=>DC bh (BL 2) (cO 0 rfl rfl) ?_)));refine LY 0 iM du a9 ?_;refine PD 1 ?_;refine PD 2 ?_;refine FD 3 1058 bi du ?_;refine ta 4 rfl (fT (vs:=ints s.acc.flat) rfl iM rfl du rfl (λ_ h=>h.2.2.1) (a9 s.acc) (λa_=>(xI (s.rep a_) 0 rfl (by decide) (whole (a9 ((s.rep a_).acc)))))) ?_
 refine ta 5 rfl (JC (a:=((gn s.acc m.epoch m.ballot m.change).1).flat) (b:=s.acc.flat) (m:=6) (c:=8) LM LL rfl MW (c9 (a9 ((gn s.acc m.epoch m.ballot m.change).1))) (c9 (a9 s.acc)) ⟨fJ Ko Kq (c9 (a9 ((gn s.acc m.epoch m.ballot m.change).1))),fJ Ko Kq (c9 (a9 s.acc))⟩ (OkAc.wf) (OkAc.wf) rfl rfl rfl) ?_;refine iN ?_ ?_<;>intro h45;refine DN (ac J9 (CY (ab λ_ J10=>sr λ_ J11=>PS ?_)));refine FA 177 bb aQ ?_;refine LU 1 Y3 (eI m rfl) ?_;refine FA 178 bb cq ?_;refine LV 1 jY cq ao oa (y:=m.ballot) ?_;refine FA 182 bb fB ?_;refine LV 1 mX fB aJ MsgT.sp_change (y:=m.change) ?_;refine tp (kI RecT.zero (RecT.mk 4 0 RowT.zero m.epoch m.ballot m.change ViewT.zero) [(0,[Value.int .i64 4]),(3,[Value.int .i64 m.epoch]),(4,ints m.ballot.flat),(5,ints m.change.flat)] iv eF (g:=RecT.sg)) ?_;refine CE wc (kT V r s (ma m.epoch m.ballot m.change)) ID ?_;refine PS ?_;refine an ?_ ?_<;>intro h55;refine nx J11 (CY (ai (ae (ae (WK [0] (dE rfl ?_))))));exact MQ (by rw[oQ,if_neg h23,if_neg (by rw[h38];decide),if_pos h45,if_pos h55]);refine nx J11 (CN (qx J10 (ad (PS ?_))));refine LW 2 iM du a9 ?_;refine PS ?_;refine FA 1058 bi du ?_
 refine gH (vs:=ints ((gn s.acc m.epoch m.ballot m.change).1).flat) (i:=0) (aa rfl) rfl rfl rfl rfl rfl (by rw[(a9 ((gn s.acc m.epoch m.ballot m.change).1))];exact du) (bw _) rfl rfl (λ_=>LC (cN _) (a9 _)) (λa_=>(kg ((eh V.toDk s (ma m.epoch m.ballot m.change)).rep a_) 0 rfl (by have h1:=(a9 ((gn s.acc m.epoch m.ballot m.change).1));omega) (cn ((a9 (((eh V.toDk s (ma m.epoch m.ballot m.change)).rep a_).acc)).trans (a9 ((gn s.acc m.epoch m.ballot m.change).1)).symm)))) (nx J8 (ad (P3 ?_)));refine FA 177 bb aQ ?_;refine LU 1 Y3 (eI m rfl) ?_;refine FA 178 bb cq ?_;refine LV 1 jY cq ao oa (y:=m.ballot) ?_;refine tp (kI MsgT.zero (MsgT.mk 6 0 RowT.zero 0 m.epoch m.ballot BallotT.zero ChangeT.zero ViewT.zero) [(0,[Value.int .i64 6]),(4,[Value.int .i64 m.epoch]),(5,ints m.ballot.flat)] bb bq (g:=MsgT.sg)) ?_;refine CZ jb (gf V r (w3 (eh V.toDk s (ma m.epoch m.ballot m.change)) (gn s.acc m.epoch m.ballot m.change).1) from' (jH m.epoch m.ballot) (λs_=>qG V.toDk s_ s_.id (jH m.epoch m.ballot)) (λ_=>qF V r (w3 (eh V.toDk s (ma m.epoch m.ballot m.change)) (gn s.acc m.epoch m.ballot m.change).1) (w3 (eh V.toDk s (ma m.epoch m.ballot m.change)) (gn s.acc m.epoch m.ballot m.change).1).id (jH m.epoch m.ballot) (λ_=>hep) rfl)) ID λvR=>?_
 refine ap (WK [0] (bA rfl ?_));exact MQ (by rw[oQ,if_neg h23,if_neg (by rw[h38];decide),if_pos h45,if_neg h55];rfl);refine DN (ac J9 (CN (qx J8 (ad (P3 ?_)))));refine FA 177 bb aQ ?_;refine LU 1 Y3 (eI m rfl) ?_;refine FA 178 bb cq ?_;refine LV 1 jY cq ao oa (y:=m.ballot) ?_;refine tp (kI MsgT.zero (MsgT.mk 6 0 RowT.zero 0 m.epoch m.ballot BallotT.zero ChangeT.zero ViewT.zero) [(0,[Value.int .i64 6]),(4,[Value.int .i64 m.epoch]),(5,ints m.ballot.flat)] bb bq (g:=MsgT.sg)) ?_;refine CZ jb (gf V r s from' (jH m.epoch m.ballot) (λs_=>qG V.toDk s_ s_.id (jH m.epoch m.ballot)) (λ_=>qF V r s s.id (jH m.epoch m.ballot) (λ_=>hep) rfl)) ID λvR=>?_
 refine ap (WK [0] (bA rfl ?_));exact MQ (by rw[oQ,if_neg h23,if_neg (by rw[h38];decide),if_neg h45];rfl);refine PS ?_;refine nx J7 (CY (ai (ae (WK [0] (dE rfl ?_)))));exact MQ (by rw[oQ,if_neg h23,if_pos h38]);refine DC bh (cO 0 rfl rfl) (BL 1) ?_;refine PD 0 ?_;refine PD 1 ?_;refine FD 2 1058 bi du ?_;refine ta 3 rfl (fT (vs:=ints s.acc.flat) rfl iM rfl du rfl (λ_ h=>h.2.1) (a9 s.acc) (λa_=>(xI (s.rep a_) 0 rfl (by decide) (whole (a9 ((s.rep a_).acc)))))) ?_;refine FD 4 177 bb aQ ?_;refine LR 5 Y3 (eI m rfl) ?_;refine FD 6 178 bb cq ?_;refine ta 7 rfl (aN (vs:=ints m.ballot.flat) rfl jY rfl cq rfl (λ_ h=>h.2.2.1) (ao m.ballot) (iR m 0 rfl (by decide) (whole (ao m.ballot)))) ?_;refine FD 8 182 bb fB ?_;refine ta 9 rfl (aN (vs:=ints m.change.flat) rfl mX rfl fB rfl (λ_ h=>h.2.2.1) (aJ m.change) (m5 m 0 rfl (by decide) (whole (aJ m.change)))) ?_;refine cx [10,14] (by kernel_rfl) rfl (aE rfl ?_ ?_);refine CE JR (uu s.acc m.epoch m.ballot m.change) ID ?_;refine EN (PD 11 ?_);refine PD 12 ?_;refine PD 13 ?_;refine n7 ?_ ?_<;>intro h37;refine AL 14 ?_;refine XZ uW (ints AccT.zero.flat) λb10=>?_
 refine EN (AL 15 ?_);refine SW 0 du a9 ?_;refine EN (PD 16 ?_);refine DN ?_
 exact aF
  (aM (aM (aM (aM (aM (bg rfl (by rw[h37]) SB))))))
  (λ_ s=>ak [1,1,0] rfl s)
  (tl5 ((b10):(Nat)) trivial)
 refine AL 14 ?_;refine XZ uW (ints AccT.zero.flat) λb10=>?_
 refine EN (AL 15 ?_);refine SW 0 du a9 ?_;refine EN (PD 16 ?_);refine DN ?_
 exact aF
  (aM (aM (aM (aM (aM (bg rfl (by rw[h37]) SB))))))
  (λ_ s=>ak [1,1,0] rfl s)
  (tl5 ((b10):(Nat)) trivial)
 refine aE rfl ?_ ?_;refine XZ uW (ints AccT.zero.flat) λb10=>?_
 refine EN (AL 10 ?_);refine CE JR (uu s.acc m.epoch m.ballot m.change) ID ?_;refine EN (PD 11 ?_);refine PD 12 ?_;refine PD 13 ?_;refine n7 ?_ ?_<;>intro h37;refine AL 15 ?_;refine SW 0 du a9 ?_;refine EN (PD 16 ?_);refine DN ?_
 exact aF
  (aM (aM (aM (aM (aM (bg rfl (by rw[h37]) SB))))))
  (λ_ s=>ak [1,1,0] rfl s)
  (tl5 ((b10):(Nat)) trivial)
 refine AL 15 ?_;refine SW 0 du a9 ?_;refine EN (PD 16 ?_);refine DN ?_
 exact aF
  (aM (aM (aM (aM (aM (bg rfl (by rw[h37]) SB))))))
  (λ_ s=>ak [1,1,0] rfl s)
  (tl5 ((b10):(Nat)) trivial)
 exact bz;refine DC bh (cO 1 rfl rfl) (BL 0) ?_;refine PD 0 ?_;refine PD 1 ?_;refine FD 2 2 bi bc ?_;refine ta 3 rfl (fT (vs:=ints s.view.flat) rfl eD rfl bc rfl (λ_ h=>h.2.1) (am s.view) (λa_=>(fO (s.rep a_) 0 rfl (by decide) (whole (am ((s.rep a_).view)))))) ?_;refine FD 4 182 bb fB ?_;refine ta 5 rfl (aN (vs:=ints m.change.flat) rfl mX rfl fB rfl (λ_ h=>h.2.2.1) (aJ m.change) (m5 m 0 rfl (by decide) (whole (aJ m.change)))) ?_;refine cx [6,10] (by kernel_rfl) rfl (aE rfl ?_ ?_);refine CE mO (dh s.view m.change OkVw.rng) ID ?_;refine EN (PD 7 ?_);refine PD 8 ?_;refine PD 9 ?_;refine AL 10 ?_;refine XZ rr (ints ViewT.zero.flat) λb8=>?_
 refine EN (AL 11 ?_);refine SW 0 bc am ?_;refine EN (PD 12 ?_);refine DN ?_
 exact aF
  SB
  (λ_ s=>ak [2,1] rfl s)
  (tl3 (():Unit) trivial)
 refine aE rfl ?_ ?_;refine XZ rr (ints ViewT.zero.flat) λb8=>?_
 refine EN (AL 6 ?_);refine CE mO (dh s.view m.change OkVw.rng) ID ?_;refine EN (PD 7 ?_);refine PD 8 ?_;refine PD 9 ?_;refine AL 11 ?_;refine SW 0 bc am ?_;refine EN (PD 12 ?_);refine DN ?_
 exact aF
  SB
  (λ_ s=>ak [2,1] rfl s)
  (tl3 (():Unit) trivial)
 exact bz
theorem vh{δ:Type}(V:Env δ)(r:Nat)(s:MS δ)(from':Int)(m:MsgT)[OkR V.toDk s][OkMg m](hfe:from'=s.id→m.epoch=s.view.epoch)(hk:m.kind=5):TK V r 105 s from' m (s5 V.toDk s from' m):=ol (by omega) (kn V r s (oQ V.toDk from' m) from' m hfe (λe _=>by omega) (λ_ hep=>xf V r (df s (max s.round m.ballot.round)) from' m hep) (λe=>by omega) (λe=>by omega))
theorem xk{δ:Type}(V:Env δ)(r vb:Nat)(s:MS δ)(vt:VoteT)(hv:s.vote=some vt)(hpt:vt.putting=true)[OkR V.toDk s][OkVt vt]:
 DT 113 #[(.pointer (some ⟨r,0,none⟩)),(.iface V.T V.ov)] T0 [uU V r s (.pointer (some ⟨vb,0,none⟩)),ah vb (VoteT.cells vt) 227] (dm (λ_ H=>H=[cD V r (kB V.toDk s vt)])):=by
 refine BD 68 Tryz.func113 rfl rfl rfl λw0 F hF=>ab λ_ J1=>e7 (α:=(Nat)) (λb4=>True) (λb4=>[(0,(.pointer (some ⟨r,0,none⟩))),(1,(.iface V.T V.ov)),(4,(.pointer (some ⟨b4,0,none⟩)))]) (λb4=>[uU V r s (.pointer (some ⟨vb,0,none⟩)),ah vb (VoteT.cells vt) 227,ah b4 (ints (fz s.view.epoch vt.ballot).flat) 178]) (λb4 hinv=>?_) (λtl1=>?_)
 have _:=hinv;refine ac J1 (ab λ_ J2=>sr λ_ J3=>P2 ?_);refine FA 1067 bi iV ?_;refine LG 0 iA (.pointer (some ⟨vb,0,none⟩)) ?_ (hc:=by exact λa_=>(bR _ rfl));refine CE JZ (nF vb vt) (SM [1]) ?_;refine aX ?_ ?_<;>intro h22;refine nx J3 (CY (ad (P2 ?_)));refine FA 1067 bi iV ?_;refine LG 1 iA (.pointer (some ⟨vb,0,none⟩)) ?_ (hc:=by exact λa_=>(bR _ rfl));refine CE nP (cX vb vt) ID ?_;refine FA 0 bb aQ ?_;refine SS 2 aQ (aG _) (MsgT.set_kind _ rfl _) ?_;refine FA 182 bb fB ?_;refine SP 2 fB aJ aG Na ?_;refine nx J2 (sr λ_ J4=>cr (H':=cD V r s::[ah b4 (ints (MsgT.mk 5 ((fz s.view.epoch vt.ballot).whose) ((fz s.view.epoch vt.ballot).row) ((fz s.view.epoch vt.ballot).version) ((fz s.view.epoch vt.ballot).epoch) ((fz s.view.epoch vt.ballot).ballot) ((fz s.view.epoch vt.ballot).had) vt.change ((fz s.view.epoch vt.ballot).view)).flat) 178]) (λ_ q=>nR hv (aC [1,0] rfl q)) (P2 ?_));refine FA 2 bi bc ?_;refine LZ 0 eD bc am s.view ?_ (hc:=by exact λ_=>cM _);refine XZ rr (ints ViewT.zero.flat) λb5=>?_
 refine SW 0 bc am ?_;refine nx J4 (ab λ_ J5=>sr λ_ J6=>PS ?_);refine nx J6 (aq ?_)
 refine bp (α:=(Nat)) (λk=>k≤5) (λk=>[(0,(.pointer (some ⟨r,0,none⟩))),(1,(.iface V.T V.ov)),(4,(.pointer (some ⟨b4,0,none⟩))),(5,(.pointer (some ⟨b5,0,none⟩))),(34,(.int .i64 (((k:Nat):Int))))]) (λk=>[ah b5 (ints s.view.flat) 44,ah b4 (ints (iY s.view.epoch vt.ballot vt.change).flat) 178,cD V r (iJ V.toDk s (nO s.id (iY s.view.epoch vt.ballot vt.change) (λi=>iK s.view ((i:Nat):Int)) k))]) (λk=>5-k) 0
  (aO _) SB
  (λ_ q=>by
  rw[show nO s.id (iY s.view.epoch vt.ballot vt.change) (λi=>iK s.view ((i:Nat):Int)) 0=[]from rfl,pB]
  exact ak [0,1,0] rfl q) (λk hinv=>?_)
 obtain hk:=hinv;refine sr λ_ J7=>PS ?_
 refine an ?_ ?_<;>intro h35;refine nx J7 (ab λ_ J8=>CY (qx J8 (ab λ_ J9=>aq (sr λ_ J10=>P2 ?_))));refine nx J10 (sr λ_ J11=>P3 ?_);refine FA 0 bi aQ ?_;refine LG 2 Y3 (.int .i64 (s.id)) ?_ (hc:=by exact λa_=>(cy _ rfl));refine PS ?_;refine an ?_ ?_<;>intro h42;refine PS ?_;refine LW 0 eD bc am ?_;refine PS ?_;refine CE pI (dx s.view ((k:Nat):Int)) ID ?_;refine aX ?_ ?_<;>intro h46;refine PS ?_;refine nx J11 (CY (ad (P3 ?_)));refine LW 1 bb bW aG ?_;refine CZ jb (nK V r s (nO s.id (iY s.view.epoch vt.ballot vt.change) (λi=>iK s.view ((i:Nat):Int)) k) ((k:Nat):Int) (iY s.view.epoch vt.ballot vt.change) h42) (SM [2]) λvR=>?_
 refine ap (af (ac J9 (ad (AD ?_))));refine PS ?_;refine ap ?_
 exact aI ((k+1):(Nat)) (by omega) (by show 5- (k+1)<5-k;omega)
  SB
  (λ_ q=>by
   rw[it,if_pos ⟨h42,h46⟩]
   exact ak [1,1,0] rfl q)
 refine PS ?_;refine nx J11 (CN (aR (af (ac J9 (ad (AD ?_))))));refine PS ?_;refine ap ?_
 exact aI ((k+1):(Nat)) (by omega) (by show 5- (k+1)<5-k;omega)
  SB
  (λ_ q=>by
   rw[it,if_neg (λh=>by have:=h.2;rw[h46]at this;cases this)];rw[ba]
   exact ak [0,0,0] rfl q)
 refine PS ?_
 iterate 3 refine UF ?_
 refine PS ?_;refine nx J11 (CN (aR (af (ac J9 (ad (AD ?_))))));refine PS ?_;refine ap ?_
 exact aI ((k+1):(Nat)) (by omega) (by show 5- (k+1)<5-k;omega)
  SB
  (λ_ q=>by
   rw[it,if_neg (λh=>h42 h.1)];rw[ba]
   exact ak [0,0,0] rfl q)
 obtain rfl:k=5:=by omega
 refine nx J7 (ab λ_ J12=>CN (aW (az (az (bm (ac J5 (ab λ_ J13=>DC bh (BL 0) (cO 2 rfl rfl) ?_)))))));refine LY 0 eD bc am ?_;refine PD 1 ?_;refine PD 2 ?_;refine FD 3 0 bi aQ ?_;refine ta 4 rfl (c8 (v:=(.int .i64 ((jE V.toDk s (iY s.view.epoch vt.ballot vt.change)).id))) rfl Y3 rfl rfl (λ_ h=>h.2.2.1) (λa_=>(cy _ rfl))) ?_;refine AL 5 ?_;refine CE pI (dx s.view ((jE V.toDk s (iY s.view.epoch vt.ballot vt.change)).id)) ID ?_;refine aX ?_ ?_<;>intro h59;refine EN (DN (ac J13 (CY (D1 1 bh ?_))));refine PD 0 ?_;refine PD 1 ?_;refine PD 2 ?_;refine PD 3 ?_;refine FD 4 0 bi aQ ?_;refine LY 6 bb bW aG ?_;refine AL 5 ?_;refine LG 2 Y3 (.int .i64 ((jE V.toDk s (iY s.view.epoch vt.ballot vt.change)).id)) ?_ (hc:=by exact λa_=>(cy _ rfl));refine EN (AL 7 ?_);refine CZ jb (gf V r (jE V.toDk s (iY s.view.epoch vt.ballot vt.change)) s.id (iY s.view.epoch vt.ballot vt.change) (λs_=>s5 V.toDk s_ s_.id (iY s.view.epoch vt.ballot vt.change)) (λ_=>vh V r (jE V.toDk s (iY s.view.epoch vt.ballot vt.change)) s.id (iY s.view.epoch vt.ballot vt.change) (λ_=>rfl) rfl)) (SM [2]) λvR=>?_
 refine EN (DN (WK [0] (bA rfl ?_)));exact MQ (by rw[kB,jI,if_pos (show iK s.view s.id=true from h59),nb,if_pos (show s.id=(jE V.toDk s (iY s.view.epoch vt.ballot vt.change)).id from rfl)]<;>rfl);refine EN (DN (ac J13 (CN (aR (WK [2] (bA rfl ?_))))));exact MQ (by rw[kB,jI,if_neg (by rw[show iK s.view s.id=false from h59];decide)]<;>rfl)
 · rw[hpt]at h22;cases h22
 refine D1 1 bh ?_;refine PD 0 ?_;refine PD 1 ?_;refine FD 2 2 bi bc ?_;refine FD 3 2 eD aQ ?_;refine PD 5 ?_;refine PD 6 ?_;refine FD 7 1067 bi iV ?_;refine cx [4,8,11] (by kernel_rfl) rfl (aE rfl ?_ ?_);refine LG 0 Y3 (.int .i64 (s.view.epoch)) ?_ (hc:=by exact λa_=>(ca (s.rep ⟨(a_:Nat×Value).1,(.pointer (some ⟨vb,0,none⟩)),a_.2⟩) 0 rfl (by decide) (bd _ rfl)));refine EN (cx [8,11] (by kernel_rfl) rfl (aE rfl ?_ ?_));refine LG 0 iA (.pointer (some ⟨vb,0,none⟩)) ?_ (hc:=by exact λa_=>(bR _ rfl));refine EN (cx [9,11] (by kernel_rfl) rfl (aE rfl ?_ ?_));refine CE jB (bH vb vt) (SM [1]) ?_;refine EN (ta 10 rfl (kI MsgT.zero (MsgT.mk 3 0 RowT.zero 0 s.view.epoch vt.ballot BallotT.zero ChangeT.zero ViewT.zero) [(0,[Value.int .i64 3]),(4,[Value.int .i64 s.view.epoch]),(5,ints vt.ballot.flat)] bb bq (g:=MsgT.sg)) ?_);refine AL 11 ?_;refine XZ l9 (ints MsgT.zero.flat) λb4=>?_
 refine EN (AL 12 ?_);refine SW 0 bW aG ?_;refine EN (DN ?_)
 exact aF
  SB
  (λ_ s=>ak [2,1,0] rfl s)
  (tl1 ((b4):(Nat)) trivial)
 refine aE rfl ?_ ?_;refine XZ l9 (ints MsgT.zero.flat) λb4=>?_
 refine EN (AL 9 ?_);refine CE jB (bH vb vt) (SM [2]) ?_;refine EN (ta 10 rfl (kI MsgT.zero (MsgT.mk 3 0 RowT.zero 0 s.view.epoch vt.ballot BallotT.zero ChangeT.zero ViewT.zero) [(0,[Value.int .i64 3]),(4,[Value.int .i64 s.view.epoch]),(5,ints vt.ballot.flat)] bb bq (g:=MsgT.sg)) ?_);refine AL 12 ?_;refine SW 1 bW aG ?_;refine EN (DN ?_)
 exact aF
  SB
  (λ_ s=>ak [2,0,0] rfl s)
  (tl1 ((b4):(Nat)) trivial)
 exact bz;refine aE rfl ?_ ?_;refine XZ l9 (ints MsgT.zero.flat) λb4=>?_
 refine EN (AL 8 ?_);refine LG 1 iA (.pointer (some ⟨vb,0,none⟩)) ?_ (hc:=by exact λa_=>(bR _ rfl));refine EN (AL 9 ?_);refine CE jB (bH vb vt) (SM [2]) ?_;refine EN (ta 10 rfl (kI MsgT.zero (MsgT.mk 3 0 RowT.zero 0 s.view.epoch vt.ballot BallotT.zero ChangeT.zero ViewT.zero) [(0,[Value.int .i64 3]),(4,[Value.int .i64 s.view.epoch]),(5,ints vt.ballot.flat)] bb bq (g:=MsgT.sg)) ?_);refine AL 12 ?_;refine SW 1 bW aG ?_;refine EN (DN ?_)
 exact aF
  SB
  (λ_ s=>ak [2,0,0] rfl s)
  (tl1 ((b4):(Nat)) trivial)
 exact bz;refine aE rfl ?_ ?_;refine LG 0 iA (.pointer (some ⟨vb,0,none⟩)) ?_ (hc:=by exact λa_=>(bR _ rfl));refine EN (cx [4,9,11] (by kernel_rfl) rfl (aE rfl ?_ ?_));refine LG 0 Y3 (.int .i64 (s.view.epoch)) ?_ (hc:=by exact λa_=>(ca (s.rep ⟨(a_:Nat×Value).1,(.pointer (some ⟨vb,0,none⟩)),a_.2⟩) 0 rfl (by decide) (bd _ rfl)));refine EN (cx [9,11] (by kernel_rfl) rfl (aE rfl ?_ ?_));refine CE jB (bH vb vt) (SM [1]) ?_;refine EN (ta 10 rfl (kI MsgT.zero (MsgT.mk 3 0 RowT.zero 0 s.view.epoch vt.ballot BallotT.zero ChangeT.zero ViewT.zero) [(0,[Value.int .i64 3]),(4,[Value.int .i64 s.view.epoch]),(5,ints vt.ballot.flat)] bb bq (g:=MsgT.sg)) ?_);refine AL 11 ?_;refine XZ l9 (ints MsgT.zero.flat) λb4=>?_
 refine EN (AL 12 ?_);refine SW 0 bW aG ?_;refine EN (DN ?_)
 exact aF
  SB
  (λ_ s=>ak [2,1,0] rfl s)
  (tl1 ((b4):(Nat)) trivial)
 refine aE rfl ?_ ?_;refine XZ l9 (ints MsgT.zero.flat) λb4=>?_
 refine EN (AL 9 ?_);refine CE jB (bH vb vt) (SM [2]) ?_;refine EN (ta 10 rfl (kI MsgT.zero (MsgT.mk 3 0 RowT.zero 0 s.view.epoch vt.ballot BallotT.zero ChangeT.zero ViewT.zero) [(0,[Value.int .i64 3]),(4,[Value.int .i64 s.view.epoch]),(5,ints vt.ballot.flat)] bb bq (g:=MsgT.sg)) ?_);refine AL 12 ?_;refine SW 1 bW aG ?_;refine EN (DN ?_)
 exact aF
  SB
  (λ_ s=>ak [2,0,0] rfl s)
  (tl1 ((b4):(Nat)) trivial)
 exact bz;refine aE rfl ?_ ?_;refine CE jB (bH vb vt) (SM [1]) ?_;refine EN (cx [4,11] (by kernel_rfl) rfl (aE rfl ?_ ?_));refine LG 1 Y3 (.int .i64 (s.view.epoch)) ?_ (hc:=by exact λa_=>(ca (s.rep ⟨(a_:Nat×Value).1,(.pointer (some ⟨vb,0,none⟩)),a_.2⟩) 0 rfl (by decide) (bd _ rfl)));refine EN (ta 10 rfl (kI MsgT.zero (MsgT.mk 3 0 RowT.zero 0 s.view.epoch vt.ballot BallotT.zero ChangeT.zero ViewT.zero) [(0,[Value.int .i64 3]),(4,[Value.int .i64 s.view.epoch]),(5,ints vt.ballot.flat)] bb bq (g:=MsgT.sg)) ?_);refine AL 11 ?_;refine XZ l9 (ints MsgT.zero.flat) λb4=>?_
 refine EN (AL 12 ?_);refine SW 0 bW aG ?_;refine EN (DN ?_)
 exact aF
  SB
  (λ_ s=>ak [2,1,0] rfl s)
  (tl1 ((b4):(Nat)) trivial)
 refine aE rfl ?_ ?_;refine XZ l9 (ints MsgT.zero.flat) λb4=>?_
 refine EN (AL 4 ?_);refine LG 2 Y3 (.int .i64 (s.view.epoch)) ?_ (hc:=by exact λa_=>(ca (s.rep ⟨(a_:Nat×Value).1,(.pointer (some ⟨vb,0,none⟩)),a_.2⟩) 0 rfl (by decide) (bd _ rfl)));refine EN (ta 10 rfl (kI MsgT.zero (MsgT.mk 3 0 RowT.zero 0 s.view.epoch vt.ballot BallotT.zero ChangeT.zero ViewT.zero) [(0,[Value.int .i64 3]),(4,[Value.int .i64 s.view.epoch]),(5,ints vt.ballot.flat)] bb bq (g:=MsgT.sg)) ?_);refine AL 12 ?_;refine SW 0 bW aG ?_;refine EN (DN ?_)
 exact aF
  SB
  (λ_ s=>ak [2,1,0] rfl s)
  (tl1 ((b4):(Nat)) trivial)
 exact bz;refine aE rfl ?_ ?_;refine XZ l9 (ints MsgT.zero.flat) λb4=>?_
 refine EN (cx [4,9] (by kernel_rfl) rfl (aE rfl ?_ ?_));refine LG 1 Y3 (.int .i64 (s.view.epoch)) ?_ (hc:=by exact λa_=>(ca (s.rep ⟨(a_:Nat×Value).1,(.pointer (some ⟨vb,0,none⟩)),a_.2⟩) 0 rfl (by decide) (bd _ rfl)));refine EN (AL 9 ?_);refine CE jB (bH vb vt) (SM [2]) ?_;refine EN (ta 10 rfl (kI MsgT.zero (MsgT.mk 3 0 RowT.zero 0 s.view.epoch vt.ballot BallotT.zero ChangeT.zero ViewT.zero) [(0,[Value.int .i64 3]),(4,[Value.int .i64 s.view.epoch]),(5,ints vt.ballot.flat)] bb bq (g:=MsgT.sg)) ?_);refine AL 12 ?_;refine SW 1 bW aG ?_;refine EN (DN ?_)
 exact aF
  SB
  (λ_ s=>ak [2,0,0] rfl s)
  (tl1 ((b4):(Nat)) trivial)
 refine aE rfl ?_ ?_;refine CE jB (bH vb vt) (SM [2]) ?_;refine EN (AL 4 ?_);refine LG 2 Y3 (.int .i64 (s.view.epoch)) ?_ (hc:=by exact λa_=>(ca (s.rep ⟨(a_:Nat×Value).1,(.pointer (some ⟨vb,0,none⟩)),a_.2⟩) 0 rfl (by decide) (bd _ rfl)));refine EN (ta 10 rfl (kI MsgT.zero (MsgT.mk 3 0 RowT.zero 0 s.view.epoch vt.ballot BallotT.zero ChangeT.zero ViewT.zero) [(0,[Value.int .i64 3]),(4,[Value.int .i64 s.view.epoch]),(5,ints vt.ballot.flat)] bb bq (g:=MsgT.sg)) ?_);refine AL 12 ?_;refine SW 1 bW aG ?_;refine EN (DN ?_)
 exact aF
  SB
  (λ_ s=>ak [2,0,0] rfl s)
  (tl1 ((b4):(Nat)) trivial)
 exact bz;exact bz;refine aE rfl ?_ ?_;refine XZ l9 (ints MsgT.zero.flat) λb4=>?_
 refine EN (cx [4,8] (by kernel_rfl) rfl (aE rfl ?_ ?_));refine LG 1 Y3 (.int .i64 (s.view.epoch)) ?_ (hc:=by exact λa_=>(ca (s.rep ⟨(a_:Nat×Value).1,(.pointer (some ⟨vb,0,none⟩)),a_.2⟩) 0 rfl (by decide) (bd _ rfl)));refine EN (AL 8 ?_);refine LG 1 iA (.pointer (some ⟨vb,0,none⟩)) ?_ (hc:=by exact λa_=>(bR _ rfl));refine EN (AL 9 ?_);refine CE jB (bH vb vt) (SM [2]) ?_;refine EN (ta 10 rfl (kI MsgT.zero (MsgT.mk 3 0 RowT.zero 0 s.view.epoch vt.ballot BallotT.zero ChangeT.zero ViewT.zero) [(0,[Value.int .i64 3]),(4,[Value.int .i64 s.view.epoch]),(5,ints vt.ballot.flat)] bb bq (g:=MsgT.sg)) ?_);refine AL 12 ?_;refine SW 1 bW aG ?_;refine EN (DN ?_)
 exact aF
  SB
  (λ_ s=>ak [2,0,0] rfl s)
  (tl1 ((b4):(Nat)) trivial)
 refine aE rfl ?_ ?_;refine LG 1 iA (.pointer (some ⟨vb,0,none⟩)) ?_ (hc:=by exact λa_=>(bR _ rfl));refine EN (cx [4,9] (by kernel_rfl) rfl (aE rfl ?_ ?_));refine LG 1 Y3 (.int .i64 (s.view.epoch)) ?_ (hc:=by exact λa_=>(ca (s.rep ⟨(a_:Nat×Value).1,(.pointer (some ⟨vb,0,none⟩)),a_.2⟩) 0 rfl (by decide) (bd _ rfl)));refine EN (AL 9 ?_);refine CE jB (bH vb vt) (SM [2]) ?_;refine EN (ta 10 rfl (kI MsgT.zero (MsgT.mk 3 0 RowT.zero 0 s.view.epoch vt.ballot BallotT.zero ChangeT.zero ViewT.zero) [(0,[Value.int .i64 3]),(4,[Value.int .i64 s.view.epoch]),(5,ints vt.ballot.flat)] bb bq (g:=MsgT.sg)) ?_);refine AL 12 ?_;refine SW 1 bW aG ?_;refine EN (DN ?_)
 exact aF
  SB
  (λ_ s=>ak [2,0,0] rfl s)
  (tl1 ((b4):(Nat)) trivial)
 refine aE rfl ?_ ?_;refine CE jB (bH vb vt) (SM [2]) ?_;refine EN (AL 4 ?_);refine LG 2 Y3 (.int .i64 (s.view.epoch)) ?_ (hc:=by exact λa_=>(ca (s.rep ⟨(a_:Nat×Value).1,(.pointer (some ⟨vb,0,none⟩)),a_.2⟩) 0 rfl (by decide) (bd _ rfl)));refine EN (ta 10 rfl (kI MsgT.zero (MsgT.mk 3 0 RowT.zero 0 s.view.epoch vt.ballot BallotT.zero ChangeT.zero ViewT.zero) [(0,[Value.int .i64 3]),(4,[Value.int .i64 s.view.epoch]),(5,ints vt.ballot.flat)] bb bq (g:=MsgT.sg)) ?_);refine AL 12 ?_;refine SW 1 bW aG ?_;refine EN (DN ?_)
 exact aF
  SB
  (λ_ s=>ak [2,0,0] rfl s)
  (tl1 ((b4):(Nat)) trivial)
 exact bz;exact bz;exact bz
theorem sc{δ:Type}(V:Env δ)(r:Nat)(s:MS δ)(vt:VoteT)(hv:s.vote=some vt)(hpt:vt.putting=true)[OkR V.toDk s]:DT 113 #[.pointer (some ⟨r,0,none⟩), .iface V.T V.ov] T0 [cD V r s] (dm (λ_ H=>H=[cD V r (kB V.toDk s vt)])):=
 have:OkVt vt:=OkR.vote vt hv
 Leg.Does.ex (λ_ q=>mP hv q) λvb=>xk V r vb s vt hv hpt
theorem qH{δ:Type}(V:Env δ)(r:Nat)(s:MS δ)(from':Int)(m:MsgT)[OkR V.toDk s][OkMg m](hfe:from'=s.id→m.epoch=s.view.epoch)(hk:m.kind=4):TK V r 105 s from' m (qI V.toDk s from' m):=ol (by omega) (by
 cases hv:s.vote with
 |none=>exact kn V r s (pn V.toDk from' m) from' m hfe (λe=>by omega) (λe=>by omega) (λ_=>by rw[pn,show(df s (max s.round m.ballot.round)).vote=none from hv]) (λ_=>hv)
 |some vt=>
  have hov:OkVt vt:=OkR.vote vt hv;have h:=pq V r s vt from' m hfe (.inl hk) hv (λ_ h2=>sc V r (lh (df s (max s.round m.ballot.round)) (eP vt from' m.ballot m.had m.change).1) (eP vt from' m.ballot m.had m.change).1 rfl (Cy h2))
  rwa [show(λs_:MS δ=>if m.kind=4 then pn V.toDk from' m s_ else li V.toDk from' m s_)=pn V.toDk from' m from funext λ_=>if_pos hk]at h)
theorem xg{δ:Type}(V:Env δ)(r:Nat)(s:MS δ)(from':Int)(m:MsgT)[OkR V.toDk s][OkMg m](hep:m.epoch=s.view.epoch):
 DT 170 #[(.pointer (some ⟨r,0,none⟩)),(.iface V.T V.ov),(.int .i64 (from')),(.agg (ints m.flat).toArray)] T0 [cD V r s] (dm (λ_ H=>H=[cD V r (pW V.toDk from' m s)])):=by
 refine BD 57 Tryz.func170 rfl rfl rfl λw0 F hF=>?_
 have hpm:OkMg (kA m.epoch m.ballot (bQ s.acc m.epoch m.ballot).1.had (bQ s.acc m.epoch m.ballot).1.change):=OkMg.promM m.epoch inferInstance;refine sr λ_ J1=>XY (ints m.flat) λb7=>?_
 refine nx J1 (ab λ_ J2=>e7 (α:=(Nat)) (λb8=>True) (λb8=>[(0,(.pointer (some ⟨r,0,none⟩))),(1,(.iface V.T V.ov)),(2,(.int .i64 (from'))),(7,(.pointer (some ⟨b7,0,none⟩))),(8,(.pointer (some ⟨b8,0,none⟩))),(9,(.bool ((bQ s.acc m.epoch m.ballot).2)))]) (λb8=>[cD V r s,ah b7 (ints m.flat) 178,ah b8 (ints ((bQ s.acc m.epoch m.ballot).1).flat) 118]) (λb8 hinv=>?_) (λtl2=>?_));have _:=hinv;refine ac J2 (ab λ_ J3=>sr λ_ J4=>PS ?_);refine aX ?_ ?_<;>intro h22;refine PS ?_;refine nx J4 (CN (qx J3 (ab λ_ J5=>ab λ_ J6=>DC bh (BL 2) (cO 0 rfl rfl) ?_)));refine FD 0 1 iM cq ?_;refine ta 1 rfl (aN (vs:=ints (((bQ s.acc m.epoch m.ballot).1).vow).flat) rfl jY rfl cq rfl (λ_ h=>h.2.1) (ao (((bQ s.acc m.epoch m.ballot).1).vow)) (OM ((bQ s.acc m.epoch m.ballot).1) 0 rfl (by decide) (whole (ao (((bQ s.acc m.epoch m.ballot).1).vow))))) ?_;refine PD 2 ?_;refine PD 3 ?_;refine FD 4 1058 bi du ?_;refine FD 5 1059 iM cq ?_;refine ta 6 rfl (fT (vs:=ints s.acc.vow.flat) rfl jY rfl cq rfl (λ_ h=>h.2.2.1) (ao s.acc.vow) (λa_=>(xI (s.rep a_) 1 rfl (by decide) (OM ((s.rep a_).acc) 0 rfl (by decide) (whole (ao (((s.rep a_).acc).vow))))))) ?_
 refine ta 7 rfl (JC (a:=(((bQ s.acc m.epoch m.ballot).1).vow).flat) (b:=s.acc.vow.flat) (m:=6) (c:=2) KC KA rfl Ld (c9 (ao (((bQ s.acc m.epoch m.ballot).1).vow))) (c9 (ao s.acc.vow)) ⟨fJ Gs GA (c9 (ao (((bQ s.acc m.epoch m.ballot).1).vow))),fJ Gs GA (c9 (ao s.acc.vow))⟩ (OkAc.vow inferInstance) (OkAc.vow inferInstance) rfl rfl rfl) ?_;refine iN ?_ ?_<;>intro h31;refine DN (ac J6 (CY (ab λ_ J7=>sr λ_ J8=>PS ?_)));refine FA 177 bb aQ ?_;refine LU 1 Y3 (eI m rfl) ?_;refine FA 178 bb cq ?_;refine LV 1 jY cq ao oa (y:=m.ballot) ?_;refine tp (kI RecT.zero (RecT.mk 3 0 RowT.zero m.epoch m.ballot ChangeT.zero ViewT.zero) [(0,[Value.int .i64 3]),(3,[Value.int .i64 m.epoch]),(4,ints m.ballot.flat)] iv eF (g:=RecT.sg)) ?_;refine CE wc (kT V r s (gN m.epoch m.ballot)) ID ?_;refine PS ?_;refine an ?_ ?_<;>intro h39;refine nx J8 (CY (ai (ae (ae (WK [0] (dE rfl ?_))))));exact MQ (by rw[pW,if_neg (by rw[h22];decide),if_pos h31,if_pos h39]);refine nx J8 (CN (qx J7 (ad (PS ?_))));refine LW 2 iM du a9 ?_;refine PS ?_;refine FA 1058 bi du ?_
 refine gH (vs:=ints ((bQ s.acc m.epoch m.ballot).1).flat) (i:=0) (aa rfl) rfl rfl rfl rfl rfl (by rw[(a9 ((bQ s.acc m.epoch m.ballot).1))];exact du) (bw _) rfl rfl (λ_=>LC (cN _) (a9 _)) (λa_=>(kg ((eh V.toDk s (gN m.epoch m.ballot)).rep a_) 0 rfl (by have h1:=(a9 ((bQ s.acc m.epoch m.ballot).1));omega) (cn ((a9 (((eh V.toDk s (gN m.epoch m.ballot)).rep a_).acc)).trans (a9 ((bQ s.acc m.epoch m.ballot).1)).symm)))) (nx J5 (ad (P3 ?_)));refine FA 177 bb aQ ?_;refine LU 1 Y3 (eI m rfl) ?_;refine FA 178 bb cq ?_;refine LV 1 jY cq ao oa (y:=m.ballot) ?_;refine FA 3 iM cq ?_;refine LV 2 jY cq ao AccT.sp_had (y:=(((bQ s.acc m.epoch m.ballot).1).had)) ?_;refine FA 5 iM fB ?_;refine LV 2 mX fB aJ AccT.sp_change (y:=(((bQ s.acc m.epoch m.ballot).1).change)) ?_;refine tp (kI MsgT.zero (MsgT.mk 4 0 RowT.zero 0 m.epoch m.ballot (((bQ s.acc m.epoch m.ballot).1).had) (((bQ s.acc m.epoch m.ballot).1).change) ViewT.zero) [(0,[Value.int .i64 4]),(4,[Value.int .i64 m.epoch]),(5,ints m.ballot.flat),(6,ints (((bQ s.acc m.epoch m.ballot).1).had).flat),(7,ints (((bQ s.acc m.epoch m.ballot).1).change).flat)] bb bq (g:=MsgT.sg)) ?_
 refine CZ jb (gf V r (w3 (eh V.toDk s (gN m.epoch m.ballot)) (bQ s.acc m.epoch m.ballot).1) from' (kA m.epoch m.ballot (bQ s.acc m.epoch m.ballot).1.had (bQ s.acc m.epoch m.ballot).1.change) (λs_=>qI V.toDk s_ s_.id (kA m.epoch m.ballot (bQ s.acc m.epoch m.ballot).1.had (bQ s.acc m.epoch m.ballot).1.change)) (λ_=>qH V r (w3 (eh V.toDk s (gN m.epoch m.ballot)) (bQ s.acc m.epoch m.ballot).1) (w3 (eh V.toDk s (gN m.epoch m.ballot)) (bQ s.acc m.epoch m.ballot).1).id (kA m.epoch m.ballot (bQ s.acc m.epoch m.ballot).1.had (bQ s.acc m.epoch m.ballot).1.change) (λ_=>hep) rfl)) ID λvR=>?_
 refine ap (WK [0] (bA rfl ?_));exact MQ (by rw[pW,if_neg (by rw[h22];decide),if_pos h31,if_neg h39];rfl);refine DN (ac J6 (CN (qx J5 (ad (P3 ?_)))));refine FA 177 bb aQ ?_;refine LU 1 Y3 (eI m rfl) ?_;refine FA 178 bb cq ?_;refine LV 1 jY cq ao oa (y:=m.ballot) ?_;refine FA 3 iM cq ?_;refine LV 2 jY cq ao AccT.sp_had (y:=(((bQ s.acc m.epoch m.ballot).1).had)) ?_;refine FA 5 iM fB ?_;refine LV 2 mX fB aJ AccT.sp_change (y:=(((bQ s.acc m.epoch m.ballot).1).change)) ?_;refine tp (kI MsgT.zero (MsgT.mk 4 0 RowT.zero 0 m.epoch m.ballot (((bQ s.acc m.epoch m.ballot).1).had) (((bQ s.acc m.epoch m.ballot).1).change) ViewT.zero) [(0,[Value.int .i64 4]),(4,[Value.int .i64 m.epoch]),(5,ints m.ballot.flat),(6,ints (((bQ s.acc m.epoch m.ballot).1).had).flat),(7,ints (((bQ s.acc m.epoch m.ballot).1).change).flat)] bb bq (g:=MsgT.sg)) ?_;refine CZ jb (gf V r s from' (kA m.epoch m.ballot (bQ s.acc m.epoch m.ballot).1.had (bQ s.acc m.epoch m.ballot).1.change) (λs_=>qI V.toDk s_ s_.id (kA m.epoch m.ballot (bQ s.acc m.epoch m.ballot).1.had (bQ s.acc m.epoch m.ballot).1.change)) (λ_=>qH V r s s.id (kA m.epoch m.ballot (bQ s.acc m.epoch m.ballot).1.had (bQ s.acc m.epoch m.ballot).1.change) (λ_=>hep) rfl)) ID λvR=>?_
 refine ap (WK [0] (bA rfl ?_));exact MQ (by rw[pW,if_neg (by rw[h22];decide),if_neg h31];rfl);refine PS ?_;refine nx J4 (CY (ai (ae (WK [0] (dE rfl ?_)))));exact MQ (by rw[pW,if_pos h22]);refine DC bh (cO 1 rfl rfl) (BL 0) ?_;refine PD 0 ?_;refine PD 1 ?_;refine FD 2 1058 bi du ?_;refine ta 3 rfl (fT (vs:=ints s.acc.flat) rfl iM rfl du rfl (λ_ h=>h.2.1) (a9 s.acc) (λa_=>(xI (s.rep a_) 0 rfl (by decide) (whole (a9 ((s.rep a_).acc)))))) ?_;refine FD 4 177 bb aQ ?_;refine LR 5 Y3 (eI m rfl) ?_;refine FD 6 178 bb cq ?_;refine ta 7 rfl (aN (vs:=ints m.ballot.flat) rfl jY rfl cq rfl (λ_ h=>h.2.2.1) (ao m.ballot) (iR m 0 rfl (by decide) (whole (ao m.ballot)))) ?_;refine cx [8,12] (by kernel_rfl) rfl (aE rfl ?_ ?_);refine CE Ey (nh s.acc m.epoch m.ballot) ID ?_;refine EN (PD 9 ?_);refine PD 10 ?_;refine PD 11 ?_;refine n7 ?_ ?_<;>intro h21;refine AL 12 ?_;refine XZ uW (ints AccT.zero.flat) λb8=>?_
 refine EN (AL 13 ?_);refine SW 0 du a9 ?_;refine EN (PD 14 ?_);refine DN ?_
 exact aF
  (aM (aM (aM (aM (aM (bg rfl (by rw[h21]) SB))))))
  (λ_ s=>ak [2,1,0] rfl s)
  (tl2 ((b8):(Nat)) trivial)
 refine AL 12 ?_;refine XZ uW (ints AccT.zero.flat) λb8=>?_
 refine EN (AL 13 ?_);refine SW 0 du a9 ?_;refine EN (PD 14 ?_);refine DN ?_
 exact aF
  (aM (aM (aM (aM (aM (bg rfl (by rw[h21]) SB))))))
  (λ_ s=>ak [2,1,0] rfl s)
  (tl2 ((b8):(Nat)) trivial)
 refine aE rfl ?_ ?_;refine XZ uW (ints AccT.zero.flat) λb8=>?_
 refine EN (AL 8 ?_);refine CE Ey (nh s.acc m.epoch m.ballot) ID ?_;refine EN (PD 9 ?_);refine PD 10 ?_;refine PD 11 ?_;refine n7 ?_ ?_<;>intro h21;refine AL 13 ?_;refine SW 0 du a9 ?_;refine EN (PD 14 ?_);refine DN ?_
 exact aF
  (aM (aM (aM (aM (aM (bg rfl (by rw[h21]) SB))))))
  (λ_ s=>ak [2,1,0] rfl s)
  (tl2 ((b8):(Nat)) trivial)
 refine AL 13 ?_;refine SW 0 du a9 ?_;refine EN (PD 14 ?_);refine DN ?_
 exact aF
  (aM (aM (aM (aM (aM (bg rfl (by rw[h21]) SB))))))
  (λ_ s=>ak [2,1,0] rfl s)
  (tl2 ((b8):(Nat)) trivial)
 exact bz
theorem vi{δ:Type}(V:Env δ)(r:Nat)(s:MS δ)(from':Int)(m:MsgT)[OkR V.toDk s][OkMg m](hfe:from'=s.id→m.epoch=s.view.epoch)(hk:m.kind=3):TK V r 105 s from' m (s6 V.toDk s from' m):=ol (by omega) (kn V r s (pW V.toDk from' m) from' m hfe (λ_ hep=>xg V r (df s (max s.round m.ballot.round)) from' m hep) (λe _=>by omega) (λe=>by omega) (λe=>by omega))
theorem xl{δ:Type}(V:Env δ)(r vb:Nat)(s:MS δ)(vt:VoteT)(hv:s.vote=some vt)(hpt:vt.putting=false)[OkR V.toDk s][OkVt vt]:
 DT 113 #[(.pointer (some ⟨r,0,none⟩)),(.iface V.T V.ov)] T0 [uU V r s (.pointer (some ⟨vb,0,none⟩)),ah vb (VoteT.cells vt) 227] (dm (λ_ H=>H=[cD V r (mM V.toDk s vt)])):=by
 refine BD 68 Tryz.func113 rfl rfl rfl λw0 F hF=>ab λ_ J1=>e7 (α:=(Nat)) (λb4=>True) (λb4=>[(0,(.pointer (some ⟨r,0,none⟩))),(1,(.iface V.T V.ov)),(4,(.pointer (some ⟨b4,0,none⟩)))]) (λb4=>[uU V r s (.pointer (some ⟨vb,0,none⟩)),ah vb (VoteT.cells vt) 227,ah b4 (ints (fz s.view.epoch vt.ballot).flat) 178]) (λb4 hinv=>?_) (λtl1=>?_)
 have _:=hinv;refine ac J1 (ab λ_ J2=>sr λ_ J3=>P2 ?_);refine FA 1067 bi iV ?_;refine LG 0 iA (.pointer (some ⟨vb,0,none⟩)) ?_ (hc:=by exact λa_=>(bR _ rfl));refine CE JZ (nF vb vt) (SM [1]) ?_;refine aX ?_ ?_<;>intro h22
 · rw[hpt]at h22;cases h22
 refine nx J3 (CN (qx J2 (sr λ_ J4=>cr (H':=cD V r s::[ah b4 (ints (fz s.view.epoch vt.ballot).flat) 178]) (λ_ q=>nR hv (aC [1,0] rfl q)) (P2 ?_))));refine FA 2 bi bc ?_;refine LZ 0 eD bc am s.view ?_ (hc:=by exact λ_=>cM _);refine XZ rr (ints ViewT.zero.flat) λb5=>?_
 refine SW 0 bc am ?_;refine nx J4 (ab λ_ J5=>sr λ_ J6=>PS ?_);refine nx J6 (aq ?_)
 refine bp (α:=(Nat)) (λk=>k≤5) (λk=>[(0,(.pointer (some ⟨r,0,none⟩))),(1,(.iface V.T V.ov)),(4,(.pointer (some ⟨b4,0,none⟩))),(5,(.pointer (some ⟨b5,0,none⟩))),(34,(.int .i64 (((k:Nat):Int))))]) (λk=>[ah b5 (ints s.view.flat) 44,ah b4 (ints (fz s.view.epoch vt.ballot).flat) 178,cD V r (iJ V.toDk s (nO s.id (fz s.view.epoch vt.ballot) (λi=>iK s.view ((i:Nat):Int)) k))]) (λk=>5-k) 0
  (aO _) SB
  (λ_ q=>by
  rw[show nO s.id (fz s.view.epoch vt.ballot) (λi=>iK s.view ((i:Nat):Int)) 0=[]from rfl,pB]
  exact ak [0,1,0] rfl q) (λk hinv=>?_)
 obtain hk:=hinv;refine sr λ_ J7=>PS ?_
 refine an ?_ ?_<;>intro h35;refine nx J7 (ab λ_ J8=>CY (qx J8 (ab λ_ J9=>aq (sr λ_ J10=>P2 ?_))));refine nx J10 (sr λ_ J11=>P3 ?_);refine FA 0 bi aQ ?_;refine LG 2 Y3 (.int .i64 (s.id)) ?_ (hc:=by exact λa_=>(cy _ rfl));refine PS ?_;refine an ?_ ?_<;>intro h42;refine PS ?_;refine LW 0 eD bc am ?_;refine PS ?_;refine CE pI (dx s.view ((k:Nat):Int)) ID ?_;refine aX ?_ ?_<;>intro h46;refine PS ?_;refine nx J11 (CY (ad (P3 ?_)));refine LW 1 bb bW aG ?_;refine CZ jb (nK V r s (nO s.id (fz s.view.epoch vt.ballot) (λi=>iK s.view ((i:Nat):Int)) k) ((k:Nat):Int) (fz s.view.epoch vt.ballot) h42) (SM [2]) λvR=>?_
 refine ap (af (ac J9 (ad (AD ?_))));refine PS ?_;refine ap ?_
 exact aI ((k+1):(Nat)) (by omega) (by show 5- (k+1)<5-k;omega)
  SB
  (λ_ q=>by
   rw[it,if_pos ⟨h42,h46⟩]
   exact ak [1,1,0] rfl q)
 refine PS ?_;refine nx J11 (CN (aR (af (ac J9 (ad (AD ?_))))));refine PS ?_;refine ap ?_
 exact aI ((k+1):(Nat)) (by omega) (by show 5- (k+1)<5-k;omega)
  SB
  (λ_ q=>by
   rw[it,if_neg (λh=>by have:=h.2;rw[h46]at this;cases this)];rw[ba]
   exact ak [0,0,0] rfl q)
 refine PS ?_
 iterate 3 refine UF ?_
 refine PS ?_;refine nx J11 (CN (aR (af (ac J9 (ad (AD ?_))))));refine PS ?_;refine ap ?_
 exact aI ((k+1):(Nat)) (by omega) (by show 5- (k+1)<5-k;omega)
  SB
  (λ_ q=>by
   rw[it,if_neg (λh=>h42 h.1)];rw[ba]
   exact ak [0,0,0] rfl q)
 obtain rfl:k=5:=by omega
 refine nx J7 (ab λ_ J12=>CN (aW (az (az (bm (ac J5 (ab λ_ J13=>DC bh (BL 0) (cO 2 rfl rfl) ?_)))))));refine LY 0 eD bc am ?_;refine PD 1 ?_;refine PD 2 ?_;refine FD 3 0 bi aQ ?_;refine ta 4 rfl (c8 (v:=(.int .i64 ((jE V.toDk s (fz s.view.epoch vt.ballot)).id))) rfl Y3 rfl rfl (λ_ h=>h.2.2.1) (λa_=>(cy _ rfl))) ?_;refine AL 5 ?_;refine CE pI (dx s.view ((jE V.toDk s (fz s.view.epoch vt.ballot)).id)) ID ?_;refine aX ?_ ?_<;>intro h59;refine EN (DN (ac J13 (CY (D1 1 bh ?_))));refine PD 0 ?_;refine PD 1 ?_;refine PD 2 ?_;refine PD 3 ?_;refine FD 4 0 bi aQ ?_;refine LY 6 bb bW aG ?_;refine AL 5 ?_;refine LG 2 Y3 (.int .i64 ((jE V.toDk s (fz s.view.epoch vt.ballot)).id)) ?_ (hc:=by exact λa_=>(cy _ rfl));refine EN (AL 7 ?_);refine CZ jb (gf V r (jE V.toDk s (fz s.view.epoch vt.ballot)) s.id (fz s.view.epoch vt.ballot) (λs_=>s6 V.toDk s_ s_.id (fz s.view.epoch vt.ballot)) (λ_=>vi V r (jE V.toDk s (fz s.view.epoch vt.ballot)) s.id (fz s.view.epoch vt.ballot) (λ_=>rfl) rfl)) (SM [2]) λvR=>?_
 refine EN (DN (WK [0] (bA rfl ?_)));exact MQ (by rw[mM,jI,if_pos (show iK s.view s.id=true from h59),nb,if_pos (show s.id=(jE V.toDk s (fz s.view.epoch vt.ballot)).id from rfl)]<;>rfl);refine EN (DN (ac J13 (CN (aR (WK [2] (bA rfl ?_))))));exact MQ (by rw[mM,jI,if_neg (by rw[show iK s.view s.id=false from h59];decide)]<;>rfl);refine D1 1 bh ?_;refine PD 0 ?_;refine PD 1 ?_;refine FD 2 2 bi bc ?_;refine FD 3 2 eD aQ ?_;refine PD 5 ?_;refine PD 6 ?_;refine FD 7 1067 bi iV ?_;refine cx [4,8,11] (by kernel_rfl) rfl (aE rfl ?_ ?_);refine LG 0 Y3 (.int .i64 (s.view.epoch)) ?_ (hc:=by exact λa_=>(ca (s.rep ⟨(a_:Nat×Value).1,(.pointer (some ⟨vb,0,none⟩)),a_.2⟩) 0 rfl (by decide) (bd _ rfl)));refine EN (cx [8,11] (by kernel_rfl) rfl (aE rfl ?_ ?_));refine LG 0 iA (.pointer (some ⟨vb,0,none⟩)) ?_ (hc:=by exact λa_=>(bR _ rfl));refine EN (cx [9,11] (by kernel_rfl) rfl (aE rfl ?_ ?_));refine CE jB (bH vb vt) (SM [1]) ?_;refine EN (ta 10 rfl (kI MsgT.zero (MsgT.mk 3 0 RowT.zero 0 s.view.epoch vt.ballot BallotT.zero ChangeT.zero ViewT.zero) [(0,[Value.int .i64 3]),(4,[Value.int .i64 s.view.epoch]),(5,ints vt.ballot.flat)] bb bq (g:=MsgT.sg)) ?_);refine AL 11 ?_;refine XZ l9 (ints MsgT.zero.flat) λb4=>?_
 refine EN (AL 12 ?_);refine SW 0 bW aG ?_;refine EN (DN ?_)
 exact aF
  SB
  (λ_ s=>ak [2,1,0] rfl s)
  (tl1 ((b4):(Nat)) trivial)
 refine aE rfl ?_ ?_;refine XZ l9 (ints MsgT.zero.flat) λb4=>?_
 refine EN (AL 9 ?_);refine CE jB (bH vb vt) (SM [2]) ?_;refine EN (ta 10 rfl (kI MsgT.zero (MsgT.mk 3 0 RowT.zero 0 s.view.epoch vt.ballot BallotT.zero ChangeT.zero ViewT.zero) [(0,[Value.int .i64 3]),(4,[Value.int .i64 s.view.epoch]),(5,ints vt.ballot.flat)] bb bq (g:=MsgT.sg)) ?_);refine AL 12 ?_;refine SW 1 bW aG ?_;refine EN (DN ?_)
 exact aF
  SB
  (λ_ s=>ak [2,0,0] rfl s)
  (tl1 ((b4):(Nat)) trivial)
 exact bz;refine aE rfl ?_ ?_;refine XZ l9 (ints MsgT.zero.flat) λb4=>?_
 refine EN (AL 8 ?_);refine LG 1 iA (.pointer (some ⟨vb,0,none⟩)) ?_ (hc:=by exact λa_=>(bR _ rfl));refine EN (AL 9 ?_);refine CE jB (bH vb vt) (SM [2]) ?_;refine EN (ta 10 rfl (kI MsgT.zero (MsgT.mk 3 0 RowT.zero 0 s.view.epoch vt.ballot BallotT.zero ChangeT.zero ViewT.zero) [(0,[Value.int .i64 3]),(4,[Value.int .i64 s.view.epoch]),(5,ints vt.ballot.flat)] bb bq (g:=MsgT.sg)) ?_);refine AL 12 ?_;refine SW 1 bW aG ?_;refine EN (DN ?_)
 exact aF
  SB
  (λ_ s=>ak [2,0,0] rfl s)
  (tl1 ((b4):(Nat)) trivial)
 exact bz;refine aE rfl ?_ ?_;refine LG 0 iA (.pointer (some ⟨vb,0,none⟩)) ?_ (hc:=by exact λa_=>(bR _ rfl));refine EN (cx [4,9,11] (by kernel_rfl) rfl (aE rfl ?_ ?_));refine LG 0 Y3 (.int .i64 (s.view.epoch)) ?_ (hc:=by exact λa_=>(ca (s.rep ⟨(a_:Nat×Value).1,(.pointer (some ⟨vb,0,none⟩)),a_.2⟩) 0 rfl (by decide) (bd _ rfl)));refine EN (cx [9,11] (by kernel_rfl) rfl (aE rfl ?_ ?_));refine CE jB (bH vb vt) (SM [1]) ?_;refine EN (ta 10 rfl (kI MsgT.zero (MsgT.mk 3 0 RowT.zero 0 s.view.epoch vt.ballot BallotT.zero ChangeT.zero ViewT.zero) [(0,[Value.int .i64 3]),(4,[Value.int .i64 s.view.epoch]),(5,ints vt.ballot.flat)] bb bq (g:=MsgT.sg)) ?_);refine AL 11 ?_;refine XZ l9 (ints MsgT.zero.flat) λb4=>?_
 refine EN (AL 12 ?_);refine SW 0 bW aG ?_;refine EN (DN ?_)
 exact aF
  SB
  (λ_ s=>ak [2,1,0] rfl s)
  (tl1 ((b4):(Nat)) trivial)
 refine aE rfl ?_ ?_;refine XZ l9 (ints MsgT.zero.flat) λb4=>?_
 refine EN (AL 9 ?_);refine CE jB (bH vb vt) (SM [2]) ?_;refine EN (ta 10 rfl (kI MsgT.zero (MsgT.mk 3 0 RowT.zero 0 s.view.epoch vt.ballot BallotT.zero ChangeT.zero ViewT.zero) [(0,[Value.int .i64 3]),(4,[Value.int .i64 s.view.epoch]),(5,ints vt.ballot.flat)] bb bq (g:=MsgT.sg)) ?_);refine AL 12 ?_;refine SW 1 bW aG ?_;refine EN (DN ?_)
 exact aF
  SB
  (λ_ s=>ak [2,0,0] rfl s)
  (tl1 ((b4):(Nat)) trivial)
 exact bz;refine aE rfl ?_ ?_;refine CE jB (bH vb vt) (SM [1]) ?_;refine EN (cx [4,11] (by kernel_rfl) rfl (aE rfl ?_ ?_));refine LG 1 Y3 (.int .i64 (s.view.epoch)) ?_ (hc:=by exact λa_=>(ca (s.rep ⟨(a_:Nat×Value).1,(.pointer (some ⟨vb,0,none⟩)),a_.2⟩) 0 rfl (by decide) (bd _ rfl)));refine EN (ta 10 rfl (kI MsgT.zero (MsgT.mk 3 0 RowT.zero 0 s.view.epoch vt.ballot BallotT.zero ChangeT.zero ViewT.zero) [(0,[Value.int .i64 3]),(4,[Value.int .i64 s.view.epoch]),(5,ints vt.ballot.flat)] bb bq (g:=MsgT.sg)) ?_);refine AL 11 ?_;refine XZ l9 (ints MsgT.zero.flat) λb4=>?_
 refine EN (AL 12 ?_);refine SW 0 bW aG ?_;refine EN (DN ?_)
 exact aF
  SB
  (λ_ s=>ak [2,1,0] rfl s)
  (tl1 ((b4):(Nat)) trivial)
 refine aE rfl ?_ ?_;refine XZ l9 (ints MsgT.zero.flat) λb4=>?_
 refine EN (AL 4 ?_);refine LG 2 Y3 (.int .i64 (s.view.epoch)) ?_ (hc:=by exact λa_=>(ca (s.rep ⟨(a_:Nat×Value).1,(.pointer (some ⟨vb,0,none⟩)),a_.2⟩) 0 rfl (by decide) (bd _ rfl)));refine EN (ta 10 rfl (kI MsgT.zero (MsgT.mk 3 0 RowT.zero 0 s.view.epoch vt.ballot BallotT.zero ChangeT.zero ViewT.zero) [(0,[Value.int .i64 3]),(4,[Value.int .i64 s.view.epoch]),(5,ints vt.ballot.flat)] bb bq (g:=MsgT.sg)) ?_);refine AL 12 ?_;refine SW 0 bW aG ?_;refine EN (DN ?_)
 exact aF
  SB
  (λ_ s=>ak [2,1,0] rfl s)
  (tl1 ((b4):(Nat)) trivial)
 exact bz;refine aE rfl ?_ ?_;refine XZ l9 (ints MsgT.zero.flat) λb4=>?_
 refine EN (cx [4,9] (by kernel_rfl) rfl (aE rfl ?_ ?_));refine LG 1 Y3 (.int .i64 (s.view.epoch)) ?_ (hc:=by exact λa_=>(ca (s.rep ⟨(a_:Nat×Value).1,(.pointer (some ⟨vb,0,none⟩)),a_.2⟩) 0 rfl (by decide) (bd _ rfl)));refine EN (AL 9 ?_);refine CE jB (bH vb vt) (SM [2]) ?_;refine EN (ta 10 rfl (kI MsgT.zero (MsgT.mk 3 0 RowT.zero 0 s.view.epoch vt.ballot BallotT.zero ChangeT.zero ViewT.zero) [(0,[Value.int .i64 3]),(4,[Value.int .i64 s.view.epoch]),(5,ints vt.ballot.flat)] bb bq (g:=MsgT.sg)) ?_);refine AL 12 ?_;refine SW 1 bW aG ?_;refine EN (DN ?_)
 exact aF
  SB
  (λ_ s=>ak [2,0,0] rfl s)
  (tl1 ((b4):(Nat)) trivial)
 refine aE rfl ?_ ?_;refine CE jB (bH vb vt) (SM [2]) ?_;refine EN (AL 4 ?_);refine LG 2 Y3 (.int .i64 (s.view.epoch)) ?_ (hc:=by exact λa_=>(ca (s.rep ⟨(a_:Nat×Value).1,(.pointer (some ⟨vb,0,none⟩)),a_.2⟩) 0 rfl (by decide) (bd _ rfl)));refine EN (ta 10 rfl (kI MsgT.zero (MsgT.mk 3 0 RowT.zero 0 s.view.epoch vt.ballot BallotT.zero ChangeT.zero ViewT.zero) [(0,[Value.int .i64 3]),(4,[Value.int .i64 s.view.epoch]),(5,ints vt.ballot.flat)] bb bq (g:=MsgT.sg)) ?_);refine AL 12 ?_;refine SW 1 bW aG ?_;refine EN (DN ?_)
 exact aF
  SB
  (λ_ s=>ak [2,0,0] rfl s)
  (tl1 ((b4):(Nat)) trivial)
 exact bz;exact bz;refine aE rfl ?_ ?_;refine XZ l9 (ints MsgT.zero.flat) λb4=>?_
 refine EN (cx [4,8] (by kernel_rfl) rfl (aE rfl ?_ ?_));refine LG 1 Y3 (.int .i64 (s.view.epoch)) ?_ (hc:=by exact λa_=>(ca (s.rep ⟨(a_:Nat×Value).1,(.pointer (some ⟨vb,0,none⟩)),a_.2⟩) 0 rfl (by decide) (bd _ rfl)));refine EN (AL 8 ?_);refine LG 1 iA (.pointer (some ⟨vb,0,none⟩)) ?_ (hc:=by exact λa_=>(bR _ rfl));refine EN (AL 9 ?_);refine CE jB (bH vb vt) (SM [2]) ?_;refine EN (ta 10 rfl (kI MsgT.zero (MsgT.mk 3 0 RowT.zero 0 s.view.epoch vt.ballot BallotT.zero ChangeT.zero ViewT.zero) [(0,[Value.int .i64 3]),(4,[Value.int .i64 s.view.epoch]),(5,ints vt.ballot.flat)] bb bq (g:=MsgT.sg)) ?_);refine AL 12 ?_;refine SW 1 bW aG ?_;refine EN (DN ?_)
 exact aF
  SB
  (λ_ s=>ak [2,0,0] rfl s)
  (tl1 ((b4):(Nat)) trivial)
 refine aE rfl ?_ ?_;refine LG 1 iA (.pointer (some ⟨vb,0,none⟩)) ?_ (hc:=by exact λa_=>(bR _ rfl));refine EN (cx [4,9] (by kernel_rfl) rfl (aE rfl ?_ ?_));refine LG 1 Y3 (.int .i64 (s.view.epoch)) ?_ (hc:=by exact λa_=>(ca (s.rep ⟨(a_:Nat×Value).1,(.pointer (some ⟨vb,0,none⟩)),a_.2⟩) 0 rfl (by decide) (bd _ rfl)));refine EN (AL 9 ?_);refine CE jB (bH vb vt) (SM [2]) ?_;refine EN (ta 10 rfl (kI MsgT.zero (MsgT.mk 3 0 RowT.zero 0 s.view.epoch vt.ballot BallotT.zero ChangeT.zero ViewT.zero) [(0,[Value.int .i64 3]),(4,[Value.int .i64 s.view.epoch]),(5,ints vt.ballot.flat)] bb bq (g:=MsgT.sg)) ?_);refine AL 12 ?_;refine SW 1 bW aG ?_;refine EN (DN ?_)
 exact aF
  SB
  (λ_ s=>ak [2,0,0] rfl s)
  (tl1 ((b4):(Nat)) trivial)
 refine aE rfl ?_ ?_;refine CE jB (bH vb vt) (SM [2]) ?_;refine EN (AL 4 ?_);refine LG 2 Y3 (.int .i64 (s.view.epoch)) ?_ (hc:=by exact λa_=>(ca (s.rep ⟨(a_:Nat×Value).1,(.pointer (some ⟨vb,0,none⟩)),a_.2⟩) 0 rfl (by decide) (bd _ rfl)));refine EN (ta 10 rfl (kI MsgT.zero (MsgT.mk 3 0 RowT.zero 0 s.view.epoch vt.ballot BallotT.zero ChangeT.zero ViewT.zero) [(0,[Value.int .i64 3]),(4,[Value.int .i64 s.view.epoch]),(5,ints vt.ballot.flat)] bb bq (g:=MsgT.sg)) ?_);refine AL 12 ?_;refine SW 1 bW aG ?_;refine EN (DN ?_)
 exact aF
  SB
  (λ_ s=>ak [2,0,0] rfl s)
  (tl1 ((b4):(Nat)) trivial)
 exact bz;exact bz;exact bz
theorem zu{δ:Type}(V:Env δ)(r:Nat)(s:MS δ)(vt:VoteT)(hv:s.vote=some vt)(hpt:vt.putting=false)[OkR V.toDk s]:DT 113 #[.pointer (some ⟨r,0,none⟩), .iface V.T V.ov] T0 [cD V r s] (dm (λ_ H=>H=[cD V r (mM V.toDk s vt)])):=
 have:OkVt vt:=OkR.vote vt hv
 Leg.Does.ex (λ_ q=>mP hv q) λvb=>xl V r vb s vt hv hpt
theorem qN{δ:Type}(V:Env δ)(r:Nat)(s:MS δ)(vt:VoteT)(hv:s.vote=some vt)[OkR V.toDk s]:DT 113 #[.pointer (some ⟨r,0,none⟩), .iface V.T V.ov] T0 [cD V r s] (dm (λ_ H=>H=[cD V r (oR V.toDk s vt)])):=by
 cases hp:vt.putting with
 |true=>rw[oR,if_pos hp];exact sc V r s vt hv hp
 |false=>rw[oR,if_neg (by rw[hp];decide)];exact zu V r s vt hv hp
theorem y7{δ:Type}(V:Env δ)(r:Nat)(s:MS δ)(from':Int)(m:MsgT)[OkR V.toDk s][OkMg m](hto:from'≠s.id)(hrs:s.replies.length≤1000000):TK V r 105 s from' m (gk V.toDk s from' m):=by
 have hfe:from'=s.id→m.epoch=s.view.epoch:=λe=>absurd e hto
 by_cases h3:m.kind=3
 · rw[gk];simp only[h3];exact vi V r s from' m hfe h3
 by_cases h4:m.kind=4
 · rw[gk];simp only[h4];exact qH V r s from' m hfe h4
 by_cases h5:m.kind=5
 · rw[gk];simp only[h5];exact vh V r s from' m hfe h5
 by_cases h6:m.kind=6
 · rw[gk];simp only[h6];exact qF V r s from' m hfe h6
 refine om V r s _ from' m (λh=>?_) (λh=>?_) (λh=>?_) (λh=>?_) (λh=>?_) (λh=>?_) (λh=>by omega) (λh=>?_)
 · rw[gk,if_pos h];exact xe V r s from' m hto
 · rw[gk,if_neg (by omega),if_pos h];exact vg V r s from' m hrs
 · rw[gk,if_neg (by omega),if_neg (by omega),if_pos h]
 · rw[gk,if_neg (by omega),if_neg (by omega),if_neg (by omega),if_pos h];exact ua V r s m.view
 · rw[gk,if_neg (by omega),if_neg (by omega),if_neg (by omega),if_neg (by omega),if_pos h];exact vf V r s from' m
 · rw[gk,if_neg (by omega),if_neg (by omega),if_neg (by omega),if_neg (by omega),if_neg (by omega),if_pos h];exact nH V r s from' m
 · rw[gk,if_neg h.1,if_neg h.2.1,if_neg h.2.2.1,if_neg h.2.2.2.1,if_neg h.2.2.2.2.1,if_neg h.2.2.2.2.2.1,if_neg h3,if_neg h4,if_neg h5,if_neg h6]
end Go.Proofs.YtjblgopghhgflaaGreat
end
